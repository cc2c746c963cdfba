/-
  Walk: ValueOrders returns true for every three values; the memory that was there is as it was.
-/
import Derived.Test.YtbpnnhdhpahbjaaDoorWk
import Derived.Test.YtbpnnhdhpahbjaaDoorPlainO
namespace Go.Proofs.YtbpnnhdhpahbjaaDoor
open Go.RowKit Go.Sort

theorem rows1 (a b c : V) : cmpRows [a, b] [a, c] = b.cmp c := by
  have h0 : a.cmp a = 0 := (V.cmp_zero a a).2 rfl
  simp only [cmpRows, h0, if_true]
  split
  · rename_i h; exact h.symm
  · rfl
theorem rows2 (a b : V) : cmpRows [a] [a, b] = -1 := by
  have h0 : a.cmp a = 0 := (V.cmp_zero a a).2 rfl
  simp [cmpRows, h0]

set_option maxRecDepth 100000 in
set_option maxHeartbeats 4000000 in
theorem orders_right (a b c : V) (ha : a.right = true) (hb : b.right = true) (hc : c.right = true) (w : World) :
    Calls Tryd.prog 6 #[a.val, b.val, c.val] w fun e w' => e = .returned (.bool true) ∧ Below w.heap.size w w' := by
  have Ra := Lib.hid (fun w => refRight_any a w)
  have Rb := Lib.hid (fun w => refRight_any b w)
  have Rc := Lib.hid (fun w => refRight_any c w)
  rw [ha] at Ra
  rw [hb] at Rb
  rw [hc] at Rc
  clear ha hb hc
  unfold V.val
  go_enter Tryd.func6, Tryd.ntmps6
  go_wp2_with fail
  refine (Ra.out _).mono ?_
  rintro e w1 ⟨rfl, hb1⟩
  have HA : Hid (HasV w1 w.heap.size a) := HasV.kept (by show _ = _; repeat (first | (refine blk_same _ _ _ ?_; focus (simp; done)) | (refine blk_old ?_ ?_; focus (first | omega | (simp; done) | (simp; omega))))) hb1
  have HB : Hid (HasV w1 (w.heap.size + 1) b) := HasV.kept (by show _ = _; repeat (first | (refine blk_same _ _ _ ?_; focus (simp; done)) | (refine blk_old ?_ ?_; focus (first | omega | (simp; done) | (simp; omega))))) hb1
  have HC : Hid (HasV w1 (w.heap.size + 1 + 1) c) := HasV.kept (by show _ = _; repeat (first | (refine blk_same _ _ _ ?_; focus (simp; done)) | (refine blk_old ?_ ?_; focus (first | omega | (simp; done) | (simp; omega))))) hb1
  have HL : Hid (Below w.heap.size w w1) := Below.trans (by go_grown) (hb1.mono (by simp; omega))
  clear hb1
  obtain ⟨b0, b1, b2⟩ := HB.out.cells
  go_wp2_with fail
  refine (Rb.out _).mono ?_
  rintro e w2 ⟨rfl, hb2⟩
  clear b0 b1 b2
  replace HA := Lib.hid (HA.out.kept hb2); replace HB := Lib.hid (HB.out.kept hb2); replace HC := Lib.hid (HC.out.kept hb2); replace HL := Lib.hid (HL.out.step hb2)
  clear hb2
  obtain ⟨b0, b1, b2⟩ := HC.out.cells
  go_wp2_with fail
  refine (Rc.out _).mono ?_
  rintro e w3 ⟨rfl, hb2⟩
  clear b0 b1 b2
  replace HA := Lib.hid (HA.out.kept hb2); replace HB := Lib.hid (HB.out.kept hb2); replace HC := Lib.hid (HC.out.kept hb2); replace HL := Lib.hid (HL.out.step hb2)
  clear hb2
  go_wp2_with fail
  have C1 : Hid (∀ (x y : V) w, Calls Tryd.prog 13 #[.agg #[.int .i64 x.k, .int .i64 x.n, .string x.s], .agg #[.int .i64 y.k, .int .i64 y.n, .string y.s]] w fun e w' => e = .returned (.int .i64 (x.cmp y)) ∧ Laid w w') := fun x y w => compare_any x y w
  obtain ⟨a0, a1, a2⟩ := HA.out.cells
  replace a0 := cell_regrown a0; replace a1 := cell_regrown a1; replace a2 := cell_regrown a2
  obtain ⟨b0, b1, b2⟩ := HB.out.cells
  replace b0 := cell_regrown b0; replace b1 := cell_regrown b1; replace b2 := cell_regrown b2
  obtain ⟨c0, c1, c2⟩ := HC.out.cells
  replace c0 := cell_regrown c0; replace c1 := cell_regrown c1; replace c2 := cell_regrown c2
  refine wp_region_mixed 12 [(0, false), (1, false), (2, false), (3, false), (4, false), (5, false), (6, false), (7, false), (8, false), (9, false), (10, false), (11, false)] (by kernel_rfl) (by kernel_rfl) ?_
  repeat (refine wpM_mild rfl (fun K hK => ?_); go_simp; first | (refine hK _ ?_; clear hK K) | (apply Exists.intro; refine ⟨fun _ => ?_, hK _ ?_⟩; (first | with_reducible exact C1.out _ _ _); clear hK K))
  refine wpM_end ?_
  intro w4 _ hb2
  clear a0 a1 a2 b0 b1 b2 c0 c1 c2
  replace HA := Lib.hid (HA.out.kept hb2); replace HB := Lib.hid (HB.out.kept hb2); replace HC := Lib.hid (HC.out.kept hb2); replace HL := Lib.hid (HL.out.step hb2)
  clear hb2
  obtain ⟨a0, a1, a2⟩ := HA.out.cells
  obtain ⟨b0, b1, b2⟩ := HB.out.cells
  go_wp2_with fail
  refine (compare_any b a _).mono ?_
  rintro e w5 ⟨rfl, hb2⟩
  clear a0 a1 a2 b0 b1 b2
  replace HA := Lib.hid (HA.out.kept hb2); replace HB := Lib.hid (HB.out.kept hb2); replace HC := Lib.hid (HC.out.kept hb2); replace HL := Lib.hid (HL.out.step hb2)
  clear hb2
  have hx := V.cmp_bound a b
  have hxz : (a.cmp b == 0) = V.same a b := by
    rw [Bool.eq_iff_iff]; simp [V.same, V.cmp_zero]
  rw [V.cmp_neg a b]
  have hT := V.cmp_tri a b c
  have hR1 := rows1 a b c
  have hz := V.cmp_bound a c
  have hy := V.cmp_bound b c
  generalize a.cmp b = x at *
  generalize b.cmp c = y at *
  generalize a.cmp c = z at *
  obtain ⟨hx1, hx2⟩ := hx
  obtain ⟨hy1, hy2⟩ := hy
  obtain ⟨hz1, hz2⟩ := hz
  have HT := Lib.hid hT
  have HR1 := Lib.hid hR1
  have heq := fun w => eql_V a.k a.n a.s b.k b.n b.s w
  have hs2 : V.same ⟨a.k, a.n, a.s⟩ ⟨b.k, b.n, b.s⟩ = (x == 0) := hxz.symm
  rw [hs2] at heq
  clear hT hR1 hxz hs2
  obtain ⟨a0, a1, a2⟩ := HA.out.cells
  obtain ⟨b0, b1, b2⟩ := HB.out.cells
  obtain ⟨h1, _, _⟩ := (show Tri x y z from HT.out)
  have hcase : (x = 1) ∨ (x = 0 ∧ y = 1) ∨ (x = -1 ∧ y = 1) ∨ (x = 0 ∧ y = 0 ∧ z = 0) ∨ (x = -1 ∧ y = 0 ∧ z = -1) ∨ (x = -1 ∧ y = -1 ∧ z = -1) ∨ (x = 0 ∧ y = -1 ∧ z = -1) := by omega
  clear HT h1
  rcases hcase with rfl | ⟨rfl, rfl⟩ | ⟨rfl, rfl⟩ | ⟨rfl, rfl, rfl⟩ | ⟨rfl, rfl, rfl⟩ | ⟨rfl, rfl, rfl⟩ | ⟨rfl, rfl, rfl⟩
  all_goals
    go_wp2_with fail
    refine (sanity_any _).mono ?_
    rintro e w6 ⟨rfl, hb2⟩
    clear a0 a1 a2 b0 b1 b2 heq
    have HA6 := Lib.hid (HA.out.kept hb2)
    have HB6 := Lib.hid (HB.out.kept hb2)
    have HC6 := Lib.hid (HC.out.kept hb2)
    have HL6 := Lib.hid (HL.out.step hb2)
    clear hb2 HA HB HC HL
    obtain ⟨a0, a1, a2⟩ := HA6.out.cells
    obtain ⟨b0, b1, b2⟩ := HB6.out.cells
    obtain ⟨c0, c1, c2⟩ := HC6.out.cells
    have s0 := HA6.out.lt
    have s1 := HB6.out.lt
    have s2 := HC6.out.lt
    go_wp2_with fail
    refine Calls.mono (compareRows_any _ _ [a, b] [a, c] _ (Or.inr ⟨_, 0, 2, rfl, rowAt_two _ _ a b 23 (by repeat (first | (refine blk_same _ _ _ ?_; focus (simp; done)) | (refine blk_old ?_ ?_; focus (first | omega | (simp; done) | (simp; omega)))))⟩) (Or.inr ⟨_, 0, 2, rfl, rowAt_two _ _ a c 23 (by repeat (first | (refine blk_same _ _ _ ?_; focus (simp; done)) | (refine blk_old ?_ ?_; focus (first | omega | (simp; done) | (simp; omega)))))⟩) (by simp) (by simp)) ?_
    rw [HR1.out]
    rintro e w7 ⟨rfl, hb2⟩
    clear a0 a1 a2 b0 b1 b2 c0 c1 c2 s0 s1 s2
    replace hb2 : Below w6.heap.size w6 w7 := Below.trans (by go_grown) (hb2.mono (by simp; omega))
    have HA7 := Lib.hid (HA6.out.kept hb2)
    have HB7 := Lib.hid (HB6.out.kept hb2)
    have HL7 := Lib.hid (HL6.out.step hb2)
    clear hb2 HA6 HB6 HC6 HL6
    obtain ⟨a0, a1, a2⟩ := HA7.out.cells
    obtain ⟨b0, b1, b2⟩ := HB7.out.cells
    have s0 := HA7.out.lt
    have s1 := HB7.out.lt
    go_wp2_with fail
    refine Calls.mono (compareRows_any _ _ [a] [a, b] _ (Or.inr ⟨_, 0, 1, rfl, rowAt_one _ _ a 23 (by repeat (first | (refine blk_same _ _ _ ?_; focus (simp; done)) | (refine blk_old ?_ ?_; focus (first | omega | (simp; done) | (simp; omega)))))⟩) (Or.inr ⟨_, 0, 2, rfl, rowAt_two _ _ a b 23 (by repeat (first | (refine blk_same _ _ _ ?_; focus (simp; done)) | (refine blk_old ?_ ?_; focus (first | omega | (simp; done) | (simp; omega)))))⟩) (by simp) (by simp)) ?_
    rw [rows2]
    rintro e w8 ⟨rfl, hb2⟩
    clear a0 a1 a2 b0 b1 b2 s0 s1
    replace hb2 : Below w7.heap.size w7 w8 := Below.trans (by go_grown) (hb2.mono (by simp; omega))
    have HL8 := Lib.hid (HL7.out.step hb2)
    clear hb2 HA7 HB7 HL7
    go_wp2_with fail
    go_returns
    exact ⟨rfl, HL8.out⟩

set_option maxRecDepth 100000 in
theorem orders_any (a b c : V) (w : World) : Calls Tryd.prog 6 #[a.val, b.val, c.val] w fun e w' => e = .returned (.bool true) ∧ Below w.heap.size w w' := by
  have Ra := Lib.hid (fun w => refRight_any a w)
  have Rb := Lib.hid (fun w => refRight_any b w)
  have Rc := Lib.hid (fun w => refRight_any c w)
  cases ha : a.right
  · rw [ha] at Ra
    clear ha
    unfold V.val
    go_enter Tryd.func6, Tryd.ntmps6
    go_wp2_with fail
    refine (Ra.out _).mono ?_
    rintro e w1 ⟨rfl, hb1⟩
    have HL : Hid (Below w.heap.size w w1) := Below.trans (by go_grown) (hb1.mono (by simp; omega))
    clear hb1
    go_wp2_with fail
    refine (sanity_any _).mono ?_
    rintro e w5 ⟨rfl, hb5⟩
    go_wp2_with fail
    go_returns
    exact ⟨rfl, HL.out.step hb5⟩
  cases hb : b.right
  · rw [ha] at Ra
    rw [hb] at Rb
    clear ha hb
    unfold V.val
    go_enter Tryd.func6, Tryd.ntmps6
    go_wp2_with fail
    refine (Ra.out _).mono ?_
    rintro e w1 ⟨rfl, hb1⟩
    have HB : Hid (HasV w1 (w.heap.size + 1) b) := HasV.kept (by show _ = _; repeat (first | (refine blk_same _ _ _ ?_; focus (simp; done)) | (refine blk_old ?_ ?_; focus (first | omega | (simp; done) | (simp; omega))))) hb1
    have HL : Hid (Below w.heap.size w w1) := Below.trans (by go_grown) (hb1.mono (by simp; omega))
    clear hb1
    obtain ⟨b0, b1, b2⟩ := HB.out.cells
    go_wp2_with fail
    refine (Rb.out _).mono ?_
    rintro e w2 ⟨rfl, hb2⟩
    replace HL := Lib.hid (HL.out.step hb2)
    clear hb2 b0 b1 b2
    go_wp2_with fail
    refine (sanity_any _).mono ?_
    rintro e w5 ⟨rfl, hb5⟩
    go_wp2_with fail
    go_returns
    exact ⟨rfl, HL.out.step hb5⟩
  cases hc : c.right
  · rw [ha] at Ra
    rw [hb] at Rb
    rw [hc] at Rc
    clear ha hb hc
    unfold V.val
    go_enter Tryd.func6, Tryd.ntmps6
    go_wp2_with fail
    refine (Ra.out _).mono ?_
    rintro e w1 ⟨rfl, hb1⟩
    have HB : Hid (HasV w1 (w.heap.size + 1) b) := HasV.kept (by show _ = _; repeat (first | (refine blk_same _ _ _ ?_; focus (simp; done)) | (refine blk_old ?_ ?_; focus (first | omega | (simp; done) | (simp; omega))))) hb1
    have HC : Hid (HasV w1 (w.heap.size + 1 + 1) c) := HasV.kept (by show _ = _; repeat (first | (refine blk_same _ _ _ ?_; focus (simp; done)) | (refine blk_old ?_ ?_; focus (first | omega | (simp; done) | (simp; omega))))) hb1
    have HL : Hid (Below w.heap.size w w1) := Below.trans (by go_grown) (hb1.mono (by simp; omega))
    clear hb1
    obtain ⟨b0, b1, b2⟩ := HB.out.cells
    go_wp2_with fail
    refine (Rb.out _).mono ?_
    rintro e w2 ⟨rfl, hb2⟩
    replace HL := Lib.hid (HL.out.step hb2)
    replace HC := Lib.hid (HC.out.kept hb2)
    clear hb2 b0 b1 b2
    obtain ⟨b0, b1, b2⟩ := HC.out.cells
    go_wp2_with fail
    refine (Rc.out _).mono ?_
    rintro e w3 ⟨rfl, hb2⟩
    replace HL := Lib.hid (HL.out.step hb2)
    clear hb2 b0 b1 b2
    go_wp2_with fail
    refine (sanity_any _).mono ?_
    rintro e w5 ⟨rfl, hb5⟩
    go_wp2_with fail
    go_returns
    exact ⟨rfl, HL.out.step hb5⟩
  · exact orders_right a b c ha hb hc w
end Go.Proofs.YtbpnnhdhpahbjaaDoor
