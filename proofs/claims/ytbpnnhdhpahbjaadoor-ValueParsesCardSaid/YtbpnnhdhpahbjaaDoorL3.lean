/-
  Walk: ValueTestsAgree returns true for every two values; the memory that was there is as it was.
-/
import Derived.Test.YtbpnnhdhpahbjaaDoorWj
namespace Go.Proofs.YtbpnnhdhpahbjaaDoor
open Go.RowKit Go.Sort

/-- A struct stored into a block of the call's own. -/
theorem Own3.stored {w0 w : World} {b : Nat} {x y z : Value} (h : Own3 w0 w b x y z) (x' y' z' : Value) : Own3 w0 (((w.setCell ⟨b, 0, none⟩ x').setCell ⟨b, 1, none⟩ y').setCell ⟨b, 2, none⟩ z') b x' y' z' := by
  refine ⟨((h.below.setCell h.old _).setCell h.old _).setCell h.old _, h.old, ?_⟩
  have e : ∀ (w : World) (c : Array Value) (o : Nat) (v : Value), w.heap[b]? = some (.cells c 23 (0, 0)) → (w.setCell ⟨b, o, none⟩ v).heap[b]? = some (.cells (c.setIfInBounds o v) 23 (0, 0)) := fun w c o v hw => by
    simp [World.setCell, Array.getElem?_modify, hw]
  have h1 := e _ _ 0 x' h.block
  have h2 := e _ _ 1 y' h1
  have h3 := e _ _ 2 z' h2
  simpa using h3
theorem cmpI_neg (a b : Int) : cmpI b a = - cmpI a b := by
  unfold cmpI; split <;> split <;> first | omega | (split <;> omega)
theorem compareBytes_neg : ∀ (a b : List UInt8), Lib.compareBytes b a = - Lib.compareBytes a b
  | [], [] => by simp [Lib.compareBytes]
  | [], _ :: _ => by simp [Lib.compareBytes]
  | _ :: _, [] => by simp [Lib.compareBytes]
  | a :: x, b :: y => by
    have ih := compareBytes_neg x y
    simp only [Lib.compareBytes]
    by_cases h1 : a < b
    · have h2 : ¬ b < a := by rw [UInt8.lt_iff_toNat_lt] at *; omega
      rw [if_neg h2, if_pos h1, if_pos h1]; rfl
    · by_cases h2 : b < a
      · rw [if_pos h2, if_neg h1, if_pos h2]
      · rw [if_neg h2, if_neg h1, if_neg h1, if_neg h2]; exact ih
theorem or3_neg (a b c : Int) : or3 (-a) (-b) (-c) = - or3 a b c := by
  unfold or3
  by_cases h1 : a = 0 <;> by_cases h2 : b = 0 <;> simp [h1, h2]
theorem V.cmp_neg (a b : V) : b.cmp a = - a.cmp b := by
  unfold V.cmp cmpS
  rw [cmpI_neg a.k b.k, cmpI_neg a.n b.n, compareBytes_neg a.s.data.toList b.s.data.toList, or3_neg]

/-- The operator that says the same of the exchanged values. -/
def backOp (k : Nat) : Int := if k = 0 then 6 else if k = 1 then 7 else if k = 2 then 10 else if k = 3 then 11 else if k = 4 then 8 else 9
theorem testB_back (k : Nat) (h : k < 6) (c : Int) : testB (backOp k) (-c) = testB (6 + k) c := by
  obtain rfl | rfl | rfl | rfl | rfl | rfl : k = 0 ∨ k = 1 ∨ k = 2 ∨ k = 3 ∨ k = 4 ∨ k = 5 := by omega
  all_goals (simp [testB, backOp]; try omega)
theorem lawTest1 (a b : V) (k : Nat) (h : k < 6) (hk : a.k = b.k) (h0 : a.k ≠ 0) : V.test (6 + k) a b = (V.bool (testB (6 + k) (a.cmp b)), 0) := by
  simp only [V.test, V.testBy]
  rw [if_neg (by omega), if_neg (by omega), if_neg (by omega)]
theorem lawTest2 (a b : V) (k : Nat) (h : k < 6) (hk : a.k = b.k) (h0 : a.k ≠ 0) : V.test (backOp k) b a = (V.bool (testB (6 + k) (a.cmp b)), 0) := by
  simp only [V.test, V.testBy]
  have : 6 ≤ backOp k ∧ backOp k ≤ 11 := by
    unfold backOp; repeat' split <;> omega
  rw [if_neg (by omega), if_neg (by omega), if_neg (by omega), V.cmp_neg, testB_back k h]

set_option maxRecDepth 100000 in
set_option maxHeartbeats 4000000 in
theorem testsAgree_right (a b : V) (ha : a.right = true) (hb : b.right = true) (hk : a.k = b.k) (h0 : a.k ≠ 0) (w : World) :
    Calls Tryd.prog 3 #[a.val, b.val] w fun e w' => e = .returned (.bool true) ∧ Below w.heap.size w w' := by
  have Ra := Lib.hid (fun w => refRight_any a w)
  have Rb := Lib.hid (fun w => refRight_any b w)
  rw [ha] at Ra
  rw [hb] at Rb
  have HK := Lib.hid hk
  have H0 := Lib.hid h0
  have hn0 : (a.k == 0) = false := beq_eq_false_iff_ne.2 h0
  have hnk : (a.k != b.k) = false := by rw [hk]; simp
  clear ha hb hk h0
  unfold V.val
  go_enter Tryd.func3, Tryd.ntmps3
  go_wp2_with fail
  refine (Ra.out _).mono ?_
  rintro e w1 ⟨rfl, hb1⟩
  have HA : Hid (HasV w1 w.heap.size a) := HasV.kept (by show _ = _; repeat (first | (refine blk_same _ _ _ ?_; focus (simp; done)) | (refine blk_old ?_ ?_; focus (first | omega | (simp; done) | (simp; omega))))) hb1
  have HB : Hid (HasV w1 (w.heap.size + 1) b) := HasV.kept (by show _ = _; repeat (first | (refine blk_same _ _ _ ?_; focus (simp; done)) | (refine blk_old ?_ ?_; focus (first | omega | (simp; done) | (simp; omega))))) hb1
  have HL : Hid (Below w.heap.size w w1) := ((((Below.refl _ w).alloc (Nat.le_refl _) _).alloc (by simp) _).trans (hb1.mono (by simp; omega)))
  clear hb1
  obtain ⟨a0, a1, a2⟩ := HA.out.cells
  obtain ⟨b0, b1, b2⟩ := HB.out.cells
  go_wp2_with fail
  refine (Rb.out _).mono ?_
  rintro e w2 ⟨rfl, hb2⟩
  clear a0 a1 a2 b0 b1 b2
  replace HA := Lib.hid (HA.out.kept hb2); replace HB := Lib.hid (HB.out.kept hb2); replace HL := Lib.hid (HL.out.step hb2)
  clear hb2
  obtain ⟨a0, a1, a2⟩ := HA.out.cells
  obtain ⟨b0, b1, b2⟩ := HB.out.cells
  go_wp2_with fail
  refine (compare_any a b _).mono ?_
  rintro e w3 ⟨rfl, hb2⟩
  clear a0 a1 a2 b0 b1 b2 hn0 hnk
  replace HA := Lib.hid (HA.out.kept hb2); replace HB := Lib.hid (HB.out.kept hb2); replace HL := Lib.hid (HL.out.step hb2)
  clear hb2
  obtain ⟨c, hc⟩ : ∃ c, c = a.cmp b := ⟨_, rfl⟩
  rw [← hc]
  have T1 : Hid (∀ (k : Nat) (w : World), k < 6 → Calls Tryd.prog 14 #[.int .i64 (6 + k), a.val, b.val] w fun e w' => e = .returned (V.pair (V.bool (testB (6 + k) c), 0)) ∧ Below w.heap.size w w') := fun k w hk => by
    have := test_any (6 + k) a b w
    rwa [lawTest1 a b k hk HK.out H0.out, ← hc] at this
  have T2 : Hid (∀ (k : Nat) (w : World), k < 6 → Calls Tryd.prog 14 #[.int .i64 (backOp k), b.val, a.val] w fun e w' => e = .returned (V.pair (V.bool (testB (6 + k) c), 0)) ∧ Below w.heap.size w w') := fun k w hk => by
    have := test_any (backOp k) b a w
    rwa [lawTest2 a b k hk HK.out H0.out, ← hc] at this
  clear hc
  go_wp2_with fail
  refine wp_gen (fun W => HasV W w.heap.size a ∧ HasV W (w.heap.size + 1) b ∧ (∀ k, k < 6 → W.cell? ⟨w3.heap.size, k, none⟩ = some (.bool (testB (6 + k) c))) ∧ (∀ k, k < 6 → W.cell? ⟨w3.heap.size + 1, k, none⟩ = some (.int .i64 (backOp k))) ∧ Below w.heap.size w W) ⟨HA.out.kept (by go_grown), HB.out.kept (by go_grown), ?_, ?_, by go_grown; exact HL.out; exact HL.out.size; exact Nat.le_trans HL.out.size (by simp)⟩ ?_
  · intro k hk
    obtain rfl | rfl | rfl | rfl | rfl | rfl : k = 0 ∨ k = 1 ∨ k = 2 ∨ k = 3 ∨ k = 4 ∨ k = 5 := by omega
    all_goals (go_simp; simp [testB])
    all_goals grind
  · intro k hk
    obtain rfl | rfl | rfl | rfl | rfl | rfl : k = 0 ∨ k = 1 ∨ k = 2 ∨ k = 3 ∨ k = 4 ∨ k = 5 := by omega
    all_goals (go_simp; simp [backOp])
  rintro w4 ⟨ha, hb, hw, hbk, hl⟩
  generalize w3.heap.size = bw at *
  replace HA := Lib.hid ha; replace HB := Lib.hid hb; replace HL := Lib.hid hl
  have HW := Lib.hid hw
  have HBK := Lib.hid hbk
  clear ha hb hw hbk hl
  go_loopw [53] (fun i wr => ∃ k : Nat, k ≤ 6 ∧ i = .int .i64 k ∧ Below w4.heap.size w4 wr) (fun i _ => 6 - (intOf i).toNat)
  case atStart => exact ⟨0, by omega, rfl, Below.refl _ _⟩
  case round =>
    obtain ⟨k, hk, rfl, hbr⟩ := hrel
    have HR := Lib.hid hbr
    clear hbr
    by_cases hlt : k < 6
    · obtain ⟨a0, a1, a2⟩ := (HA.out.kept HR.out).cells
      obtain ⟨b0, b1, b2⟩ := (HB.out.kept HR.out).cells
      go_wp2_with fail
      refine (T1.out k _ hlt).mono ?_
      rintro e w5 ⟨rfl, hb5⟩
      have HR5 := Lib.hid (HR.out.step hb5)
      clear a0 a1 a2 b0 b1 b2 hb5
      unfold V.pair V.val
      go_wp2_with fail
      refine wp_gen (fun W => HasV W w5.heap.size (V.bool (testB (6 + k) c)) ∧ Below w4.heap.size w4 W) ⟨blk_new _ _, HR5.out.alloc HR5.out.size _⟩ ?_
      rintro w6 ⟨hp, hr6⟩
      generalize w5.heap.size = bp at *
      obtain ⟨a0, a1, a2⟩ := (HA.out.kept hr6).cells
      obtain ⟨b0, b1, b2⟩ := (HB.out.kept hr6).cells
      have k0 := hr6.cell_kept (HBK.out k hlt)
      have HP := Lib.hid hp
      have HR6 := Lib.hid hr6
      clear hp hr6 HR5
      replace a0 := cell_regrown a0; replace a1 := cell_regrown a1; replace a2 := cell_regrown a2
      replace b0 := cell_regrown b0; replace b1 := cell_regrown b1; replace b2 := cell_regrown b2
      replace k0 := cell_regrown k0
      have T2k : ∀ w : World, Calls Tryd.prog 14 #[.int .i64 (backOp k), .agg #[.int .i64 b.k, .int .i64 b.n, .string b.s], .agg #[.int .i64 a.k, .int .i64 a.n, .string a.s]] w fun e w' => e = .returned (.tuple #[.agg #[.int .i64 3, .int .i64 (b2i (testB (6 + k) c)), .string ⟨#[]⟩], .int .i64 0]) ∧ Below w.heap.size w w' := fun w => T2.out k w hlt
      have T2K := Lib.hid T2k
      clear T2k
      refine wp_region_mixed 13 [(0, false), (1, false), (2, false), (3, false), (4, false), (5, false), (6, false), (7, false), (8, false), (9, false), (10, true), (11, true), (12, false)] (by kernel_rfl) (by kernel_rfl) ?_
      repeat (refine wpM_mild rfl (fun K hK => ?_); go_simp; first | (refine hK _ ?_; clear hK K) | (apply Exists.intro; refine ⟨fun _ => ?_, hK _ ?_⟩; (exact T2K.out _); clear hK K))
      clear a0 a1 a2 b0 b1 b2 k0
      refine wpM_eff rfl ?_
      intro w7 hb7 _
      go_wp2_with fail
      refine ⟨hb7.alloc hb7.size _, wpM_eff rfl ?_⟩
      intro w8 hb8 _
      have o8 : Own3 w6 w8 w7.heap.size (.int .i64 0) (.int .i64 0) (.string ⟨#[]⟩) := Own3.kept ⟨hb7.alloc hb7.size _, hb7.size, blk_new _ _⟩ hb8
      obtain ⟨⟨z1, z2, z3⟩, ⟨f1, f2, f3⟩, hs1⟩ := o8.facts
      have O8 := Lib.hid o8
      clear hb7 hb8 o8
      go_wp2_with fail
      refine ⟨(O8.out.stored _ _ _).below, ?_⟩
      repeat (refine wpM_mild rfl (fun K hK => ?_); go_simp; first | (refine hK _ ?_; clear hK K) | (apply Exists.intro; refine ⟨fun _ => ?_, hK _ ?_⟩; (fail); clear hK K))
      refine wpM_end ?_
      intro w9 hb9 hb96
      have HQ : Hid (HasV w9 w7.heap.size (V.bool (testB (6 + k) c))) := HasV.kept (O8.out.stored _ _ _).block hb9
      replace HP := Lib.hid (HP.out.kept hb96)
      have HR9 := Lib.hid (HR6.out.step hb96)
      clear hb9 hb96 HR6 z1 z2 z3 f1 f2 f3 hs1 O8
      generalize w7.heap.size = bq at *
      go_wp2_with fail
      obtain ⟨p0, p1, p2⟩ := HP.out.cells
      obtain ⟨q0, q1, q2⟩ := HQ.out.cells
      have k0 := HR9.out.cell_kept (HW.out k hlt)
      replace p0 := cell_regrown p0; replace p1 := cell_regrown p1; replace p2 := cell_regrown p2
      replace q0 := cell_regrown q0; replace q1 := cell_regrown q1; replace q2 := cell_regrown q2
      replace k0 := cell_regrown k0
      generalize testB (6 + k) c = tb at *
      simp only [V.bool] at p0 p1 p2 q0 q1 q2
      have B1 : Hid (∀ w : World, Calls Tryd.prog 15 #[.bool tb] w fun e w' => e = .returned (.agg #[.int .i64 3, .int .i64 (b2i tb), .string ⟨#[]⟩]) ∧ Below w.heap.size w w') := fun w => refBool_any tb w
      have neq := fun w => neq_V 3 (b2i tb) ⟨#[]⟩ 3 (b2i tb) ⟨#[]⟩ w
      have es : V.same ⟨3, b2i tb, ⟨#[]⟩⟩ ⟨3, b2i tb, ⟨#[]⟩⟩ = true := by simp [V.same]
      rw [es] at neq
      clear es
      refine wp_region_mixed 20 [(0, false), (1, false), (2, false), (3, false), (4, false), (5, false), (6, false), (7, false), (8, false), (9, false), (10, false), (11, false), (12, false), (13, false), (14, false), (15, false), (16, false), (17, false), (18, false), (19, false)] (by kernel_rfl) (by kernel_rfl) ?_
      repeat (refine wpM_mild rfl (fun K hK => ?_); go_simp; first | (refine hK _ ?_; clear hK K) | (apply Exists.intro; refine ⟨fun _ => ?_, hK _ ?_⟩; (exact B1.out _); clear hK K))
      refine wpM_end ?_
      intro w10 _ hb10
      replace HR9 := Lib.hid (HR9.out.step hb10)
      clear hb10 p0 p1 p2 q0 q1 q2 k0 neq
      go_wp2_with fail
      go_roundw
      case rel => exact ⟨k + 1, by omega, by go_num, HR9.out⟩
      case measure => simp [intOf]; omega
    · obtain rfl : k = 6 := by omega
      go_wp2_with fail
      refine (sanity_any _).mono ?_
      rintro e w5 ⟨rfl, hb5⟩
      go_wp2_with fail
      go_returns
      exact ⟨rfl, (HL.out.step HR.out).step hb5⟩

set_option maxRecDepth 100000 in
theorem testsAgree_any (a b : V) (w : World) : Calls Tryd.prog 3 #[a.val, b.val] w fun e w' => e = .returned (.bool true) ∧ Below w.heap.size w w' := by
  by_cases hall : a.right = true ∧ b.right = true ∧ a.k = b.k ∧ a.k ≠ 0
  · exact testsAgree_right a b hall.1 hall.2.1 hall.2.2.1 hall.2.2.2 w
  have Ra := Lib.hid (fun w => refRight_any a w)
  have Rb := Lib.hid (fun w => refRight_any b w)
  cases ha : a.right
  · rw [ha] at Ra
    unfold V.val
    clear hall ha
    go_enter Tryd.func3, Tryd.ntmps3
    go_wp2_with fail
    refine (Ra.out _).mono ?_
    rintro e w1 ⟨rfl, hb1⟩
    have HL : Hid (Below w.heap.size w w1) := ((((Below.refl _ w).alloc (Nat.le_refl _) _).alloc (by simp) _).trans (hb1.mono (by simp; omega)))
    clear hb1
    go_wp2_with fail
    refine (sanity_any _).mono ?_
    rintro e w5 ⟨rfl, hb5⟩
    go_wp2_with fail
    go_returns
    exact ⟨rfl, HL.out.step hb5⟩
  cases hb : b.right
  · rw [ha] at Ra
    rw [hb] at Rb
    clear hall ha hb
    unfold V.val
    go_enter Tryd.func3, Tryd.ntmps3
    go_wp2_with fail
    refine (Ra.out _).mono ?_
    rintro e w1 ⟨rfl, hb1⟩
    have HB : Hid (HasV w1 (w.heap.size + 1) b) := HasV.kept (by show _ = _; repeat (first | (refine blk_same _ _ _ ?_; focus (simp; done)) | (refine blk_old ?_ ?_; focus (first | omega | (simp; done) | (simp; omega))))) hb1
    have HL : Hid (Below w.heap.size w w1) := ((((Below.refl _ w).alloc (Nat.le_refl _) _).alloc (by simp) _).trans (hb1.mono (by simp; omega)))
    clear hb1
    obtain ⟨b0, b1, b2⟩ := HB.out.cells
    go_wp2_with fail
    refine (Rb.out _).mono ?_
    rintro e w2 ⟨rfl, hb2⟩
    replace HL := Lib.hid (HL.out.step hb2)
    clear hb2 b0 b1 b2
    go_wp2_with fail
    refine (sanity_any _).mono ?_
    rintro e w5 ⟨rfl, hb5⟩
    go_wp2_with fail
    go_returns
    exact ⟨rfl, HL.out.step hb5⟩
  · rw [ha] at Ra
    rw [hb] at Rb
    have hk : a.k ≠ b.k ∨ (a.k = b.k ∧ a.k = 0) := by
      by_cases h : a.k = b.k
      · right; refine ⟨h, ?_⟩; by_cases h0 : a.k = 0
        · exact h0
        · exact absurd ⟨ha, hb, h, h0⟩ hall
      · exact Or.inl h
    clear hall ha hb
    unfold V.val
    go_enter Tryd.func3, Tryd.ntmps3
    go_wp2_with fail
    refine (Ra.out _).mono ?_
    rintro e w1 ⟨rfl, hb1⟩
    have HA : Hid (HasV w1 w.heap.size a) := HasV.kept (by show _ = _; repeat (first | (refine blk_same _ _ _ ?_; focus (simp; done)) | (refine blk_old ?_ ?_; focus (first | omega | (simp; done) | (simp; omega))))) hb1
    have HB : Hid (HasV w1 (w.heap.size + 1) b) := HasV.kept (by show _ = _; repeat (first | (refine blk_same _ _ _ ?_; focus (simp; done)) | (refine blk_old ?_ ?_; focus (first | omega | (simp; done) | (simp; omega))))) hb1
    have HL : Hid (Below w.heap.size w w1) := ((((Below.refl _ w).alloc (Nat.le_refl _) _).alloc (by simp) _).trans (hb1.mono (by simp; omega)))
    clear hb1
    have HKK := Lib.hid hk
    clear hk
    obtain ⟨b0, b1, b2⟩ := HB.out.cells
    go_wp2_with fail
    refine (Rb.out _).mono ?_
    rintro e w2 ⟨rfl, hb2⟩
    clear b0 b1 b2
    obtain ⟨a0, _, _⟩ := (HA.out.kept hb2).cells
    obtain ⟨b0, _, _⟩ := (HB.out.kept hb2).cells
    replace HL := Lib.hid (HL.out.step hb2)
    clear hb2
    rcases HKK.out with hk | ⟨hk, hk0⟩
    · have hnk : (a.k != b.k) = true := by simpa using hk
      clear hk
      go_wp2_with fail
      refine (sanity_any _).mono ?_
      rintro e w5 ⟨rfl, hb5⟩
      go_wp2_with fail
      go_returns
      exact ⟨rfl, HL.out.step hb5⟩
    · have hnk : (a.k != b.k) = false := by rw [hk]; simp
      have hn0 : (a.k == 0) = true := by simpa using hk0
      clear hk hk0
      go_wp2_with fail
      refine (sanity_any _).mono ?_
      rintro e w5 ⟨rfl, hb5⟩
      go_wp2_with fail
      go_returns
      exact ⟨rfl, HL.out.step hb5⟩
end Go.Proofs.YtbpnnhdhpahbjaaDoor
