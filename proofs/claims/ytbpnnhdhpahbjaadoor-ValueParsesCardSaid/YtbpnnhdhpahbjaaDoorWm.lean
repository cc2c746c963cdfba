/-
  The walk of the reference's And and Or
-/
import Derived.Test.YtbpnnhdhpahbjaaDoorWl
namespace Go.Proofs.YtbpnnhdhpahbjaaDoor
open Go.RowKit Go.Sort

/-- The reference's conjunction and disjunction. -/
def V.rdec (strong : Bool) (a b : V) : V × Int :=
  if !a.logical || !b.logical then (V.null, 7) else if V.same a (V.bool strong) || V.same b (V.bool strong) then (V.bool strong, 0)
  else if a.k == 0 || b.k == 0 then (V.null, 0) else (V.bool !strong, 0)
def V.rnot (a : V) : V × Int := if !a.logical then (V.null, 7) else if a.k == 0 then (a, 0) else (V.bool (a.n == 0), 0)

set_option maxRecDepth 100000 in
set_option maxHeartbeats 2000000 in
theorem refAnd_any (a b : V) (w : World) : Calls Tryd.prog 23 #[a.val, b.val] w fun e w' => e = .returned (V.pair (V.rdec false a b)) ∧ Below w.heap.size w w' := by
  have L1 := Lib.hid (fun w => refLogical_any a w)
  have L2 := Lib.hid (fun w => refLogical_any b w)
  cases la : a.logical
  · rw [la] at L1
    have HR : Hid (V.rdec false a b = (V.null, 7)) := by show _ = _; simp [V.rdec, la]
    clear la
    unfold V.val
    go_enter Tryd.func23, Tryd.ntmps23
    go_wp2_with fail
    refine (L1.out _).mono ?_
    rintro e w1 ⟨rfl, hb1⟩
    have HA : Hid (HasV w1 w.heap.size a) := HasV.kept (by show _ = _; repeat (first | (refine blk_same _ _ _ ?_; focus (simp; done)) | (refine blk_old ?_ ?_; focus (first | omega | (simp; done) | (simp; omega))))) hb1
    have HB : Hid (HasV w1 (w.heap.size + 1) b) := HasV.kept (by show _ = _; repeat (first | (refine blk_same _ _ _ ?_; focus (simp; done)) | (refine blk_old ?_ ?_; focus (first | omega | (simp; done) | (simp; omega))))) hb1
    have O1 : Hid (Own3 w w1 (w.heap.size + 1 + 1) (.int .i64 0) (.int .i64 0) (.string ⟨#[]⟩)) := Own3.kept ⟨by go_grown, by omega, by repeat (first | (refine blk_same _ _ _ ?_; focus (simp; done)) | (refine blk_old ?_ ?_; focus (first | omega | (simp; done) | (simp; omega))))⟩ hb1
    clear hb1
    obtain ⟨⟨z1, z2, z3⟩, ⟨f1, f2, f3⟩, hs1⟩ := O1.out.facts
    go_wp2_with fail
    refine bodyPost_ret (v := V.pair (V.null, 7)) (by simp [results, Tryd.results23, go_sem, z1, z2, z3, V.pair, V.val, V.null]) rfl ?_
    refine ⟨by rw [HR.out], ?_⟩
    go_grown
    exact O1.out.below
  rw [la] at L1
  cases lb : b.logical
  · rw [lb] at L2
    have HR : Hid (V.rdec false a b = (V.null, 7)) := by show _ = _; simp [V.rdec, lb]
    clear la lb
    unfold V.val
    go_enter Tryd.func23, Tryd.ntmps23
    go_wp2_with fail
    refine (L1.out _).mono ?_
    rintro e w1 ⟨rfl, hb1⟩
    have HA : Hid (HasV w1 w.heap.size a) := HasV.kept (by show _ = _; repeat (first | (refine blk_same _ _ _ ?_; focus (simp; done)) | (refine blk_old ?_ ?_; focus (first | omega | (simp; done) | (simp; omega))))) hb1
    have HB : Hid (HasV w1 (w.heap.size + 1) b) := HasV.kept (by show _ = _; repeat (first | (refine blk_same _ _ _ ?_; focus (simp; done)) | (refine blk_old ?_ ?_; focus (first | omega | (simp; done) | (simp; omega))))) hb1
    have O1 : Hid (Own3 w w1 (w.heap.size + 1 + 1) (.int .i64 0) (.int .i64 0) (.string ⟨#[]⟩)) := Own3.kept ⟨by go_grown, by omega, by repeat (first | (refine blk_same _ _ _ ?_; focus (simp; done)) | (refine blk_old ?_ ?_; focus (first | omega | (simp; done) | (simp; omega))))⟩ hb1
    clear hb1
    obtain ⟨b0, b1, b2⟩ := HB.out.cells
    go_wp2_with fail
    refine (L2.out _).mono ?_
    rintro e w2 ⟨rfl, hb2⟩
    replace O1 := Lib.hid (O1.out.kept hb2)
    clear hb2 b0 b1 b2
    obtain ⟨⟨z1, z2, z3⟩, ⟨f1, f2, f3⟩, hs1⟩ := O1.out.facts
    go_wp2_with fail
    refine bodyPost_ret (v := V.pair (V.null, 7)) (by simp [results, Tryd.results23, go_sem, z1, z2, z3, V.pair, V.val, V.null]) rfl ?_
    refine ⟨by rw [HR.out], ?_⟩
    go_grown
    exact O1.out.below
  · rw [lb] at L2
    have HR : Hid (V.rdec false a b = if V.same a (V.bool false) || V.same b (V.bool false) then (V.bool false, 0) else if a.k == 0 || b.k == 0 then (V.null, 0) else (V.bool true, 0)) := by show _ = _; simp [V.rdec, la, lb]
    clear la lb
    have B0 : Hid (∀ w, Calls Tryd.prog 15 #[.bool false] w fun e w' => e = .returned (.agg #[.int .i64 3, .int .i64 (b2i false), .string ⟨#[]⟩]) ∧ Laid w w') := fun w => refBool_any false w
    have B1 : Hid (∀ w, Calls Tryd.prog 15 #[.bool true] w fun e w' => e = .returned (.agg #[.int .i64 3, .int .i64 (b2i true), .string ⟨#[]⟩]) ∧ Below w.heap.size w w') := fun w => refBool_any true w
    have B2 : Hid (∀ w, Calls Tryd.prog 15 #[.bool false] w fun e w' => e = .returned (.agg #[.int .i64 3, .int .i64 (b2i false), .string ⟨#[]⟩]) ∧ Below w.heap.size w w') := fun w => refBool_any false w
    unfold V.val
    go_enter Tryd.func23, Tryd.ntmps23
    go_wp2_with fail
    refine (L1.out _).mono ?_
    rintro e w1 ⟨rfl, hb1⟩
    have HA : Hid (HasV w1 w.heap.size a) := HasV.kept (by show _ = _; repeat (first | (refine blk_same _ _ _ ?_; focus (simp; done)) | (refine blk_old ?_ ?_; focus (first | omega | (simp; done) | (simp; omega))))) hb1
    have HB : Hid (HasV w1 (w.heap.size + 1) b) := HasV.kept (by show _ = _; repeat (first | (refine blk_same _ _ _ ?_; focus (simp; done)) | (refine blk_old ?_ ?_; focus (first | omega | (simp; done) | (simp; omega))))) hb1
    have O1 : Hid (Own3 w w1 (w.heap.size + 1 + 1) (.int .i64 0) (.int .i64 0) (.string ⟨#[]⟩)) := Own3.kept ⟨by go_grown, by omega, by repeat (first | (refine blk_same _ _ _ ?_; focus (simp; done)) | (refine blk_old ?_ ?_; focus (first | omega | (simp; done) | (simp; omega))))⟩ hb1
    clear hb1
    obtain ⟨b0, b1, b2⟩ := HB.out.cells
    go_wp2_with fail
    refine (L2.out _).mono ?_
    rintro e w2 ⟨rfl, hb2⟩
    replace O1 := Lib.hid (O1.out.kept hb2)
    replace HA := Lib.hid (HA.out.kept hb2); replace HB := Lib.hid (HB.out.kept hb2)
    clear hb2 b0 b1 b2
    go_wp2_with fail
    obtain ⟨a0, a1, a2⟩ := HA.out.cells
    replace a0 := cell_regrown a0; replace a1 := cell_regrown a1; replace a2 := cell_regrown a2
    obtain ⟨b0, b1, b2⟩ := HB.out.cells
    replace b0 := cell_regrown b0; replace b1 := cell_regrown b1; replace b2 := cell_regrown b2
    have e1 := fun w => eql_V a.k a.n a.s 3 (b2i false) ⟨#[]⟩ w
    have e2 := fun w => eql_V b.k b.n b.s 3 (b2i false) ⟨#[]⟩ w
    have g1 : V.same ⟨a.k, a.n, a.s⟩ ⟨3, b2i false, ⟨#[]⟩⟩ = V.same a (V.bool false) := rfl
    have g2 : V.same ⟨b.k, b.n, b.s⟩ ⟨3, b2i false, ⟨#[]⟩⟩ = V.same b (V.bool false) := rfl
    rw [g1] at e1
    rw [g2] at e2
    clear g1 g2
    generalize V.same a (V.bool false) = s1 at *
    generalize V.same b (V.bool false) = s2 at *
    cases s1
    all_goals cases s2
    all_goals
      refine wp_region_mixed 8 [(0, false), (1, false), (2, false), (3, false), (4, false), (5, false), (6, false), (7, false)] (by kernel_rfl) (by kernel_rfl) ?_
      repeat (refine wpM_mild rfl (fun K hK => ?_); go_simp; first | (refine hK _ ?_; clear hK K) | (apply Exists.intro; refine ⟨fun _ => ?_, hK _ ?_⟩; (first | with_reducible exact B0.out _); clear hK K))
      refine wpM_end ?_
      intro w3 _ hb3
      clear a0 a1 a2 b0 b1 b2 e1 e2
      have O3 := Lib.hid (O1.out.kept hb3)
      have HA3 := Lib.hid (HA.out.kept hb3)
      have HB3 := Lib.hid (HB.out.kept hb3)
      clear hb3
      obtain ⟨a0, _, _⟩ := HA3.out.cells
      obtain ⟨b0, _, _⟩ := HB3.out.cells
    · cases k1 : (a.k == 0)
      · cases k2 : (b.k == 0)
        · go_wp2_with fail
          refine (B1.out _).mono ?_
          rintro e w4 ⟨rfl, hb4⟩
          have O4 := Lib.hid (O3.out.kept hb4)
          clear hb4 a0 b0
          obtain ⟨⟨z1, z2, z3⟩, ⟨f1, f2, f3⟩, hs1⟩ := O4.out.facts
          go_wp2_with fail
          refine bodyPost_ret (v := V.pair (V.bool true, 0)) (by simp [results, Tryd.results23, go_sem, z1, z2, z3, V.pair, V.val, V.bool]) rfl ?_
          refine ⟨by rw [HR.out]; simp [k1, k2], ?_⟩
          go_grown
          exact O4.out.below
        · obtain ⟨⟨z1, z2, z3⟩, ⟨f1, f2, f3⟩, hs1⟩ := O3.out.facts
          go_wp2_with fail
          refine bodyPost_ret (v := V.pair (V.null, 0)) (by simp [results, Tryd.results23, go_sem, z1, z2, z3, V.pair, V.val, V.null]) rfl ?_
          refine ⟨by rw [HR.out]; simp [k1, k2], ?_⟩
          go_grown
          exact O3.out.below
      · obtain ⟨⟨z1, z2, z3⟩, ⟨f1, f2, f3⟩, hs1⟩ := O3.out.facts
        go_wp2_with fail
        refine bodyPost_ret (v := V.pair (V.null, 0)) (by simp [results, Tryd.results23, go_sem, z1, z2, z3, V.pair, V.val, V.null]) rfl ?_
        refine ⟨by rw [HR.out]; simp [k1], ?_⟩
        go_grown
        exact O3.out.below
    all_goals
      go_wp2_with fail
      refine (B2.out _).mono ?_
      rintro e w4 ⟨rfl, hb4⟩
      have O4 := Lib.hid (O3.out.kept hb4)
      clear hb4 a0 b0
      obtain ⟨⟨z1, z2, z3⟩, ⟨f1, f2, f3⟩, hs1⟩ := O4.out.facts
      go_wp2_with fail
      refine bodyPost_ret (v := V.pair (V.bool false, 0)) (by simp [results, Tryd.results23, go_sem, z1, z2, z3, V.pair, V.val, V.bool]) rfl ?_
      refine ⟨by rw [HR.out]; simp, ?_⟩
      go_grown
      exact O4.out.below

set_option maxRecDepth 100000 in
set_option maxHeartbeats 2000000 in
theorem refOr_any (a b : V) (w : World) : Calls Tryd.prog 25 #[a.val, b.val] w fun e w' => e = .returned (V.pair (V.rdec true a b)) ∧ Below w.heap.size w w' := by
  have L1 := Lib.hid (fun w => refLogical_any a w)
  have L2 := Lib.hid (fun w => refLogical_any b w)
  cases la : a.logical
  · rw [la] at L1
    have HR : Hid (V.rdec true a b = (V.null, 7)) := by show _ = _; simp [V.rdec, la]
    clear la
    unfold V.val
    go_enter Tryd.func25, Tryd.ntmps25
    go_wp2_with fail
    refine (L1.out _).mono ?_
    rintro e w1 ⟨rfl, hb1⟩
    have HA : Hid (HasV w1 w.heap.size a) := HasV.kept (by show _ = _; repeat (first | (refine blk_same _ _ _ ?_; focus (simp; done)) | (refine blk_old ?_ ?_; focus (first | omega | (simp; done) | (simp; omega))))) hb1
    have HB : Hid (HasV w1 (w.heap.size + 1) b) := HasV.kept (by show _ = _; repeat (first | (refine blk_same _ _ _ ?_; focus (simp; done)) | (refine blk_old ?_ ?_; focus (first | omega | (simp; done) | (simp; omega))))) hb1
    have O1 : Hid (Own3 w w1 (w.heap.size + 1 + 1) (.int .i64 0) (.int .i64 0) (.string ⟨#[]⟩)) := Own3.kept ⟨by go_grown, by omega, by repeat (first | (refine blk_same _ _ _ ?_; focus (simp; done)) | (refine blk_old ?_ ?_; focus (first | omega | (simp; done) | (simp; omega))))⟩ hb1
    clear hb1
    obtain ⟨⟨z1, z2, z3⟩, ⟨f1, f2, f3⟩, hs1⟩ := O1.out.facts
    go_wp2_with fail
    refine bodyPost_ret (v := V.pair (V.null, 7)) (by simp [results, Tryd.results25, go_sem, z1, z2, z3, V.pair, V.val, V.null]) rfl ?_
    refine ⟨by rw [HR.out], ?_⟩
    go_grown
    exact O1.out.below
  rw [la] at L1
  cases lb : b.logical
  · rw [lb] at L2
    have HR : Hid (V.rdec true a b = (V.null, 7)) := by show _ = _; simp [V.rdec, lb]
    clear la lb
    unfold V.val
    go_enter Tryd.func25, Tryd.ntmps25
    go_wp2_with fail
    refine (L1.out _).mono ?_
    rintro e w1 ⟨rfl, hb1⟩
    have HA : Hid (HasV w1 w.heap.size a) := HasV.kept (by show _ = _; repeat (first | (refine blk_same _ _ _ ?_; focus (simp; done)) | (refine blk_old ?_ ?_; focus (first | omega | (simp; done) | (simp; omega))))) hb1
    have HB : Hid (HasV w1 (w.heap.size + 1) b) := HasV.kept (by show _ = _; repeat (first | (refine blk_same _ _ _ ?_; focus (simp; done)) | (refine blk_old ?_ ?_; focus (first | omega | (simp; done) | (simp; omega))))) hb1
    have O1 : Hid (Own3 w w1 (w.heap.size + 1 + 1) (.int .i64 0) (.int .i64 0) (.string ⟨#[]⟩)) := Own3.kept ⟨by go_grown, by omega, by repeat (first | (refine blk_same _ _ _ ?_; focus (simp; done)) | (refine blk_old ?_ ?_; focus (first | omega | (simp; done) | (simp; omega))))⟩ hb1
    clear hb1
    obtain ⟨b0, b1, b2⟩ := HB.out.cells
    go_wp2_with fail
    refine (L2.out _).mono ?_
    rintro e w2 ⟨rfl, hb2⟩
    replace O1 := Lib.hid (O1.out.kept hb2)
    clear hb2 b0 b1 b2
    obtain ⟨⟨z1, z2, z3⟩, ⟨f1, f2, f3⟩, hs1⟩ := O1.out.facts
    go_wp2_with fail
    refine bodyPost_ret (v := V.pair (V.null, 7)) (by simp [results, Tryd.results25, go_sem, z1, z2, z3, V.pair, V.val, V.null]) rfl ?_
    refine ⟨by rw [HR.out], ?_⟩
    go_grown
    exact O1.out.below
  · rw [lb] at L2
    have HR : Hid (V.rdec true a b = if V.same a (V.bool true) || V.same b (V.bool true) then (V.bool true, 0) else if a.k == 0 || b.k == 0 then (V.null, 0) else (V.bool false, 0)) := by show _ = _; simp [V.rdec, la, lb]
    clear la lb
    have B0 : Hid (∀ w, Calls Tryd.prog 15 #[.bool true] w fun e w' => e = .returned (.agg #[.int .i64 3, .int .i64 (b2i true), .string ⟨#[]⟩]) ∧ Laid w w') := fun w => refBool_any true w
    have B1 : Hid (∀ w, Calls Tryd.prog 15 #[.bool false] w fun e w' => e = .returned (.agg #[.int .i64 3, .int .i64 (b2i false), .string ⟨#[]⟩]) ∧ Below w.heap.size w w') := fun w => refBool_any false w
    have B2 : Hid (∀ w, Calls Tryd.prog 15 #[.bool true] w fun e w' => e = .returned (.agg #[.int .i64 3, .int .i64 (b2i true), .string ⟨#[]⟩]) ∧ Below w.heap.size w w') := fun w => refBool_any true w
    unfold V.val
    go_enter Tryd.func25, Tryd.ntmps25
    go_wp2_with fail
    refine (L1.out _).mono ?_
    rintro e w1 ⟨rfl, hb1⟩
    have HA : Hid (HasV w1 w.heap.size a) := HasV.kept (by show _ = _; repeat (first | (refine blk_same _ _ _ ?_; focus (simp; done)) | (refine blk_old ?_ ?_; focus (first | omega | (simp; done) | (simp; omega))))) hb1
    have HB : Hid (HasV w1 (w.heap.size + 1) b) := HasV.kept (by show _ = _; repeat (first | (refine blk_same _ _ _ ?_; focus (simp; done)) | (refine blk_old ?_ ?_; focus (first | omega | (simp; done) | (simp; omega))))) hb1
    have O1 : Hid (Own3 w w1 (w.heap.size + 1 + 1) (.int .i64 0) (.int .i64 0) (.string ⟨#[]⟩)) := Own3.kept ⟨by go_grown, by omega, by repeat (first | (refine blk_same _ _ _ ?_; focus (simp; done)) | (refine blk_old ?_ ?_; focus (first | omega | (simp; done) | (simp; omega))))⟩ hb1
    clear hb1
    obtain ⟨b0, b1, b2⟩ := HB.out.cells
    go_wp2_with fail
    refine (L2.out _).mono ?_
    rintro e w2 ⟨rfl, hb2⟩
    replace O1 := Lib.hid (O1.out.kept hb2)
    replace HA := Lib.hid (HA.out.kept hb2); replace HB := Lib.hid (HB.out.kept hb2)
    clear hb2 b0 b1 b2
    go_wp2_with fail
    obtain ⟨a0, a1, a2⟩ := HA.out.cells
    replace a0 := cell_regrown a0; replace a1 := cell_regrown a1; replace a2 := cell_regrown a2
    obtain ⟨b0, b1, b2⟩ := HB.out.cells
    replace b0 := cell_regrown b0; replace b1 := cell_regrown b1; replace b2 := cell_regrown b2
    have e1 := fun w => eql_V a.k a.n a.s 3 (b2i true) ⟨#[]⟩ w
    have e2 := fun w => eql_V b.k b.n b.s 3 (b2i true) ⟨#[]⟩ w
    have g1 : V.same ⟨a.k, a.n, a.s⟩ ⟨3, b2i true, ⟨#[]⟩⟩ = V.same a (V.bool true) := rfl
    have g2 : V.same ⟨b.k, b.n, b.s⟩ ⟨3, b2i true, ⟨#[]⟩⟩ = V.same b (V.bool true) := rfl
    rw [g1] at e1
    rw [g2] at e2
    clear g1 g2
    generalize V.same a (V.bool true) = s1 at *
    generalize V.same b (V.bool true) = s2 at *
    cases s1
    all_goals cases s2
    all_goals
      refine wp_region_mixed 8 [(0, false), (1, false), (2, false), (3, false), (4, false), (5, false), (6, false), (7, false)] (by kernel_rfl) (by kernel_rfl) ?_
      repeat (refine wpM_mild rfl (fun K hK => ?_); go_simp; first | (refine hK _ ?_; clear hK K) | (apply Exists.intro; refine ⟨fun _ => ?_, hK _ ?_⟩; (first | with_reducible exact B0.out _); clear hK K))
      refine wpM_end ?_
      intro w3 _ hb3
      clear a0 a1 a2 b0 b1 b2 e1 e2
      have O3 := Lib.hid (O1.out.kept hb3)
      have HA3 := Lib.hid (HA.out.kept hb3)
      have HB3 := Lib.hid (HB.out.kept hb3)
      clear hb3
      obtain ⟨a0, _, _⟩ := HA3.out.cells
      obtain ⟨b0, _, _⟩ := HB3.out.cells
    · cases k1 : (a.k == 0)
      · cases k2 : (b.k == 0)
        · go_wp2_with fail
          refine (B1.out _).mono ?_
          rintro e w4 ⟨rfl, hb4⟩
          have O4 := Lib.hid (O3.out.kept hb4)
          clear hb4 a0 b0
          obtain ⟨⟨z1, z2, z3⟩, ⟨f1, f2, f3⟩, hs1⟩ := O4.out.facts
          go_wp2_with fail
          refine bodyPost_ret (v := V.pair (V.bool false, 0)) (by simp [results, Tryd.results25, go_sem, z1, z2, z3, V.pair, V.val, V.bool]) rfl ?_
          refine ⟨by rw [HR.out]; simp [k1, k2], ?_⟩
          go_grown
          exact O4.out.below
        · obtain ⟨⟨z1, z2, z3⟩, ⟨f1, f2, f3⟩, hs1⟩ := O3.out.facts
          go_wp2_with fail
          refine bodyPost_ret (v := V.pair (V.null, 0)) (by simp [results, Tryd.results25, go_sem, z1, z2, z3, V.pair, V.val, V.null]) rfl ?_
          refine ⟨by rw [HR.out]; simp [k1, k2], ?_⟩
          go_grown
          exact O3.out.below
      · obtain ⟨⟨z1, z2, z3⟩, ⟨f1, f2, f3⟩, hs1⟩ := O3.out.facts
        go_wp2_with fail
        refine bodyPost_ret (v := V.pair (V.null, 0)) (by simp [results, Tryd.results25, go_sem, z1, z2, z3, V.pair, V.val, V.null]) rfl ?_
        refine ⟨by rw [HR.out]; simp [k1], ?_⟩
        go_grown
        exact O3.out.below
    all_goals
      go_wp2_with fail
      refine (B2.out _).mono ?_
      rintro e w4 ⟨rfl, hb4⟩
      have O4 := Lib.hid (O3.out.kept hb4)
      clear hb4 a0 b0
      obtain ⟨⟨z1, z2, z3⟩, ⟨f1, f2, f3⟩, hs1⟩ := O4.out.facts
      go_wp2_with fail
      refine bodyPost_ret (v := V.pair (V.bool true, 0)) (by simp [results, Tryd.results25, go_sem, z1, z2, z3, V.pair, V.val, V.bool]) rfl ?_
      refine ⟨by rw [HR.out]; simp, ?_⟩
      go_grown
      exact O4.out.below
end Go.Proofs.YtbpnnhdhpahbjaaDoor
