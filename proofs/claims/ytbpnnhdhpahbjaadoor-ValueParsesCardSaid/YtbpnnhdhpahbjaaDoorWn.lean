/-
  The walk of the reference's Not
-/
import Derived.Test.YtbpnnhdhpahbjaaDoorWm
namespace Go.Proofs.YtbpnnhdhpahbjaaDoor
open Go.RowKit Go.Sort

set_option maxRecDepth 100000 in
set_option maxHeartbeats 2000000 in
theorem refNot_any (a : V) (w : World) : Calls Tryd.prog 27 #[a.val] w fun e w' => e = .returned (V.pair (V.rnot a)) ∧ Below w.heap.size w w' := by
  have L1 := Lib.hid (fun w => refLogical_any a w)
  cases la : a.logical
  · rw [la] at L1
    have HR : Hid (V.rnot a = (V.null, 7)) := by show _ = _; simp [V.rnot, la]
    clear la
    unfold V.val
    go_enter Tryd.func27, Tryd.ntmps27
    go_wp2_with fail
    refine (L1.out _).mono ?_
    rintro e w1 ⟨rfl, hb1⟩
    have O1 : Hid (Own3 w w1 (w.heap.size + 1) (.int .i64 0) (.int .i64 0) (.string ⟨#[]⟩)) := Own3.kept ⟨by go_grown, by omega, by repeat (first | (refine blk_same _ _ _ ?_; focus (simp; done)) | (refine blk_old ?_ ?_; focus (first | omega | (simp; done) | (simp; omega))))⟩ hb1
    clear hb1
    obtain ⟨⟨z1, z2, z3⟩, ⟨f1, f2, f3⟩, hs1⟩ := O1.out.facts
    go_wp2_with fail
    refine bodyPost_ret (v := V.pair (V.null, 7)) (by simp [results, Tryd.results27, go_sem, z1, z2, z3, V.pair, V.val, V.null]) rfl ?_
    refine ⟨by rw [HR.out], ?_⟩
    go_grown
    exact O1.out.below
  · rw [la] at L1
    have HR : Hid (V.rnot a = if a.k == 0 then (a, 0) else (V.bool (a.n == 0), 0)) := by show _ = _; simp [V.rnot, la]
    clear la
    have B0 : Hid (∀ b w, Calls Tryd.prog 15 #[.bool b] w fun e w' => e = .returned (.agg #[.int .i64 3, .int .i64 (b2i b), .string ⟨#[]⟩]) ∧ Below w.heap.size w w') := fun b w => refBool_any b w
    unfold V.val
    go_enter Tryd.func27, Tryd.ntmps27
    go_wp2_with fail
    refine (L1.out _).mono ?_
    rintro e w1 ⟨rfl, hb1⟩
    have HA : Hid (HasV w1 w.heap.size a) := HasV.kept (by show _ = _; repeat (first | (refine blk_same _ _ _ ?_; focus (simp; done)) | (refine blk_old ?_ ?_; focus (first | omega | (simp; done) | (simp; omega))))) hb1
    have O1 : Hid (Own3 w w1 (w.heap.size + 1) (.int .i64 0) (.int .i64 0) (.string ⟨#[]⟩)) := Own3.kept ⟨by go_grown, by omega, by repeat (first | (refine blk_same _ _ _ ?_; focus (simp; done)) | (refine blk_old ?_ ?_; focus (first | omega | (simp; done) | (simp; omega))))⟩ hb1
    clear hb1
    obtain ⟨a0, a1, a2⟩ := HA.out.cells
    cases k1 : (a.k == 0)
    · go_wp2_with fail
      refine (B0.out _ _).mono ?_
      rintro e w4 ⟨rfl, hb4⟩
      have O4 := Lib.hid (O1.out.kept hb4)
      clear hb4 a0 a1 a2
      obtain ⟨⟨z1, z2, z3⟩, ⟨f1, f2, f3⟩, hs1⟩ := O4.out.facts
      go_wp2_with fail
      refine bodyPost_ret (v := V.pair (V.bool (a.n == 0), 0)) (by simp [results, Tryd.results27, go_sem, z1, z2, z3, V.pair, V.val, V.bool]) rfl ?_
      refine ⟨by rw [HR.out]; simp [k1], ?_⟩
      go_grown
      exact O4.out.below
    · obtain ⟨⟨z1, z2, z3⟩, ⟨f1, f2, f3⟩, hs1⟩ := O1.out.facts
      go_wp2_with fail
      refine bodyPost_ret (v := V.pair (a, 0)) (by simp [results, Tryd.results27, go_sem, z1, z2, z3, V.pair, V.val]) rfl ?_
      refine ⟨by rw [HR.out]; simp [k1], ?_⟩
      go_grown
      exact O1.out.below
end Go.Proofs.YtbpnnhdhpahbjaaDoor
