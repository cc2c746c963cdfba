/-
  Walks: logical and Test of the reference. For every argument.
-/
import Derived.Test.YtbpnnhdhpahbjaaDoorL4
namespace Go.Proofs.YtbpnnhdhpahbjaaDoor
open Go.RowKit Go.Sort

theorem refLogical_any (v : V) (w : World) : Calls Tryd.prog 50 #[v.val] w fun e w' => e = .returned (.bool v.logical) ∧ Below w.heap.size w w' := by
  obtain ⟨k, n, s⟩ := v
  unfold V.val V.logical
  go_enter Tryd.func50, Tryd.ntmps50
  go_wp2_with fail
  all_goals go_returns
  all_goals refine ⟨ret_bool ?_, by go_grown⟩
  all_goals first | (simp [*]; done) | (simp [*]; grind)

set_option maxRecDepth 100000 in
set_option maxHeartbeats 2000000 in
theorem refTest_any (op : Int) (a b : V) (w : World) : Calls Tryd.prog 21 #[.int .i64 op, a.val, b.val] w fun e w' => e = .returned (V.pair (V.testBy op a b (a.rcmp b))) ∧ Below w.heap.size w w' := by
  obtain ⟨ka, na, sa⟩ := a
  obtain ⟨kb, nb, sb⟩ := b
  have HC := Lib.hid (fun w => refCompare_any ⟨ka, na, sa⟩ ⟨kb, nb, sb⟩ w)
  generalize V.rcmp ⟨ka, na, sa⟩ ⟨kb, nb, sb⟩ = c at *
  by_cases h1 : op < 6 ∨ 11 < op
  · have e : V.testBy op ⟨ka, na, sa⟩ ⟨kb, nb, sb⟩ c = (V.null, 1) := by simp [V.testBy, h1]
    rw [e]
    clear e HC
    unfold V.val
    rcases h1 with h1 | h1
    all_goals
      go_enter Tryd.func21, Tryd.ntmps21
      go_wp2_with fail
      go_returns
      exact ⟨rfl, by go_grown⟩
  have h1a : 6 ≤ op := by omega
  have h1b : op ≤ 11 := by omega
  by_cases h2 : ka = 0 ∨ kb = 0
  · have e : V.testBy op ⟨ka, na, sa⟩ ⟨kb, nb, sb⟩ c = (V.null, 0) := by simp only [V.testBy]; rw [if_neg h1, if_pos h2]
    rw [e]
    clear e h1 HC
    unfold V.val
    rcases h2 with h2 | h2
    · go_enter Tryd.func21, Tryd.ntmps21
      go_wp2_with fail
      go_returns
      exact ⟨rfl, by go_grown⟩
    · by_cases h3 : ka = 0
      all_goals
        go_enter Tryd.func21, Tryd.ntmps21
        go_wp2_with fail
        go_returns
        exact ⟨rfl, by go_grown⟩
  by_cases h3 : ka ≠ kb
  · have e : V.testBy op ⟨ka, na, sa⟩ ⟨kb, nb, sb⟩ c = (V.null, 7) := by simp only [V.testBy]; rw [if_neg h1, if_neg h2, if_pos h3]
    rw [e]
    clear e h1 HC
    have h2a : (ka == 0) = false := beq_eq_false_iff_ne.2 fun h => h2 (Or.inl h)
    have h2b : (kb == 0) = false := beq_eq_false_iff_ne.2 fun h => h2 (Or.inr h)
    have h2c : (ka != kb) = true := by rw [bne_iff_ne]; exact h3
    clear h2 h3
    unfold V.val
    go_enter Tryd.func21, Tryd.ntmps21
    go_wp2_with fail
    go_returns
    exact ⟨rfl, by go_grown⟩
  · have h3 : ka = kb := by omega
    subst h3
    have e : V.testBy op ⟨ka, na, sa⟩ ⟨ka, nb, sb⟩ c = (V.bool (testB op c), 0) := by simp only [V.testBy]; rw [if_neg h1, if_neg h2, if_neg (by simp)]
    rw [e]
    have h2a : (ka == 0) = false := beq_eq_false_iff_ne.2 fun h => h2 (Or.inl h)
    clear e h1 h2
    unfold V.val
    obtain rfl | rfl | rfl | rfl | rfl | rfl : op = 6 ∨ op = 7 ∨ op = 8 ∨ op = 9 ∨ op = 10 ∨ op = 11 := by omega
    all_goals
      go_enter Tryd.func21, Tryd.ntmps21
      go_wp2_with fail
      refine (HC.out _).mono ?_
      rintro e w1 ⟨rfl, hb1⟩
      have o1 : Own3 w w1 (w.heap.size + 1 + 1) (.int .i64 0) (.int .i64 0) (.string ⟨#[]⟩) := Own3.kept ⟨by go_grown, by omega, by repeat (first | (refine blk_same _ _ _ ?_; focus (simp; done)) | (refine blk_old ?_ ?_; focus (first | omega | (simp; done) | (simp; omega))))⟩ hb1
      have O1 := Lib.hid o1
      clear hb1 o1
      go_wp2_with fail
      refine (refBool_any _ _).mono ?_
      rintro e w2 ⟨rfl, hb2⟩
      have O2 := Lib.hid (O1.out.kept hb2)
      clear hb2
      obtain ⟨⟨z1, z2, z3⟩, ⟨f1, f2, f3⟩, hs1⟩ := O2.out.facts
      unfold V.val
      go_wp2_with fail
      refine bodyPost_ret (by simp [results, Tryd.results21, go_sem, z1, z2, z3]; rfl) rfl ?_
      refine ⟨?_, by go_grown; exact O2.out.below⟩
      first | (simp [V.pair, V.val, testB, V.bool, b2i]; done) | (simp [V.pair, V.val, testB, V.bool, b2i]; rfl) | (simp [V.pair, V.val, testB, V.bool, b2i, bne]; grind)
end Go.Proofs.YtbpnnhdhpahbjaaDoor
