/-
  Walks: Right of the reference and of the program, sign, Compare and Test of both, logical, And, Or, Not of the reference. For every argument; the memory that was there is as it was.
-/
import Derived.Test.YtbpnnhdhpahbjaaDoorWa
namespace Go.Proofs.YtbpnnhdhpahbjaaDoor
open Go.RowKit Go.Sort

theorem ret_bool {a b : Bool} (h : a = b) : Ending.returned (.bool a) = .returned (.bool b) := by rw [h]
theorem ret_int {k : IntKind} {a b : Int} (h : a = b) : Ending.returned (.int k a) = .returned (.int k b) := by rw [h]

set_option maxRecDepth 100000 in
theorem refRight_any (v : V) (w : World) : Calls Tryd.prog 11 #[v.val] w fun e w' => e = .returned (.bool v.right) ∧ Below w.heap.size w w' := by
  obtain ⟨k, n, s⟩ := v
  unfold V.val
  by_cases h0 : k = 0
  · subst h0
    go_enter Tryd.func11, Tryd.ntmps11
    go_wp2
    all_goals go_returns
    all_goals refine ⟨ret_bool ?_, by go_grown⟩
    all_goals (simp [V.right, *] <;> omega)
  by_cases h1 : k = 1
  · subst h1
    go_enter Tryd.func11, Tryd.ntmps11
    go_wp2
    all_goals go_returns
    all_goals refine ⟨ret_bool ?_, by go_grown⟩
    all_goals (simp [V.right, *] <;> omega)
  by_cases h2 : k = 2
  · subst h2
    go_enter Tryd.func11, Tryd.ntmps11
    go_wp2
    all_goals go_returns
    all_goals refine ⟨ret_bool ?_, by go_grown⟩
    all_goals (simp [V.right, *] <;> omega)
  by_cases h3 : k = 3
  · subst h3
    go_enter Tryd.func11, Tryd.ntmps11
    go_wp2
    all_goals go_returns
    all_goals refine ⟨ret_bool ?_, by go_grown⟩
    all_goals (simp [V.right, *] <;> omega)
  · have e : V.right ⟨k, n, s⟩ = false := by simp [V.right, h0, h1, h2, h3]
    rw [e]
    clear e
    go_enter Tryd.func11, Tryd.ntmps11
    go_wp2
    go_returns
    exact ⟨rfl, by go_grown⟩

set_option maxRecDepth 100000 in
theorem right_any (v : V) (hv : v.Wf) (w : World) : Calls Tryd.prog 19 #[v.val] w fun e w' => e = .returned (.bool v.right) ∧ Below w.heap.size w w' := by
  obtain ⟨k, n, s⟩ := v
  unfold V.val
  by_cases h0 : k = 0
  · subst h0
    go_enter Tryd.func19, Tryd.ntmps19
    go_wp2
    all_goals go_returns
    all_goals refine ⟨ret_bool ?_, by go_grown⟩
    all_goals (simp [V.right, *] <;> omega)
  by_cases h1 : k = 1
  · subst h1
    go_enter Tryd.func19, Tryd.ntmps19
    go_wp2
    all_goals go_returns
    all_goals refine ⟨ret_bool ?_, by go_grown⟩
    all_goals (simp [V.right, *] <;> omega)
  by_cases h2 : k = 2
  · subst h2
    go_enter Tryd.func19, Tryd.ntmps19
    go_wp2
    all_goals go_returns
    all_goals refine ⟨ret_bool ?_, by go_grown⟩
    all_goals (simp [V.right, *] <;> omega)
  by_cases h3 : k = 3
  · subst h3
    go_enter Tryd.func19, Tryd.ntmps19
    go_wp2
    all_goals go_returns
    all_goals refine ⟨ret_bool ?_, by go_grown⟩
    all_goals (rename_i hbits; rw [andNot_one _ hv.1 hv.2] at hbits; simp [V.right, hbits])
  · have e : V.right ⟨k, n, s⟩ = false := by simp [V.right, h0, h1, h2, h3]
    rw [e]
    clear e
    go_enter Tryd.func19, Tryd.ntmps19
    go_wp2
    go_returns
    exact ⟨rfl, by go_grown⟩

theorem sign_any (a b : Int) (w : World) : Calls Tryd.prog 52 #[.int .i64 a, .int .i64 b] w fun e w' => e = .returned (.int .i64 (cmpI a b)) ∧ w = w' := by
  go_enter Tryd.func52, Tryd.ntmps52
  go_wp2
  all_goals go_returns
  all_goals refine ⟨ret_int ?_, rfl⟩
  all_goals (unfold cmpI; repeat (first | rw [if_pos (by omega)] | rw [if_neg (by omega)]))

set_option maxRecDepth 100000 in
theorem refCompare_any (a b : V) (w : World) : Calls Tryd.prog 28 #[a.val, b.val] w fun e w' => e = .returned (.int .i64 (a.rcmp b)) ∧ Below w.heap.size w w' := by
  obtain ⟨ka, na, sa⟩ := a
  obtain ⟨kb, nb, sb⟩ := b
  unfold V.val V.rcmp
  go_enter Tryd.func28, Tryd.ntmps28
  go_wp2_with (go_at_call 52; refine (sign_any _ _ _).mono ?_; rintro e w' ⟨rfl, rfl⟩)
  all_goals go_returns
  all_goals refine ⟨ret_int ?_, by go_grown⟩
  all_goals simp [*]

set_option maxRecDepth 100000 in
theorem eql_V (k n : Int) (s : ByteArray) (k' n' : Int) (s' : ByteArray) (w : World) : (binOp .eql 23 (.agg #[.int .i64 k, .int .i64 n, .string s]) (.agg #[.int .i64 k', .int .i64 n', .string s'])).run Tryd.prog w = .ok (.bool (V.same ⟨k, n, s⟩ ⟨k', n', s'⟩)) w := by
  unfold V.same
  go_simp
  simp only [toList_inj]
  by_cases h1 : k = k' <;> by_cases h2 : n = n' <;> by_cases h3 : s = s' <;> simp [h1, h2, h3]
set_option maxRecDepth 100000 in
theorem neq_V (k n : Int) (s : ByteArray) (k' n' : Int) (s' : ByteArray) (w : World) : (binOp .neq 23 (.agg #[.int .i64 k, .int .i64 n, .string s]) (.agg #[.int .i64 k', .int .i64 n', .string s'])).run Tryd.prog w = .ok (.bool (!V.same ⟨k, n, s⟩ ⟨k', n', s'⟩)) w := by
  unfold V.same
  go_simp
  simp only [toList_inj]
  by_cases h1 : k = k' <;> by_cases h2 : n = n' <;> by_cases h3 : s = s' <;> simp [h1, h2, h3]
end Go.Proofs.YtbpnnhdhpahbjaaDoor
