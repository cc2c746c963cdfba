/-
  Walks: what small functions of the program return: truth, Bool, cmp.Compare, strings.Compare, cmp.Or at three integers, value.Compare. For every argument; the memory that was there is as it was.
-/
import Derived.Test.YtbpnnhdhpahbjaaDoorChecked
import Derived.Test.YtbpnnhdhpahbjaaDoorKit
import Derived.Test.YtbpnnhdhpahbjaaDoorPlain
import Derived.WalkKit
import Derived.WalkLawsBesides
import Derived.WalkSpells
import Derived.Outline
import Derived.Handy
import Derived.Lib.Hide
import Derived.Deep.QuietTactic
import Derived.BigQuiet
namespace Go.Proofs.YtbpnnhdhpahbjaaDoor
open Go.RowKit Go.Sort

theorem truth_any (b : Bool) (w : World) : Calls Tryd.prog 46 #[.bool b] w fun e w' => e = .returned (V.bool b).val ∧ Below w.heap.size w w' := by
  cases b
  all_goals
    go_enter Tryd.func46, Tryd.ntmps46
    go_wp2
    go_returns
    exact ⟨rfl, by go_grown⟩

theorem refBool_any (b : Bool) (w : World) : Calls Tryd.prog 15 #[.bool b] w fun e w' => e = .returned (V.bool b).val ∧ Below w.heap.size w w' := by
  cases b
  all_goals
    go_enter Tryd.func15, Tryd.ntmps15
    go_wp2
    go_returns
    exact ⟨rfl, by go_grown⟩

theorem num_any (n : Int) (w : World) : Calls Tryd.prog 42 #[.int .i64 n] w fun e w' => e = .returned (V.num n).val ∧ Below w.heap.size w w' := by
  go_enter Tryd.func42, Tryd.ntmps42
  go_wp2
  go_returns
  exact ⟨rfl, by go_grown⟩

theorem compareInt_any (a b : Int) (w : World) : Calls Tryd.prog 44 #[.int .i64 a, .int .i64 b] w fun e w' => e = .returned (.int .i64 (cmpI a b)) ∧ w = w' := by
  by_cases h : a < b
  · go_enter Tryd.func44, Tryd.ntmps44
    go_wp2
    go_returns
    exact ⟨congrArg (fun x => Ending.returned (.int .i64 x)) (by rw [cmpI, if_pos (by omega)]), rfl⟩
  · by_cases h2 : b < a
    · go_enter Tryd.func44, Tryd.ntmps44
      go_wp2
      go_returns
      exact ⟨congrArg (fun x => Ending.returned (.int .i64 x)) (by rw [cmpI, if_neg (by omega), if_pos (by omega)]), rfl⟩
    · go_enter Tryd.func44, Tryd.ntmps44
      go_wp2
      go_returns
      exact ⟨congrArg (fun x => Ending.returned (.int .i64 x)) (by rw [cmpI, if_neg (by omega), if_neg (by omega)]), rfl⟩

set_option maxRecDepth 100000 in
theorem compareString_any (a b : ByteArray) (w : World) : Calls Tryd.prog 45 #[.string a, .string b] w fun e w' => e = .returned (.int .i64 (cmpS a b)) ∧ w = w' := by
  go_enter Tryd.func45, Tryd.ntmps45
  go_wp2
  rw [run_callFunc_extern Tryd.func80 (by kernel_rfl) (by kernel_rfl) (by kernel_rfl) (e := Extern.BytealgCompare.compare) (by kernel_rfl), Lib.run_compareString]
  simp only [Result.andThen]
  rw [Oper.upon_value]
  go_wp2
  go_returns
  exact ⟨rfl, rfl⟩

theorem or3_any (a b c : Int) (bk : Nat) (w : World) (h0 : w.cell? ⟨bk, 0, none⟩ = some (.int .i64 a)) (h1 : w.cell? ⟨bk, 1, none⟩ = some (.int .i64 b)) (h2 : w.cell? ⟨bk, 2, none⟩ = some (.int .i64 c)) :
   Calls Tryd.prog 43 #[.slice (some ⟨bk, 0, none⟩) 3 3] w fun e w' => e = .returned (.int .i64 (or3 a b c)) ∧ w = w' := by
  unfold or3
  cases ha : (a != 0) <;> cases hb : (b != 0) <;> cases hc : (c != 0)
  all_goals
    go_enter Tryd.func43, Tryd.ntmps43
    go_wp2
    go_rounds 4
    all_goals go_returns
    all_goals simp_all

set_option maxRecDepth 100000 in
set_option maxHeartbeats 400000 in
theorem compare_any (a b : V) (w : World) : Calls Tryd.prog 13 #[a.val, b.val] w fun e w' => e = .returned (.int .i64 (a.cmp b)) ∧ Below w.heap.size w w' := by
  unfold V.val
  go_enter Tryd.func13, Tryd.ntmps13
  go_wp2_with fail
  refine wp_gen (fun W => (W.cell? ⟨w.heap.size, 0, none⟩ = some (.int .i64 a.k) ∧ W.cell? ⟨w.heap.size, 1, none⟩ = some (.int .i64 a.n) ∧ W.cell? ⟨w.heap.size, 2, none⟩ = some (.string a.s)) ∧ (W.cell? ⟨w.heap.size + 1, 0, none⟩ = some (.int .i64 b.k) ∧ W.cell? ⟨w.heap.size + 1, 1, none⟩ = some (.int .i64 b.n) ∧ W.cell? ⟨w.heap.size + 1, 2, none⟩ = some (.string b.s)) ∧ Below w.heap.size w W) ⟨⟨by go_cell, by go_cell, by go_cell⟩, ⟨by go_cell, by go_cell, by go_cell⟩, by go_grown⟩ ?_
  rintro W ⟨⟨k0, k1, k2⟩, ⟨l0, l1, l2⟩, hb⟩
  have HB := Lib.hid hb
  clear hb
  replace k0 := cell_regrown k0; replace k1 := cell_regrown k1; replace k2 := cell_regrown k2; replace l0 := cell_regrown l0; replace l1 := cell_regrown l1; replace l2 := cell_regrown l2
  refine wp_region_tail_below 15 (by kernel_rfl) (by kernel_rfl) ?_
  simp only [List.take_succ_cons, List.take_zero, List.drop_succ_cons, List.drop_zero]
  repeat (quiet_step (first | exact Calls.regrown_same (compareInt_any _ _ _) | exact Calls.regrown_same (compareString_any _ _ _)))
  refine wpQuiet_nil ?_
  intro W2 hb2
  have HB2 := Lib.hid hb2
  clear hb2 k0 k1 k2 l0 l1 l2
  go_wp2_with fail
  refine (or3_any (cmpI a.k b.k) (cmpI a.n b.n) (cmpS a.s b.s) _ _ (by go_cell) (by go_cell) (by go_cell)).mono ?_
  rintro e w' ⟨rfl, rfl⟩
  go_wp2
  go_returns
  exact ⟨rfl, ((HB.out).trans ((HB2.out).mono (HB.out).size)).alloc (Nat.le_trans (HB.out).size (HB2.out).size) _⟩
end Go.Proofs.YtbpnnhdhpahbjaaDoor
