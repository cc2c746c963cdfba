/-
  Walk: the examples of the chapter, which every statement plays first, hold. No condition.
-/
import Derived.Test.YtbpnnhdhpahbjaaDoorWi
namespace Go.Proofs.YtbpnnhdhpahbjaaDoor
open Go.RowKit Go.Sort

/-- A block that holds a value. -/
def HasV (w : World) (b : Nat) (v : V) : Prop := w.heap[b]? = some (.cells #[.int .i64 v.k, .int .i64 v.n, .string v.s] 23 (0, 0))
theorem HasV.kept {w w' : World} {b : Nat} {v : V} (h : HasV w b v) (hb : Below w.heap.size w w') : HasV w' b v := hb.blk_kept h
theorem HasV.cells {w : World} {b : Nat} {v : V} (h : HasV w b v) : w.cell? ⟨b, 0, none⟩ = some (.int .i64 v.k) ∧ w.cell? ⟨b, 1, none⟩ = some (.int .i64 v.n) ∧ w.cell? ⟨b, 2, none⟩ = some (.string v.s) := by
  unfold HasV at h
  refine ⟨?_, ?_, ?_⟩ <;> simp [World.cell?, h]
theorem HasV.lt {w : World} {b : Nat} {v : V} (h : HasV w b v) : b < w.heap.size := (Array.getElem?_eq_some_iff.1 h).1

/-- The text of the example. -/
def vText : V := ⟨2, 0, ⟨#[97, 98, 99, 100]⟩⟩

theorem san1 : V.test 9 (V.num 3) V.null = (V.null, 0) := by simp [V.test, V.testBy, V.num, V.null]
theorem san2 : V.test 6 (V.num 3) vText = (V.null, 7) := by simp [V.test, V.testBy, V.num, V.null, vText]
theorem san3 : V.test 8 (V.num 2) (V.num 3) = (V.bool true, 0) := by decide +kernel
theorem san4 : V.decideL false [V.bool false, V.null] = (V.bool false, 0) := by decide +kernel
theorem san5 : V.decideL true [V.bool false, V.null] = (V.null, 0) := by decide +kernel
theorem san6 : (keyAll [V.num (-549755813888), vText]).take 9 = [1, 0, 2, 418262508548, 0] := by decide +kernel
theorem san7 : V.cmp V.null (V.num (-5)) = -1 := by decide +kernel
theorem san8 : V.cmp ⟨2, 0, ⟨#[98]⟩⟩ ⟨2, 0, ⟨#[97, 98]⟩⟩ = 1 := by decide +kernel
theorem san9 : printText ⟨#[97, 39, 10]⟩ = [39, 97, 92, 50, 55, 92, 48, 97, 39] := by decide +kernel
theorem san10 : (V.num 549755813887).right = true := by decide +kernel
theorem san11 : (V.num 549755813888).right = false := by decide +kernel

theorem call1 (w : World) : Calls Tryd.prog 14 #[.int .i64 9, (V.num 3).val, V.null.val] w fun e w' => e = .returned (.tuple #[.agg #[.int .i64 0, .int .i64 0, .string ⟨#[]⟩], .int .i64 0]) ∧ Below w.heap.size w w' := by
  have := test_any 9 (V.num 3) V.null w; rw [san1] at this; exact this
theorem call2 (w : World) : Calls Tryd.prog 14 #[.int .i64 6, (V.num 3).val, vText.val] w fun e w' => e = .returned (.tuple #[.agg #[.int .i64 0, .int .i64 0, .string ⟨#[]⟩], .int .i64 7]) ∧ Below w.heap.size w w' := by
  have := test_any 6 (V.num 3) vText w; rw [san2] at this; exact this
theorem call3 (w : World) : Calls Tryd.prog 14 #[.int .i64 8, (V.num 2).val, (V.num 3).val] w fun e w' => e = .returned (.tuple #[.agg #[.int .i64 3, .int .i64 1, .string ⟨#[]⟩], .int .i64 0]) ∧ Below w.heap.size w w' := by
  have := test_any 8 (V.num 2) (V.num 3) w; rw [san3] at this; exact this
theorem call4 (w : World) : Calls Tryd.prog 22 #[(V.bool false).val, V.null.val] w fun e w' => e = .returned (.tuple #[.agg #[.int .i64 3, .int .i64 0, .string ⟨#[]⟩], .int .i64 0]) ∧ Below w.heap.size w w' := by
  have := and_any (V.bool false) V.null w; rw [san4] at this; exact this
theorem call5 (w : World) : Calls Tryd.prog 24 #[(V.bool false).val, V.null.val] w fun e w' => e = .returned (.tuple #[.agg #[.int .i64 0, .int .i64 0, .string ⟨#[]⟩], .int .i64 0]) ∧ Below w.heap.size w w' := by
  have := or_any (V.bool false) V.null w; rw [san5] at this; exact this
theorem bool1 (w : World) : Calls Tryd.prog 15 #[.bool true] w fun e w' => e = .returned (.agg #[.int .i64 3, .int .i64 1, .string ⟨#[]⟩]) ∧ Below w.heap.size w w' := refBool_any true w
theorem bool0 (w : World) : Calls Tryd.prog 15 #[.bool false] w fun e w' => e = .returned (.agg #[.int .i64 3, .int .i64 0, .string ⟨#[]⟩]) ∧ Below w.heap.size w w' := refBool_any false w

set_option maxRecDepth 100000 in
set_option maxHeartbeats 4000000 in
theorem sanity_any (w : World) : Calls Tryd.prog 12 #[] w fun e w' => e = .returned (.bool true) ∧ Below w.heap.size w w' := by
  go_enter Tryd.func12, Tryd.ntmps12
  go_wp2_with fail
  refine (num_any 3 _).mono ?_
  rintro e w1 ⟨rfl, hb1⟩
  have HT : Hid (HasV w1 w.heap.size vText) := HasV.kept (blk_new w _) hb1
  have HB : Hid (Below w.heap.size w w1) := ((Below.refl _ w).alloc (Nat.le_refl _) _).trans (hb1.mono (by simp))
  clear hb1
  go_wp2_with fail
  refine (call1 _).mono ?_
  rintro e w2 ⟨rfl, hb2⟩
  replace HT := Lib.hid (HT.out.kept hb2)
  replace HB := Lib.hid (HB.out.step hb2)
  clear hb2
  go_wp2_with fail
  refine wp_gen (fun W => HasV W w2.heap.size V.null ∧ HasV W w.heap.size vText ∧ Below w.heap.size w W) ⟨blk_new _ _, HT.out.kept (by go_grown), HB.out.alloc HB.out.size _⟩ ?_
  rintro w3 ⟨ha, ht, hb⟩
  generalize w2.heap.size = ba at *
  have HA := Lib.hid ha
  replace HT := Lib.hid ht
  replace HB := Lib.hid hb
  obtain ⟨t0, t1, t2⟩ := ht.cells
  replace t0 := cell_regrown t0; replace t1 := cell_regrown t1; replace t2 := cell_regrown t2
  clear ha ht hb w1 w2
  refine wp_region_mixed 9 [(0, false), (1, false), (2, false), (3, false), (4, false), (5, false), (6, true), (7, true), (8, false)] (by kernel_rfl) (by kernel_rfl) ?_
  repeat (refine wpM_mild rfl (fun K hK => ?_); go_simp; first | (refine hK _ ?_; clear hK K) | (apply Exists.intro; refine ⟨fun _ => ?_, hK _ ?_⟩; (first | exact num_any 3 _ | exact call2 _); clear hK K))
  clear t0 t1 t2
  refine wpM_eff rfl ?_
  intro w4 hb4 _
  go_wp2_with fail
  refine ⟨hb4.alloc hb4.size _, wpM_eff rfl ?_⟩
  intro w5 hb5 hb53
  have o5 : Own3 w3 w5 w4.heap.size (.int .i64 0) (.int .i64 0) (.string ⟨#[]⟩) := Own3.kept ⟨hb4.alloc hb4.size _, hb4.size, blk_new _ _⟩ hb5
  obtain ⟨⟨z1, z2, z3⟩, ⟨f1, f2, f3⟩, hs1⟩ := o5.facts
  have O5 := Lib.hid o5
  clear hb4 hb5 hb53 o5
  go_wp2_with fail
  refine ⟨by go_grown; exact O5.out.below; exact O5.out.old; exact O5.out.old; exact O5.out.old, ?_⟩
  repeat (refine wpM_mild rfl (fun K hK => ?_); go_simp; first | (refine hK _ ?_; clear hK K) | (apply Exists.intro; refine ⟨fun _ => ?_, hK _ ?_⟩; (fail); clear hK K))
  refine wpM_end ?_
  intro w6 _ hb6
  replace HT := Lib.hid (HT.out.kept hb6)
  replace HA := Lib.hid (HA.out.kept hb6)
  replace HB := Lib.hid (HB.out.step hb6)
  clear hb6 z1 z2 z3 f1 f2 f3 hs1 O5
  go_wp2_with fail
  refine (num_any 2 _).mono ?_
  rintro e w7 ⟨rfl, hb7⟩
  replace HT := Lib.hid (HT.out.kept hb7); replace HA := Lib.hid (HA.out.kept hb7); replace HB := Lib.hid (HB.out.step hb7)
  clear hb7
  go_wp2_with fail
  refine (num_any 3 _).mono ?_
  rintro e w8 ⟨rfl, hb7⟩
  replace HT := Lib.hid (HT.out.kept hb7); replace HA := Lib.hid (HA.out.kept hb7); replace HB := Lib.hid (HB.out.step hb7)
  clear hb7
  go_wp2_with fail
  refine (call3 _).mono ?_
  rintro e w9 ⟨rfl, hb7⟩
  replace HT := Lib.hid (HT.out.kept hb7); replace HA := Lib.hid (HA.out.kept hb7); replace HB := Lib.hid (HB.out.step hb7)
  clear hb7
  go_wp2_with fail
  refine (bool0 _).mono ?_
  rintro e w10 ⟨rfl, hb7⟩
  have HBB : Hid (HasV w10 w9.heap.size (V.bool true)) := HasV.kept (blk_new w9 _) hb7
  replace hb7 : Below w9.heap.size w9 w10 := ((Below.refl _ w9).alloc (Nat.le_refl _) _).trans (hb7.mono (by simp))
  replace HT := Lib.hid (HT.out.kept hb7); replace HA := Lib.hid (HA.out.kept hb7); replace HB := Lib.hid (HB.out.step hb7)
  clear hb7
  generalize w9.heap.size = bb at *
  go_wp2_with fail
  refine (call4 _).mono ?_
  rintro e w11 ⟨rfl, hb7⟩
  replace HT := Lib.hid (HT.out.kept hb7); replace HA := Lib.hid (HA.out.kept hb7); replace HB := Lib.hid (HB.out.step hb7); replace HBB := Lib.hid (HBB.out.kept hb7)
  clear hb7
  go_wp2_with fail
  refine (bool0 _).mono ?_
  rintro e w12 ⟨rfl, hb7⟩
  have HC : Hid (HasV w12 w11.heap.size (V.bool false)) := HasV.kept (blk_new w11 _) hb7
  replace hb7 : Below w11.heap.size w11 w12 := ((Below.refl _ w11).alloc (Nat.le_refl _) _).trans (hb7.mono (by simp))
  replace HT := Lib.hid (HT.out.kept hb7); replace HA := Lib.hid (HA.out.kept hb7); replace HB := Lib.hid (HB.out.step hb7); replace HBB := Lib.hid (HBB.out.kept hb7)
  clear hb7
  generalize w11.heap.size = bc at *
  go_wp2_with fail
  refine (call5 _).mono ?_
  rintro e w13 ⟨rfl, hb7⟩
  replace HT := Lib.hid (HT.out.kept hb7); replace HA := Lib.hid (HA.out.kept hb7); replace HB := Lib.hid (HB.out.step hb7); replace HBB := Lib.hid (HBB.out.kept hb7); replace HC := Lib.hid (HC.out.kept hb7)
  clear hb7
  go_wp2_with fail
  refine wp_gen (fun W => HasV W w13.heap.size V.null ∧ Below w13.heap.size w13 W) ⟨blk_new _ _, by go_grown⟩ ?_
  rintro w14 ⟨hd, hb7⟩
  replace HT := Lib.hid (HT.out.kept hb7); replace HA := Lib.hid (HA.out.kept hb7); replace HB := Lib.hid (HB.out.step hb7); replace HBB := Lib.hid (HBB.out.kept hb7); replace HC := Lib.hid (HC.out.kept hb7)
  have HD := Lib.hid hd
  generalize w13.heap.size = bd at *
  clear hb7 hd
  obtain ⟨t0, t1, t2⟩ := HA.out.cells
  replace t0 := cell_regrown t0; replace t1 := cell_regrown t1; replace t2 := cell_regrown t2
  obtain ⟨x0, x1, x2⟩ := HBB.out.cells
  replace x0 := cell_regrown x0; replace x1 := cell_regrown x1; replace x2 := cell_regrown x2
  obtain ⟨y0, y1, y2⟩ := HC.out.cells
  replace y0 := cell_regrown y0; replace y1 := cell_regrown y1; replace y2 := cell_regrown y2
  obtain ⟨z0, z1, z2⟩ := HD.out.cells
  replace z0 := cell_regrown z0; replace z1 := cell_regrown z1; replace z2 := cell_regrown z2
  simp only [V.null, V.bool, b2i, if_true, Bool.false_eq_true, if_false] at t0 t1 t2 x0 x1 x2 y0 y1 y2 z0 z1 z2
  refine wp_region_mixed 39 [(0, false), (1, false), (2, false), (3, false), (4, false), (5, false), (6, false), (7, false), (8, false), (9, false), (10, false), (11, false), (12, false), (13, false), (14, false), (15, false), (16, false), (17, false), (18, false), (19, false), (20, false), (21, false), (22, false), (23, false), (24, false), (25, false), (26, false), (27, false), (28, false), (29, false), (30, false), (31, false), (32, false), (33, false), (34, false), (35, false), (36, false), (37, false), (38, false)] (by kernel_rfl) (by kernel_rfl) ?_
  repeat (refine wpM_mild rfl (fun K hK => ?_); go_simp; first | (refine hK _ ?_; clear hK K) | (apply Exists.intro; refine ⟨fun _ => ?_, hK _ ?_⟩; (first | exact bool1 _ | exact bool0 _); clear hK K))
  refine wpM_end ?_
  intro w15 _ hb7
  replace HT := Lib.hid (HT.out.kept hb7); replace HB := Lib.hid (HB.out.step hb7)
  clear hb7 HA HBB HC HD t0 t1 t2 x0 x1 x2 y0 y1 y2 z0 z1 z2
  go_wp2_with fail
  obtain ⟨t0, t1, t2⟩ := HT.out.cells
  replace t0 := cell_regrown t0; replace t1 := cell_regrown t1; replace t2 := cell_regrown t2
  refine wp_region_mixed 3 [(0, false), (1, false), (2, true)] (by kernel_rfl) (by kernel_rfl) ?_
  repeat (refine wpM_mild rfl (fun K hK => ?_); go_simp; first | (refine hK _ ?_; clear hK K) | (apply Exists.intro; refine ⟨fun _ => ?_, hK _ ?_⟩; (first | exact num_any _ _); clear hK K))
  clear t0 t1 t2
  refine wpM_eff rfl ?_
  intro w16 hb16 _
  unfold V.val
  go_wp2_with fail
  refine ⟨hb16.alloc hb16.size _, wpM_tail ?_⟩
  intro w17 hb17 hb15
  have hrow : RowAt w17 w16.heap.size 0 [V.num (-549755813888), vText] := rowAt_two _ _ _ _ 23 (hb17.blk_kept (blk_new _ _))
  replace HT := Lib.hid (HT.out.kept hb15); replace HB := Lib.hid (HB.out.step hb15)
  clear hb16 hb17 hb15
  simp only [List.drop_succ_cons, List.drop_zero]
  go_wp2_with fail
  refine (key_any [V.num (-549755813888), vText] _ 0 2 9 _ hrow (by simp) (by decide +kernel)).mono ?_
  rw [show (9 : Int).toNat = 9 from rfl, san6]
  rintro e w18 ⟨v18, rfl, hk, hb7⟩
  replace HB := Lib.hid (HB.out.step hb7)
  have HK := Lib.hid hk
  clear hb7 hk hrow HT
  go_wp2_with fail
  refine (sameInts_any v18 _ [1, 0, 2, 418262508548, 0] [1, 0, 2, 418262508548, 0] _ (HK.out.slice.kept (by go_grown)) (Or.inr ⟨_, 0, 5, rfl, by simp, ?_⟩) (by simp) (by simp)).mono ?_
  · rintro j u hu
    have hb := blk_new w18 (Obj.cells #[.int .i64 1, .int .i64 0, .int .i64 2, .int .i64 418262508548, .int .i64 0] 3)
    have e : (#[Value.int .i64 1, .int .i64 0, .int .i64 2, .int .i64 418262508548, .int .i64 0] : Array Value)[0 + j]? = some (.int .i64 u) := by
      rw [Nat.zero_add]
      have := congrArg (Option.map (Value.int .i64)) hu
      rw [← List.getElem?_map] at this
      simpa using this
    simp only [World.cell?, hb]
    simpa using e
  rintro e w19 ⟨rfl, hb7⟩
  replace hb7 : Below w18.heap.size w18 w19 := ((Below.refl _ w18).alloc (Nat.le_refl _) _).trans (hb7.mono (by simp))
  replace HB := Lib.hid (HB.out.step hb7)
  clear hb7
  rw [decide_eq_true (rfl : ([1, 0, 2, 418262508548, 0] : List Int) = _)]
  go_wp2_with fail
  refine (num_any _ _).mono ?_
  rintro e w20 ⟨rfl, hb7⟩
  replace HB := Lib.hid (HB.out.step hb7)
  clear hb7
  go_wp2_with fail
  refine (compare_any V.null (V.num (-5)) _).mono ?_
  rw [san7]
  rintro e w21 ⟨rfl, hb7⟩
  replace HB := Lib.hid (HB.out.step hb7)
  clear hb7
  go_wp2_with fail
  refine (compare_any ⟨2, 0, ⟨#[98]⟩⟩ ⟨2, 0, ⟨#[97, 98]⟩⟩ _).mono ?_
  rw [san8]
  rintro e w22 ⟨rfl, hb7⟩
  replace HB := Lib.hid (HB.out.step hb7)
  clear hb7
  go_wp2_with fail
  refine (print_text ⟨#[97, 39, 10]⟩ 0 _ (by decide)).mono ?_
  rw [san9]
  rintro e w23 ⟨rfl, hb7⟩
  replace HB := Lib.hid (HB.out.step hb7)
  clear hb7
  go_wp2_with fail
  refine (num_any _ _).mono ?_
  rintro e w24 ⟨rfl, hb7⟩
  replace HB := Lib.hid (HB.out.step hb7)
  clear hb7
  go_wp2_with fail
  refine (right_any (V.num 549755813887) (by simp [V.Wf, V.num]) _).mono ?_
  rw [san10]
  rintro e w25 ⟨rfl, hb7⟩
  replace HB := Lib.hid (HB.out.step hb7)
  clear hb7
  go_wp2_with fail
  refine (num_any _ _).mono ?_
  rintro e w26 ⟨rfl, hb7⟩
  replace HB := Lib.hid (HB.out.step hb7)
  clear hb7
  go_wp2_with fail
  refine (right_any (V.num 549755813888) (by simp [V.Wf, V.num]) _).mono ?_
  rw [san11]
  rintro e w27 ⟨rfl, hb7⟩
  replace HB := Lib.hid (HB.out.step hb7)
  clear hb7
  go_wp2_with fail
  go_returns
  exact ⟨rfl, HB.out⟩
end Go.Proofs.YtbpnnhdhpahbjaaDoor
