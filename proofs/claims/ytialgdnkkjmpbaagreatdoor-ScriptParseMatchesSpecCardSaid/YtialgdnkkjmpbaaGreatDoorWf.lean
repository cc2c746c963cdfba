/-
  Walks: slices.Repeat at one act. The memory that was there is as it was.
-/
import Derived.Test.YtialgdnkkjmpbaaGreatDoorWe
import Derived.Laws.MakeOwn
namespace Go.Proofs.YtialgdnkkjmpbaaGreatDoor
open Go.RowKit Go.Sort

theorem info67 : (Tryz.prog.info? 67).map (fun i => (i.zero, i.size, i.bytes)) = some (some (.agg #[.int .i64 0, .int .i64 0, .int .i64 0, .int .i64 0]), 4, 32) := by kernel_rfl
def acCells (a : Ac) : List Value := [.int .i64 a.k, .int .i64 a.a, .int .i64 a.b, .int .i64 a.c]
def zeros (m : Nat) : Array Value := madeCells #[.int .i64 0, .int .i64 0, .int .i64 0, .int .i64 0] (m * 4)
theorem make_acts (m : Nat) (hm : m ≤ 2000) (w : World) : (Instr.makeSlice 26 (.int .i64 (m : Int)) (.int .i64 (m : Int))).run Tryz.prog w = .ok (.slice (some ⟨w.heap.size, 0, none⟩) m m) (w.alloc (.cells (zeros m) 67)) := by
  obtain ⟨i, hi, hz0, hz1, hz2⟩ := info_parts info67
  have := run_make (P := Tryz.prog) w 26 67 i _ Tryz.underlying26 hi hz0 .i64 .i64 (m : Int) (m : Int) (by omega) (by omega) (by rw [hz2]; omega) (by omega)
  rw [hz1] at this
  exact this
/-- The row while it is being filled: its first k acts are a. -/
def Filled (a : Ac) (m k g : Nat) (w : World) : Prop := ∃ cur : Array Value, w.heap[g]? = some (.cells cur 67 (0, 0)) ∧ cur.size = m * 4 ∧ cur.toList.take (k * 4) = acVals (List.replicate k a)
theorem acVals_rep (a : Ac) (k : Nat) : (acVals (List.replicate k a)).length = k * 4 := by
  induction k with
  | zero => rfl
  | succ k ih => rw [List.replicate_succ, acVals, List.flatMap_cons, List.length_append]; unfold acVals at ih; rw [ih]; simp; omega
theorem acVals_app (a : Ac) (i j : Nat) : acVals (List.replicate i a) ++ acVals (List.replicate j a) = acVals (List.replicate (i + j) a) := by
  unfold acVals; rw [← List.flatMap_append, List.replicate_append_replicate]
theorem acVals_one (a : Ac) (k : Nat) : ∀ u ∈ acVals (List.replicate k a), u.oneCell' = true := by
  intro u hu
  unfold acVals at hu
  obtain ⟨b, _, hu⟩ := List.mem_flatMap.1 hu
  simp only [List.mem_cons, List.not_mem_nil, or_false] at hu
  rcases hu with rfl | rfl | rfl | rfl <;> rfl
theorem acVals_take (a : Ac) {k q : Nat} (h : q ≤ k) : (acVals (List.replicate k a)).take (q * 4) = acVals (List.replicate q a) := by
  obtain ⟨r, rfl⟩ : ∃ r, k = q + r := ⟨k - q, by omega⟩
  rw [← acVals_app, ← acVals_rep a q]; simp
/-- Filling on: q acts laid behind the first k. -/
theorem Filled.more {a : Ac} {m k q : Nat} {cur : Array Value} (hs : cur.size = m * 4) (ht : cur.toList.take (k * 4) = acVals (List.replicate k a)) (hq : k + q ≤ m) :
    let row := (cur.toList.take (k * 4) ++ (acVals (List.replicate q a) ++ cur.toList.drop (k * 4 + (acVals (List.replicate q a)).length))).toArray
    row.size = m * 4 ∧ row.toList.take ((k + q) * 4) = acVals (List.replicate (k + q) a) := by
  intro row
  have hl := acVals_rep a q
  have hk := acVals_rep a k
  refine ⟨?_, ?_⟩
  · simp only [row, List.size_toArray, List.length_append, List.length_drop, ht, hk, hl, Array.length_toList]; omega
  · simp only [row]
    rw [ht, ← List.append_assoc, acVals_app, show (k + q) * 4 = (acVals (List.replicate (k + q) a)).length from (acVals_rep a (k + q)).symm]
    simp
theorem Filled.first {a : Ac} {m g : Nat} {z : Array Value} {W : World} (hz : z.size = m * 4) (h1 : 1 ≤ m) (hrow : W.heap[g]? = some (.cells (acCells a ++ z.toList.drop (acCells a).length).toArray 67 (0, 0))) : Filled a m 1 g W := by
  refine ⟨_, hrow, ?_, ?_⟩
  · simp [acCells, hz]; omega
  · simp [acVals, acCells]
set_option maxRecDepth 100000 in
set_option maxHeartbeats 1000000 in
theorem repeat_any (a : Ac) (m g : Nat) (w : World) (h1 : 1 ≤ m) (h2 : m ≤ 2000) (hg : w.heap[g]? = some (.cells (acCells a).toArray 67 (0, 0))) :
    Calls Tryz.prog 143 #[.slice (some ⟨g, 0, none⟩) 1 1, .int .i64 (m : Int)] w fun e w' => ∃ v, e = .returned v ∧ w'.ownsRow w.heap.size 67 4 v m (acVals (List.replicate m a)) ∧ Below w.heap.size w w' := by
  have M : Hid (∀ w, Calls Tryz.prog 199 #[.int .u64 1, .int .u64 (m : Int)] w fun e w' => e = .returned (.tuple #[.int .u64 0, .int .u64 (m : Int)]) ∧ w = w') := fun w => (Tryz.bits_Mul 1 m (by omega) (by omega) w).mono (by
    rintro e w' ⟨rfl, rfl⟩
    rw [show 1 * m / 18446744073709551616 = 0 by omega, show 1 * m % 18446744073709551616 = m by omega]
    exact ⟨rfl, rfl⟩)
  have hlt : g < w.heap.size := (Array.getElem?_eq_some_iff.1 hg).1
  have HG : Hid ((w.alloc (.cells (zeros m) 67)).heap[g]? = some (.cells (acCells a).toArray 67 (0, 0))) := ((Below.refl w.heap.size w).alloc (Nat.le_refl _) _).blk_kept hg
  clear hg
  have mk := fun w => make_acts m h2 w
  have hz : (zeros m).size = m * 4 := by simp [zeros, size_madeCells]
  have HZ := Lib.hid hz
  clear hz
  have s67 : (Tryz.prog.info? 67).map (·.size) = some 4 := by kernel_rfl
  go_enter Tryz.func143, Tryz.ntmps143
  go_wp2_with fail
  refine Calls.mono (M.out _) ?_
  rintro e w1 ⟨rfl, rfl⟩
  go_wp2_with (with_reducible refine wpList_copy_rowk rfl (.tmp 31) (.tmp 32) 26 26 rfl 67 4 Tryz.underlying26 s67 w.heap.size 0 m m ⟨g, 0, none⟩ 1 1 1 rfl rfl (zeros m) 67 (blk_new _ _) (acCells a) ?_ ?_ ?_ ?_ ?_ ?_)
  · simp [Nat.min_def]; omega
  · rfl
  · intro j v hv
    rw [addr_add_mk]
    simp only [World.cell?, HG.out, Nat.zero_add]
    simpa using hv
  · rw [HZ.out]; simp [acCells]; omega
  · simp [acCells, Value.oneCell']
  intro W hrow hgrow
  have HF : Hid (Filled a m 1 w.heap.size W) := Filled.first HZ.out h1 hrow.out
  have HB : Hid (Below w.heap.size w W) := Below.grown ((Below.refl w.heap.size w).alloc (Nat.le_refl _) _) hgrow (by simp) (fun k hk => by cases hk; exact Nat.le_refl _)
  clear hrow hgrow HZ mk M HG
  go_wp2_with fail
  go_loopw [8] (fun i wr => ∃ k : Nat, 1 ≤ k ∧ k ≤ m ∧ i = .int .i64 k ∧ Hid (Filled a m k w.heap.size wr) ∧ Hid (Below w.heap.size w wr)) (fun i _ => m - (intOf i).toNat)
  case atStart => exact ⟨1, by omega, by omega, rfl, HF.out, HB.out⟩
  case round =>
    obtain ⟨k, hk1, hk, rfl, HF, HB⟩ := hrel
    by_cases hlt2 : k < m
    · obtain ⟨q, hq⟩ : ∃ q, q = Nat.min k (m - k) := ⟨_, rfl⟩
      have hqk : q ≤ k ∧ k + q ≤ m ∧ 1 ≤ q := by rw [hq, show Nat.min k (m - k) = min k (m - k) from rfl, Nat.min_def]; split <;> omega
      have HQ := Lib.hid hq
      clear hq
      obtain ⟨hq1, hq2, hq3⟩ := hqk
      have hx1 : IntKind.i64.wrap ((k : Int) + (q : Int)) = (k : Int) + (q : Int) := IntWalk.i64_in _ (by omega)
      have hmk : ¬ m = k := by omega
      go_wp2_with fail
      refine wp_region_mixedT (fun b => b = w.heap.size) 10 [(0, false), (1, false), (2, false), (3, false), (4, false), (5, false), (6, false), (7, true), (8, false), (9, false)] (by kernel_rfl) (by kernel_rfl) ?_
      repeat (refine wpM_mildT rfl (fun K hK => ?_); go_simp; first | (refine hK _ ?_; clear hK K) | (apply Exists.intro; refine ⟨fun _ => ?_, hK _ ?_⟩; (fail); clear hK K))
      refine wpM_effT rfl ?_
      intro w2 hb2 ht2
      have HF2 : Hid (Filled a m k w.heap.size w2) := by
        obtain ⟨cur, hb, hs, ht⟩ := HF.out
        exact ⟨cur, hb2.blk_kept hb, hs, ht⟩
      obtain ⟨cur, hb, hs, ht⟩ := HF2.out
      have HBk := Lib.hid hb
      have HS := Lib.hid hs
      have HT := Lib.hid ht
      clear hb hs ht
      have h4 : cur.size = m * 4 := HS.out
      have h5 := Lib.hid h4
      clear h4
      refine wpList_copy_rowk rfl (.tmp 41) (.tmp 44) 26 26 rfl 67 4 Tryz.underlying26 s67 w.heap.size (k * 4) (m - k) (m - k) ⟨w.heap.size, 0, none⟩ k m q rfl rfl cur 67 HBk.out (acVals (List.replicate q a)) ?_ ?_ ?_ ?_ ?_ ?_
      · exact HQ.out
      · exact acVals_rep a q
      · intro j v hv
        rw [addr_add_mk]
        simp only [World.cell?, HBk.out, Nat.zero_add]
        have hq4 : acVals (List.replicate q a) = cur.toList.take (q * 4) := by
          rw [← acVals_take a hq1, ← HT.out, List.take_take, Nat.min_eq_left (by omega)]
        rw [hq4, List.getElem?_take] at hv
        split at hv
        · simpa using hv
        · cases hv
      · rw [h5.out, acVals_rep]; omega
      · exact acVals_one a q
      intro w3 hrow hgrow
      have HF3 : Hid (Filled a m (k + q) w.heap.size w3) := by
        have := Filled.more (a := a) (m := m) (k := k) (q := q) HS.out HT.out hq2
        exact ⟨_, hrow.out, this.1, this.2⟩
      have HB3 : Hid (Below w.heap.size w w3) := Below.grown (HB.out.step hb2) hgrow (HB.out.step hb2).size (fun k hk => by cases hk; exact Nat.le_refl _)
      have ht3 : Turn (fun b => b = w.heap.size) wr w3 := ht2.trans (Turn.of_grown hgrow) (fun i _ hi => by simpa using hi.symm)
      clear hrow hgrow hb2 ht2
      go_wp2_with fail
      refine ⟨ht3, ?_⟩
      repeat (refine wpM_mildT rfl (fun K hK => ?_); go_simp; first | (refine hK _ ?_; clear hK K) | (apply Exists.intro; refine ⟨fun _ => ?_, hK _ ?_⟩; (fail); clear hK K))
      refine wpM_endT ?_
      intro w4 hb4 _
      have HF4 : Hid (Filled a m (k + q) w.heap.size w4) := by
        obtain ⟨cur, hb, hs, ht⟩ := HF3.out
        exact ⟨cur, hb4.blk_kept hb, hs, ht⟩
      have HB4 := Lib.hid (HB3.out.step hb4)
      clear hb4 ht3
      go_wp2_with fail
      go_roundw
      case rel => exact ⟨k + q, by omega, by omega, by go_num, HF4.out, HB4.out⟩
      case measure => simp [intOf]; omega
    · obtain rfl : k = m := by omega
      go_wp2_with fail
      go_returns
      obtain ⟨cur, hb, hs, ht⟩ := HF.out
      refine ⟨_, rfl, ⟨acVals_rep a k, .inr ⟨w.heap.size, k, cur, rfl, Nat.le_refl _, hb, Nat.le_refl _, by unfold maxLen; omega, hs, ht⟩⟩, HB.out⟩
end Go.Proofs.YtialgdnkkjmpbaaGreatDoor
