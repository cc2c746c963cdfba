/-
  Walks: a session of a client with the lines 'begin' and 'commit': over, settle. The memory that was there is as it was.
-/
import Derived.Test.YtialgdnkkjmpbaaGreatDoorWy
namespace Go.Proofs.YtialgdnkkjmpbaaGreatDoor
open Go.RowKit Go.Sort

section
variable {P : Program} {ops : Array Oper} {rest : List Oper} {o : Oper} {a : Act} {w : World} {Q : Exit → Act → World → Prop}
theorem run_loadVar_cells (w : World) (b off : Nat) (ty : TypeId) (cs : Array Value) (d : TypeDesc) (hc : CellsAt w b off cs.toList)
    (hu : P.underlying ty = some d) (hd : (match d with | .struct _ | .array _ _ => true | _ => false) = true) (hi : (P.info? ty).map (·.size) = some cs.size) :
    (loadVar ty ⟨b, off, none⟩).run P w = .ok (.agg cs) w := by
  have hl : (loadCells ⟨b, off, none⟩ cs.toList.length).run P w = .ok cs.toList.toArray w :=
    run_loadCells_list (P := P) w ⟨b, off, none⟩ cs.toList (fun j v hv => by rw [addr_add_mk]; exact hc j v hv)
  cases hq : P.info? ty with
  | none => simp [hq] at hi
  | some i =>
    have hs : i.size = cs.size := by simpa [hq] using hi
    have hagg : (isAgg ty).run P w = .ok true w := by
      unfold isAgg
      rw [Sem.run_bind, run_underlying hu w]
      cases d <;> simp_all
    simp only [Array.length_toList, Array.toArray_toList] at hl
    simp [loadVar, Sem.run_bind, hagg, sizeOf, typeInfo, hq, hs, hl]
theorem wpM_load_cellsT {M : Nat → Prop} {w0 wc : World} {l : List Oper} {tail : List Oper} {k : Nat} {r : List (Nat × Bool)} (hk : l[k]? = some o) (hw : Region.wanted o (yielded l.toArray a.tmps) = true) (ty : TypeId) (x : Operand) (ho : o.op = .load ty x)
    (b off : Nat) (hx : a.eval x = .pointer (some ⟨b, off, none⟩)) (cs : Array Value) (d : TypeDesc) (hc : ∀ p : TurnW M w0, CellsAt p.w b off cs.toList)
    (hu : P.underlying ty = some d) (hd : (match d with | .struct _ | .array _ _ => true | _ => false) = true) (hi : (P.info? ty).map (·.size) = some cs.size)
    (h : wpMT P l.toArray M w0 Q tail r (a.put o.dst (.agg cs)) wc) : wpMT P l.toArray M w0 Q tail ((k, false) :: r) a wc :=
  wpM_mildT hk (fun K hK => by
    rw [if_pos hw]
    refine ⟨.agg cs, ?_, hK _ h⟩
    rintro w ⟨p, rfl⟩
    unfold Oper.mildAt execOp
    simp only [ho, hx, Instr.loadAt, Instr.sureAddr, Sem.run_bind, Sem.run_pure, Result.andThen_ok, run_loadVar_cells p.w b off ty cs d (hc p) hu hd hi, Oper.mildUpon, and_self])
end
/-- A session at its first line, which is 'begin'. -/
def seVals (pv : Value) (t : Int) : Array Value := #[pv, .int .i64 t, .int .i64 0, .int .i64 0, .pointer none, .nilFunc, .slice none 0 0]
structure SeAt (w : World) (sb rb cap : Nat) (t : Int) : Prop where
  blk : w.heap[sb]? = some (.cells (seVals (.slice (some ⟨rb, 0, none⟩) 2 cap) t) 111 (0, 0))
  row : CellsAt w rb 0 (stVals 10).toList
theorem SeAt.kept {w w' : World} {sb rb cap : Nat} {t : Int} (h : SeAt w sb rb cap t) (hb : Below w.heap.size w w') : SeAt w' sb rb cap t := ⟨hb.blk_kept h.blk, h.row.kept hb⟩
theorem SeAt.cells {w : World} {sb rb cap : Nat} {t : Int} (h : SeAt w sb rb cap t) : w.cell? ⟨sb, 0, none⟩ = some (.slice (some ⟨rb, 0, none⟩) 2 cap) ∧ w.cell? ⟨sb, 2, none⟩ = some (.int .i64 0) ∧ w.cell? ⟨sb, 4, none⟩ = some (.pointer none) ∧ w.cell? ⟨sb, 5, none⟩ = some .nilFunc ∧ sb < w.heap.size :=
  ⟨by simp only [World.cell?, h.blk]; rfl, by simp only [World.cell?, h.blk]; rfl, by simp only [World.cell?, h.blk]; rfl, by simp only [World.cell?, h.blk]; rfl, (Array.getElem?_eq_some_iff.1 h.blk).1⟩
set_option maxRecDepth 100000 in
theorem over_no (sb rb cap : Nat) (t : Int) (w : World) (h : SeAt w sb rb cap t) : Calls Tryz.prog 79 #[.pointer (some ⟨sb, 0, none⟩)] w fun e w' => e = .returned (.bool false) ∧ Below w.heap.size w w' := by
  have y0 : ∀ p : TurnW (fun _ => False) w, p.w.cell? ⟨sb, 0, none⟩ = some (.slice (some ⟨rb, 0, none⟩) 2 cap) := fun p => turnW_cell' p h.cells.1
  have y1 : ∀ p : TurnW (fun _ => False) w, p.w.cell? ⟨sb, 2, none⟩ = some (.int .i64 0) := fun p => turnW_cell' p h.cells.2.1
  clear h
  go_enter Tryz.func79, Tryz.ntmps79
  go_wp2_with fail
  refine wp_region_mixedT (fun _ => False) 10 [(0, false), (1, false), (2, false), (3, false), (4, false), (5, false), (6, false), (7, false), (8, false), (9, false)] (by kernel_rfl) (by kernel_rfl) ?_
  repeat (refine wpM_mildT rfl (fun K hK => ?_); go_simp; first | (refine hK _ ?_; clear hK K) | (apply Exists.intro; refine ⟨fun _ => ?_, hK _ ?_⟩; (fail); clear hK K))
  refine wpM_tailT ?_
  intro w2 hb2 _
  have HB := Lib.hid hb2
  clear hb2 y0 y1
  simp only [List.drop_succ_cons, List.drop_zero]
  go_wp2_with fail
  go_returns
  exact ⟨rfl, HB.out⟩
set_option maxRecDepth 100000 in
set_option maxHeartbeats 2000000 in
theorem settle_begin (sb rb cap : Nat) (t : Int) (w : World) (h : SeAt w sb rb cap t) : Calls Tryz.prog 57 #[.pointer (some ⟨sb, 0, none⟩)] w fun e w' => e = .returned (.tuple #[]) ∧ Below w.heap.size w w' := by
  have HS := Lib.hid h
  have C := Lib.hid (over_no sb rb cap t w h)
  have S0 : Hid (St w w []) := St.start w
  have hq1 : ∀ w, (binOp .eql 1 .nilFunc .nilFunc).run Tryz.prog w = .ok (.bool true) w := fun _ => by kernel_rfl
  clear h
  go_enter Tryz.func57, Tryz.ntmps57
  go_wp2_with fail
  refine wp_loop_rounds 1 ?_
  rw [rounds_succ]
  go_wp2_with fail
  refine Calls.mono C.out ?_
  rintro e w1 ⟨rfl, hb1⟩
  have HS1 := Lib.hid (HS.out.kept hb1)
  obtain ⟨f0, f2, f4, f5, fs⟩ := HS1.out.cells
  have y0 : ∀ p : TurnW (fun _ => False) w1, p.w.cell? ⟨sb, 0, none⟩ = some (.slice (some ⟨rb, 0, none⟩) 2 cap) := fun p => turnW_cell' p HS1.out.cells.1
  have y1 : ∀ p : TurnW (fun _ => False) w1, p.w.cell? ⟨sb, 2, none⟩ = some (.int .i64 0) := fun p => turnW_cell' p HS1.out.cells.2.1
  refine St.call (S0.out) hb1 ?_
  intro S1
  clear hb1
  try (simp only [List.set_cons_zero, List.set_cons_succ, List.setIfInBounds_toArray, World.size_alloc] at S1)
  go_wp2_with fail
  refine wp_region_mixedT (fun _ => False) 11 [(0, false), (1, false), (2, false), (3, false), (4, false), (5, false), (6, false), (7, false), (8, false), (9, false), (10, true)] (by kernel_rfl) (by kernel_rfl) ?_
  repeat (refine wpM_mildT rfl (fun K hK => ?_); go_simp; (refine hK _ ?_; clear hK K))
  refine wpM_load_cellsT rfl rfl 130 (.tmp 41) rfl rb 0 rfl (stVals 10) _ (fun p => HS1.out.row.kept p.h.below) Tryz.underlying130 rfl (st_size 10) ?_
  refine wpM_effT rfl ?_
  intro w3 hb3 ht3
  have S3 := Lib.hid (St.alloc (S1.out.kept hb3) (cs := stVals 0) (t := 130))
  have HS3 := Lib.hid (HS1.out.kept hb3)
  clear y0 y1 f0 f2 f4 f5 fs
  go_wp2_with fail
  refine ⟨ht3.step ((Below.refl _ _).alloc (Nat.le_refl _) _), wpM_tailT ?_⟩
  intro w4 hb4 _
  have S4 := Lib.hid (S3.out.kept hb4)
  clear hb3 ht3 hb4 HS3 S3 HS1 C
  simp only [List.drop_succ_cons, List.drop_zero]
  refine wpList_store_row rfl 130 (.tmp 2) (.tmp 42) rfl w3.heap.size (stVals 10) rfl rfl 130 (stVals 0) (S4.out.blk 0 rfl) (st_size 10) rfl (stVals_one 10) ?_
  refine St.genL (St.row 0 (stVals 10) S4.out rfl) ?_
  intro w5 S5
  simp only [List.set_cons_zero] at S5
  have h5 := S5.out.blk 0 rfl
  have g0 : w5.cell? ⟨w3.heap.size, 0, none⟩ = some (.int .i64 10) := by simp only [World.cell?, h5]; rfl
  obtain ⟨f0, f2, f4, f5, fs⟩ := (HS.out.kept S5.out.below).cells
  clear h5 S4
  go_wp2_with fail
  refine bodyPost_ret (results_none rfl _ _ _) rfl ?_
  exact ⟨rfl, S5.out.below⟩
end Go.Proofs.YtialgdnkkjmpbaaGreatDoor
