/-
  Walks: the package sql's Check at statements that have a kind and nothing else. The memory that was there is as it was.
-/
import Derived.Test.YtialgdnkkjmpbaaGreatDoorWv
import Derived.Test.YtialgdnkkjmpbaaGreatDoorKitB
namespace Go.Proofs.YtialgdnkkjmpbaaGreatDoor
open Go.RowKit Go.Sort

theorem stVals_one (k : Int) : (stVals k).all (·.oneCell') = true := by unfold stVals; simp [Value.oneCell']
theorem st_size (k : Int) : (Tryz.prog.info? 130).map (·.size) = some (stVals k).size := by
  have : (Tryz.prog.info? 130).map (·.size) = some 36 := by kernel_rfl
  rw [this]; rfl
theorem stVals_cells (k : Int) : Value.cells (.agg (stVals k)) = stVals k := rfl
theorem stVals_mode (k : Int) : (stVals k).setIfInBounds 35 (.int .i64 0) = stVals k := rfl
theorem st_facts {w W : World} {k : Int} (h : St w W [(w.heap.size + 1, stVals k, 130), (w.heap.size, stVals k, 130)]) :
    W.cell? ⟨w.heap.size, 0, none⟩ = some (.int .i64 k) ∧ W.cell? ⟨w.heap.size, 35, none⟩ = some (.int .i64 0) ∧ W.cell? ⟨w.heap.size + 1, 35, none⟩ = some (.int .i64 0) ∧ W.frozen? ⟨w.heap.size + 1, 35, none⟩ = false ∧ w.heap.size + 1 < W.heap.size ∧ w.heap.size < W.heap.size := by
  have h1 := h.blk 1 rfl
  have h0 := h.blk 0 rfl
  refine ⟨?_, ?_, ?_, ?_, (Array.getElem?_eq_some_iff.1 h0).1, (Array.getElem?_eq_some_iff.1 h1).1⟩
  · simp only [World.cell?, h1]; rfl
  · simp only [World.cell?, h1]; rfl
  · simp only [World.cell?, h0]; rfl
  · simp [World.frozen?, h0]
set_option maxRecDepth 100000 in
set_option maxHeartbeats 4000000 in
theorem sqlCheck_begin (w : World) : Calls Tryz.prog 78 #[.agg (stVals 10)] w fun e w' => e = .returned (.int .i64 0) ∧ Below w.heap.size w w' := by
  have C := Lib.hid (unused_zero 10)
  have SZ : Hid (St w ((w.alloc (.cells (stVals 10) 130)).alloc (.cells (stVals 0) 130)) [(w.heap.size + 1, stVals 0, 130), (w.heap.size, stVals 10, 130)]) := by
    show St _ _ _
    have := St.alloc (St.alloc (St.start w) (cs := stVals 10) (t := 130)) (cs := stVals 0) (t := 130)
    simpa only [World.size_alloc] using this
  go_enter Tryz.func78, Tryz.ntmps78
  go_wp2_with (first | (refine wpList_load_row rfl 130 (.tmp 1) rfl w.heap.size rfl 130 (stVals 10) (0, 0) _ (World.alloc_heap_new w _) Tryz.underlying130 rfl (st_size 10) ?_) | (refine wpList_store_row rfl 130 (.tmp 3) (.tmp 9) rfl (w.heap.size + 1) (stVals 10) rfl rfl 130 (stVals 0) (SZ.out.blk 0 rfl) (st_size 10) rfl (stVals_one 10) ?_; refine St.genL (St.row 0 (stVals 10) SZ.out rfl) ?_; intro W2 S2; obtain ⟨f1, f2, f3, f4, f5, f6⟩ := st_facts S2.out; clear SZ) | (refine wpList_load_rowW rfl 130 (.tmp 3) rfl (w.heap.size + 1) rfl 130 (stVals 10) (0, 0) _ ?_ Tryz.underlying130 rfl (st_size 10) ?_))
  · exact (Below.heap_alloc _ _ _ (by simpa using f5)).trans ((St.set 0 (o := 35) (v := .int .i64 0) S2.out rfl).blk 0 rfl)
  · refine Calls.mono (C.out _) ?_
    as_aux_lemma =>
      rintro e w3 ⟨rfl, hb3⟩
      have S3 := Lib.hid ((St.laid (St.set 0 (o := 35) (v := .int .i64 0) S2.out rfl)).kept hb3)
      clear hb3 f1 f2 f3 f4
      go_wp2_with fail
      go_returns
      exact ⟨rfl, S3.out.below⟩
set_option maxRecDepth 100000 in
set_option maxHeartbeats 4000000 in
theorem sqlCheck_commit (w : World) : Calls Tryz.prog 78 #[.agg (stVals 11)] w fun e w' => e = .returned (.int .i64 0) ∧ Below w.heap.size w w' := by
  have C := Lib.hid (unused_zero 11)
  have SZ : Hid (St w ((w.alloc (.cells (stVals 11) 130)).alloc (.cells (stVals 0) 130)) [(w.heap.size + 1, stVals 0, 130), (w.heap.size, stVals 11, 130)]) := by
    show St _ _ _
    have := St.alloc (St.alloc (St.start w) (cs := stVals 11) (t := 130)) (cs := stVals 0) (t := 130)
    simpa only [World.size_alloc] using this
  go_enter Tryz.func78, Tryz.ntmps78
  go_wp2_with (first | (refine wpList_load_row rfl 130 (.tmp 1) rfl w.heap.size rfl 130 (stVals 11) (0, 0) _ (World.alloc_heap_new w _) Tryz.underlying130 rfl (st_size 11) ?_) | (refine wpList_store_row rfl 130 (.tmp 3) (.tmp 9) rfl (w.heap.size + 1) (stVals 11) rfl rfl 130 (stVals 0) (SZ.out.blk 0 rfl) (st_size 11) rfl (stVals_one 11) ?_; refine St.genL (St.row 0 (stVals 11) SZ.out rfl) ?_; intro W2 S2; obtain ⟨f1, f2, f3, f4, f5, f6⟩ := st_facts S2.out; clear SZ) | (refine wpList_load_rowW rfl 130 (.tmp 3) rfl (w.heap.size + 1) rfl 130 (stVals 11) (0, 0) _ ?_ Tryz.underlying130 rfl (st_size 11) ?_))
  · exact (Below.heap_alloc _ _ _ (by simpa using f5)).trans (S2.out.blk 0 rfl)
  · refine Calls.mono (C.out _) ?_
    as_aux_lemma =>
      rintro e w3 ⟨rfl, hb3⟩
      have S3 := Lib.hid ((St.laid S2.out).kept hb3)
      clear hb3 f1 f2 f3 f4
      go_wp2_with fail
      go_returns
      exact ⟨rfl, S3.out.below⟩
end Go.Proofs.YtialgdnkkjmpbaaGreatDoor
