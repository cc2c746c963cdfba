/-
  Walks: the statement of the package sql's parser at 'begin' and 'commit'. The memory that was there is as it was, but for the parser's own cell.
-/
import Derived.Test.YtialgdnkkjmpbaaGreatDoorWw
namespace Go.Proofs.YtialgdnkkjmpbaaGreatDoor
open Go.RowKit Go.Sort

/-- What the statement leaves. -/
def StmtRes (k : Int) (pb : Nat) (w : World) (e : Ending) (w' : World) : Prop := e = .returned (.agg (stVals k)) ∧ PsEnd w' pb ∧ Turn (fun i => i = pb) w w'
theorem sm_facts {pb : Nat} {w W : World} (h : St w W [(w.heap.size + 1 + 1, stVals 0, 130), (w.heap.size + 1, stVals 0, 130), (w.heap.size, #[.pointer (some ⟨pb, 0, none⟩)], 149)]) : W.cell? ⟨w.heap.size, 0, none⟩ = some (.pointer (some ⟨pb, 0, none⟩)) ∧ w.heap.size < W.heap.size := by
  have h1 := h.blk 2 rfl
  exact ⟨by simp only [World.cell?, h1]; rfl, (Array.getElem?_eq_some_iff.1 h1).1⟩
theorem smM_facts {pb : Nat} {k : Int} {w W : World} {M : Nat → Prop} (h : StM M w W [(w.heap.size + 1 + 1, stVals k, 130), (w.heap.size + 1, stVals 0, 130), (w.heap.size, #[.pointer (some ⟨pb, 0, none⟩)], 149)]) : W.cell? ⟨w.heap.size, 0, none⟩ = some (.pointer (some ⟨pb, 0, none⟩)) ∧ w.heap.size < W.heap.size ∧ W.cell? ⟨w.heap.size + 1 + 1, 0, none⟩ = some (.int .i64 k) ∧ W.frozen? ⟨w.heap.size + 1 + 1, 0, none⟩ = false ∧ w.heap.size + 1 + 1 < W.heap.size ∧ w.heap.size + 1 < W.heap.size := by
  have h2 := h.blk 2 rfl
  have h1 := h.blk 1 rfl
  have h0 := h.blk 0 rfl
  exact ⟨by simp only [World.cell?, h2]; rfl, (Array.getElem?_eq_some_iff.1 h2).1, by simp only [World.cell?, h0]; rfl, by simp [World.frozen?, h0], (Array.getElem?_eq_some_iff.1 h0).1, (Array.getElem?_eq_some_iff.1 h1).1⟩
theorem PsEnd.row {w : World} {pb b : Nat} {vs : Array Value} (h : PsEnd w pb) (hb : pb ≠ b) : PsEnd (w.setRow b vs) pb := by
  obtain ⟨a, cap, n, h⟩ := h
  exact ⟨a, cap, n, (heap_setRow_other hb).trans h⟩
set_option maxRecDepth 100000 in
set_option maxHeartbeats 8000000 in
theorem statement_begin (pb : Nat) (w : World) (h : PsAt [98, 101, 103, 105, 110] w pb) : Calls Tryz.prog 76 #[.pointer (some ⟨pb, 0, none⟩)] w (StmtRes 10 pb w) := by
  have HP := Lib.hid h
  have hpb : pb < w.heap.size := by
    obtain ⟨tb, oo, cap, n, h1, _⟩ := h.ex
    exact (Array.getElem?_eq_some_iff.1 h1).1
  have SZ : Hid (St w (((w.alloc (.cells #[.pointer (some ⟨pb, 0, none⟩)] 149)).alloc (.cells (stVals 0) 130)).alloc (.cells (stVals 0) 130)) [(w.heap.size + 1 + 1, stVals 0, 130), (w.heap.size + 1, stVals 0, 130), (w.heap.size, #[.pointer (some ⟨pb, 0, none⟩)], 149)]) := by
    show St _ _ _
    have := St.alloc (St.alloc (St.alloc (St.start w) (cs := #[.pointer (some ⟨pb, 0, none⟩)]) (t := 149)) (cs := stVals 0) (t := 130)) (cs := stVals 0) (t := 130)
    simpa only [World.size_alloc] using this
  have N := Lib.hid (fun (s : Bytes) (hne : [98, 101, 103, 105, 110] ≠ s) (nb : Nat) (w : World) h hs => takes_no [98, 101, 103, 105, 110] s hne pb nb 1 w h hs)
  clear h
  go_enter Tryz.func76, Tryz.ntmps76
  go_wp2_with (first | (refine wpList_build_row rfl 130 #[] rfl (stVals 0) (by kernel_rfl) ?_) | (refine wpList_store_row rfl 130 (.tmp 3) (.tmp 4) rfl (w.heap.size + 1 + 1) (stVals 0) rfl rfl 130 (stVals 0) (SZ.out.blk 0 rfl) (st_size 0) rfl (stVals_one 0) ?_; refine St.genL (St.row 0 (stVals 0) SZ.out rfl) ?_; intro w0 S0; obtain ⟨f1, f2⟩ := sm_facts S0.out; clear SZ))
  have T1 := Lib.hid (St.alloc S0.out (cs := #[.string ⟨([99, 114, 101, 97, 116, 101] : Bytes).toArray⟩]) (t := 9))
  refine Calls.mono (N.out [99, 114, 101, 97, 116, 101] (by decide) _ _ (HP.out.kept T1.out.below) (T1.out.blk 0 rfl)) ?_
  rintro e w1 ⟨rfl, hb1⟩
  have S1 := Lib.hid (St.tail (T1.out.kept hb1))
  clear hb1 T1 S0 f1 f2
  obtain ⟨f1, f2⟩ := sm_facts S1.out
  have T2 := Lib.hid (St.alloc S1.out (cs := #[.string ⟨([100, 114, 111, 112] : Bytes).toArray⟩]) (t := 9))
  go_wp2_with fail
  refine Calls.mono (N.out [100, 114, 111, 112] (by decide) _ _ (HP.out.kept T2.out.below) (T2.out.blk 0 rfl)) ?_
  rintro e w2 ⟨rfl, hb2⟩
  have S2 := Lib.hid (St.tail (T2.out.kept hb2))
  clear hb2 T2 S1 f1 f2
  obtain ⟨f1, f2⟩ := sm_facts S2.out
  have T3 := Lib.hid (St.alloc S2.out (cs := #[.string ⟨([97, 100, 100] : Bytes).toArray⟩]) (t := 9))
  go_wp2_with fail
  refine Calls.mono (N.out [97, 100, 100] (by decide) _ _ (HP.out.kept T3.out.below) (T3.out.blk 0 rfl)) ?_
  rintro e w3 ⟨rfl, hb3⟩
  have S3 := Lib.hid (St.tail (T3.out.kept hb3))
  clear hb3 T3 S2 f1 f2
  obtain ⟨f1, f2⟩ := sm_facts S3.out
  have T4 := Lib.hid (St.alloc S3.out (cs := #[.string ⟨([105, 110, 115, 101, 114, 116] : Bytes).toArray⟩]) (t := 9))
  go_wp2_with fail
  refine Calls.mono (N.out [105, 110, 115, 101, 114, 116] (by decide) _ _ (HP.out.kept T4.out.below) (T4.out.blk 0 rfl)) ?_
  rintro e w4 ⟨rfl, hb4⟩
  have S4 := Lib.hid (St.tail (T4.out.kept hb4))
  clear hb4 T4 S3 f1 f2
  obtain ⟨f1, f2⟩ := sm_facts S4.out
  have T5 := Lib.hid (St.alloc S4.out (cs := #[.string ⟨([117, 112, 100, 97, 116, 101] : Bytes).toArray⟩]) (t := 9))
  go_wp2_with fail
  refine Calls.mono (N.out [117, 112, 100, 97, 116, 101] (by decide) _ _ (HP.out.kept T5.out.below) (T5.out.blk 0 rfl)) ?_
  rintro e w5 ⟨rfl, hb5⟩
  have S5 := Lib.hid (St.tail (T5.out.kept hb5))
  clear hb5 T5 S4 f1 f2
  obtain ⟨f1, f2⟩ := sm_facts S5.out
  have T6 := Lib.hid (St.alloc S5.out (cs := #[.string ⟨([100, 101, 108, 101, 116, 101] : Bytes).toArray⟩]) (t := 9))
  go_wp2_with fail
  refine Calls.mono (N.out [100, 101, 108, 101, 116, 101] (by decide) _ _ (HP.out.kept T6.out.below) (T6.out.blk 0 rfl)) ?_
  rintro e w6 ⟨rfl, hb6⟩
  have S6 := Lib.hid (St.tail (T6.out.kept hb6))
  clear hb6 T6 S5 f1 f2
  obtain ⟨f1, f2⟩ := sm_facts S6.out
  have T7 := Lib.hid (St.alloc S6.out (cs := #[.string ⟨([115, 101, 108, 101, 99, 116] : Bytes).toArray⟩]) (t := 9))
  go_wp2_with fail
  refine Calls.mono (N.out [115, 101, 108, 101, 99, 116] (by decide) _ _ (HP.out.kept T7.out.below) (T7.out.blk 0 rfl)) ?_
  rintro e w7 ⟨rfl, hb7⟩
  have S7 := Lib.hid (St.tail (T7.out.kept hb7))
  clear hb7 T7 S6 f1 f2
  obtain ⟨f1, f2⟩ := sm_facts S7.out
  have T := Lib.hid (St.alloc S7.out (cs := #[.string ⟨([98, 101, 103, 105, 110] : Bytes).toArray⟩]) (t := 9))
  go_wp2_with fail
  refine Calls.mono (takes_yes [98, 101, 103, 105, 110] pb _ 1 _ (HP.out.kept T.out.below) (T.out.blk 0 rfl)) ?_
  rintro e wy ⟨rfl, hend, hty⟩
  have SY : Hid (StM (fun i => i = pb) w wy [(w.heap.size + 1 + 1, stVals 0, 130), (w.heap.size + 1, stVals 0, 130), (w.heap.size, #[.pointer (some ⟨pb, 0, none⟩)], 149)]) := StM.turned (St.toM _ (St.tail T.out)) hty (fun i _ h => h) (by simp; omega)
  have HEND := Lib.hid hend
  clear hend hty T f1 f2 S7 N HP
  obtain ⟨f1, f2, f3, f4, f5, f6⟩ := smM_facts SY.out
  have SK0 : Hid (StM (fun i => i = pb) w (wy.setCell ⟨w.heap.size + 1 + 1, 0, none⟩ (.int .i64 10)) [(w.heap.size + 1 + 1, stVals 10, 130), (w.heap.size + 1, stVals 0, 130), (w.heap.size, #[.pointer (some ⟨pb, 0, none⟩)], 149)]) := StM.set 0 (o := 0) (v := .int .i64 10) SY.out rfl
  have HEK0 : Hid (PsEnd (wy.setCell ⟨w.heap.size + 1 + 1, 0, none⟩ (.int .i64 10)) pb) := by
    obtain ⟨a, cap, n, hb⟩ := HEND.out
    exact ⟨a, cap, n, (Below.heap_setCell _ _ _ _ (by show pb ≠ w.heap.size + 1 + 1; omega)).trans hb⟩
  have SK1 := Lib.hid (StM.laid SK0.out (o := .cells #[.string ⟨([115, 101, 114, 105, 97, 108, 105, 122, 97, 98, 108, 101] : Bytes).toArray⟩] 9))
  have HEK1 := Lib.hid (HEK0.out.kept ((Below.refl _ _).alloc (Nat.le_refl _) (.cells #[.string ⟨([115, 101, 114, 105, 97, 108, 105, 122, 97, 98, 108, 101] : Bytes).toArray⟩] 9)))
  go_wp2_with fail
  refine Calls.mono (takes_end _ pb _ HEK1.out) ?_
  rintro e wz ⟨rfl, rfl⟩
  have SK2 := Lib.hid (StM.laid SK1.out (o := .cells #[.string ⟨([114, 101, 97, 100] : Bytes).toArray⟩] 9))
  have HEK2 := Lib.hid (HEK1.out.kept ((Below.refl _ _).alloc (Nat.le_refl _) (.cells #[.string ⟨([114, 101, 97, 100] : Bytes).toArray⟩] 9)))
  go_wp2_with fail
  refine Calls.mono (takes_end _ pb _ HEK2.out) ?_
  rintro e wz ⟨rfl, rfl⟩
  go_wp2_with (first | (refine wpList_load_row rfl 130 (.tmp 3) rfl (w.heap.size + 1 + 1) rfl 130 (stVals 10) (0, 0) _ (SK2.out.blk 0 rfl) Tryz.underlying130 rfl (st_size 10) ?_) | (refine wpList_store_row rfl 130 (.tmp 2) (.tmp 171) rfl (w.heap.size + 1) (stVals 10) rfl rfl 130 (stVals 0) (SK2.out.blk 1 rfl) (st_size 10) rfl (stVals_one 10) ?_))
  have SF := StM.row 1 (stVals 10) SK2.out rfl
  exact bodyPost_ret (v := .agg (stVals 10)) (results_cell_row rfl _ _ (w.heap.size + 1) 130 (stVals 10) (0, 0) _ rfl (SF.blk 1 rfl) Tryz.underlying130 rfl (st_size 10)) rfl ⟨rfl, HEK2.out.row (by omega), SF.turn⟩
set_option maxRecDepth 100000 in
set_option maxHeartbeats 8000000 in
theorem statement_commit (pb : Nat) (w : World) (h : PsAt [99, 111, 109, 109, 105, 116] w pb) : Calls Tryz.prog 76 #[.pointer (some ⟨pb, 0, none⟩)] w (StmtRes 11 pb w) := by
  have HP := Lib.hid h
  have hpb : pb < w.heap.size := by
    obtain ⟨tb, oo, cap, n, h1, _⟩ := h.ex
    exact (Array.getElem?_eq_some_iff.1 h1).1
  have SZ : Hid (St w (((w.alloc (.cells #[.pointer (some ⟨pb, 0, none⟩)] 149)).alloc (.cells (stVals 0) 130)).alloc (.cells (stVals 0) 130)) [(w.heap.size + 1 + 1, stVals 0, 130), (w.heap.size + 1, stVals 0, 130), (w.heap.size, #[.pointer (some ⟨pb, 0, none⟩)], 149)]) := by
    show St _ _ _
    have := St.alloc (St.alloc (St.alloc (St.start w) (cs := #[.pointer (some ⟨pb, 0, none⟩)]) (t := 149)) (cs := stVals 0) (t := 130)) (cs := stVals 0) (t := 130)
    simpa only [World.size_alloc] using this
  have N := Lib.hid (fun (s : Bytes) (hne : [99, 111, 109, 109, 105, 116] ≠ s) (nb : Nat) (w : World) h hs => takes_no [99, 111, 109, 109, 105, 116] s hne pb nb 1 w h hs)
  clear h
  go_enter Tryz.func76, Tryz.ntmps76
  go_wp2_with (first | (refine wpList_build_row rfl 130 #[] rfl (stVals 0) (by kernel_rfl) ?_) | (refine wpList_store_row rfl 130 (.tmp 3) (.tmp 4) rfl (w.heap.size + 1 + 1) (stVals 0) rfl rfl 130 (stVals 0) (SZ.out.blk 0 rfl) (st_size 0) rfl (stVals_one 0) ?_; refine St.genL (St.row 0 (stVals 0) SZ.out rfl) ?_; intro w0 S0; obtain ⟨f1, f2⟩ := sm_facts S0.out; clear SZ))
  have T1 := Lib.hid (St.alloc S0.out (cs := #[.string ⟨([99, 114, 101, 97, 116, 101] : Bytes).toArray⟩]) (t := 9))
  refine Calls.mono (N.out [99, 114, 101, 97, 116, 101] (by decide) _ _ (HP.out.kept T1.out.below) (T1.out.blk 0 rfl)) ?_
  rintro e w1 ⟨rfl, hb1⟩
  have S1 := Lib.hid (St.tail (T1.out.kept hb1))
  clear hb1 T1 S0 f1 f2
  obtain ⟨f1, f2⟩ := sm_facts S1.out
  have T2 := Lib.hid (St.alloc S1.out (cs := #[.string ⟨([100, 114, 111, 112] : Bytes).toArray⟩]) (t := 9))
  go_wp2_with fail
  refine Calls.mono (N.out [100, 114, 111, 112] (by decide) _ _ (HP.out.kept T2.out.below) (T2.out.blk 0 rfl)) ?_
  rintro e w2 ⟨rfl, hb2⟩
  have S2 := Lib.hid (St.tail (T2.out.kept hb2))
  clear hb2 T2 S1 f1 f2
  obtain ⟨f1, f2⟩ := sm_facts S2.out
  have T3 := Lib.hid (St.alloc S2.out (cs := #[.string ⟨([97, 100, 100] : Bytes).toArray⟩]) (t := 9))
  go_wp2_with fail
  refine Calls.mono (N.out [97, 100, 100] (by decide) _ _ (HP.out.kept T3.out.below) (T3.out.blk 0 rfl)) ?_
  rintro e w3 ⟨rfl, hb3⟩
  have S3 := Lib.hid (St.tail (T3.out.kept hb3))
  clear hb3 T3 S2 f1 f2
  obtain ⟨f1, f2⟩ := sm_facts S3.out
  have T4 := Lib.hid (St.alloc S3.out (cs := #[.string ⟨([105, 110, 115, 101, 114, 116] : Bytes).toArray⟩]) (t := 9))
  go_wp2_with fail
  refine Calls.mono (N.out [105, 110, 115, 101, 114, 116] (by decide) _ _ (HP.out.kept T4.out.below) (T4.out.blk 0 rfl)) ?_
  rintro e w4 ⟨rfl, hb4⟩
  have S4 := Lib.hid (St.tail (T4.out.kept hb4))
  clear hb4 T4 S3 f1 f2
  obtain ⟨f1, f2⟩ := sm_facts S4.out
  have T5 := Lib.hid (St.alloc S4.out (cs := #[.string ⟨([117, 112, 100, 97, 116, 101] : Bytes).toArray⟩]) (t := 9))
  go_wp2_with fail
  refine Calls.mono (N.out [117, 112, 100, 97, 116, 101] (by decide) _ _ (HP.out.kept T5.out.below) (T5.out.blk 0 rfl)) ?_
  rintro e w5 ⟨rfl, hb5⟩
  have S5 := Lib.hid (St.tail (T5.out.kept hb5))
  clear hb5 T5 S4 f1 f2
  obtain ⟨f1, f2⟩ := sm_facts S5.out
  have T6 := Lib.hid (St.alloc S5.out (cs := #[.string ⟨([100, 101, 108, 101, 116, 101] : Bytes).toArray⟩]) (t := 9))
  go_wp2_with fail
  refine Calls.mono (N.out [100, 101, 108, 101, 116, 101] (by decide) _ _ (HP.out.kept T6.out.below) (T6.out.blk 0 rfl)) ?_
  rintro e w6 ⟨rfl, hb6⟩
  have S6 := Lib.hid (St.tail (T6.out.kept hb6))
  clear hb6 T6 S5 f1 f2
  obtain ⟨f1, f2⟩ := sm_facts S6.out
  have T7 := Lib.hid (St.alloc S6.out (cs := #[.string ⟨([115, 101, 108, 101, 99, 116] : Bytes).toArray⟩]) (t := 9))
  go_wp2_with fail
  refine Calls.mono (N.out [115, 101, 108, 101, 99, 116] (by decide) _ _ (HP.out.kept T7.out.below) (T7.out.blk 0 rfl)) ?_
  rintro e w7 ⟨rfl, hb7⟩
  have S7 := Lib.hid (St.tail (T7.out.kept hb7))
  clear hb7 T7 S6 f1 f2
  obtain ⟨f1, f2⟩ := sm_facts S7.out
  have T8 := Lib.hid (St.alloc S7.out (cs := #[.string ⟨([98, 101, 103, 105, 110] : Bytes).toArray⟩]) (t := 9))
  go_wp2_with fail
  refine Calls.mono (N.out [98, 101, 103, 105, 110] (by decide) _ _ (HP.out.kept T8.out.below) (T8.out.blk 0 rfl)) ?_
  rintro e w8 ⟨rfl, hb8⟩
  have S8 := Lib.hid (St.tail (T8.out.kept hb8))
  clear hb8 T8 S7 f1 f2
  obtain ⟨f1, f2⟩ := sm_facts S8.out
  have T := Lib.hid (St.alloc S8.out (cs := #[.string ⟨([99, 111, 109, 109, 105, 116] : Bytes).toArray⟩]) (t := 9))
  go_wp2_with fail
  refine Calls.mono (takes_yes [99, 111, 109, 109, 105, 116] pb _ 1 _ (HP.out.kept T.out.below) (T.out.blk 0 rfl)) ?_
  rintro e wy ⟨rfl, hend, hty⟩
  have SY : Hid (StM (fun i => i = pb) w wy [(w.heap.size + 1 + 1, stVals 0, 130), (w.heap.size + 1, stVals 0, 130), (w.heap.size, #[.pointer (some ⟨pb, 0, none⟩)], 149)]) := StM.turned (St.toM _ (St.tail T.out)) hty (fun i _ h => h) (by simp; omega)
  have HEND := Lib.hid hend
  clear hend hty T f1 f2 S8 N HP
  obtain ⟨f1, f2, f3, f4, f5, f6⟩ := smM_facts SY.out
  have SK0 : Hid (StM (fun i => i = pb) w (wy.setCell ⟨w.heap.size + 1 + 1, 0, none⟩ (.int .i64 11)) [(w.heap.size + 1 + 1, stVals 11, 130), (w.heap.size + 1, stVals 0, 130), (w.heap.size, #[.pointer (some ⟨pb, 0, none⟩)], 149)]) := StM.set 0 (o := 0) (v := .int .i64 11) SY.out rfl
  have HEK0 : Hid (PsEnd (wy.setCell ⟨w.heap.size + 1 + 1, 0, none⟩ (.int .i64 11)) pb) := by
    obtain ⟨a, cap, n, hb⟩ := HEND.out
    exact ⟨a, cap, n, (Below.heap_setCell _ _ _ _ (by show pb ≠ w.heap.size + 1 + 1; omega)).trans hb⟩
  go_wp2_with (first | (refine wpList_load_row rfl 130 (.tmp 3) rfl (w.heap.size + 1 + 1) rfl 130 (stVals 11) (0, 0) _ (SK0.out.blk 0 rfl) Tryz.underlying130 rfl (st_size 11) ?_) | (refine wpList_store_row rfl 130 (.tmp 2) (.tmp 171) rfl (w.heap.size + 1) (stVals 11) rfl rfl 130 (stVals 0) (SK0.out.blk 1 rfl) (st_size 11) rfl (stVals_one 11) ?_))
  have SF := StM.row 1 (stVals 11) SK0.out rfl
  exact bodyPost_ret (v := .agg (stVals 11)) (results_cell_row rfl _ _ (w.heap.size + 1) 130 (stVals 11) (0, 0) _ rfl (SF.blk 1 rfl) Tryz.underlying130 rfl (st_size 11)) rfl ⟨rfl, HEK0.out.row (by omega), SF.turn⟩
end Go.Proofs.YtialgdnkkjmpbaaGreatDoor
