/-
  Walks: session.New at a client with the lines 'begin' and 'commit'. Conditions: the variables of the program's text are there. The memory that was there is as it was.
-/
import Derived.Test.YtialgdnkkjmpbaaGreatDoorXa
namespace Go.Proofs.YtialgdnkkjmpbaaGreatDoor
open Go.RowKit Go.Sort

theorem info130 : (Tryz.prog.info? 130).map (fun i => (i.zero, i.size, i.bytes)) = some (some (.agg (stVals 0)), 36, 576) := by kernel_rfl
theorem stVals_each (k : Int) : ∀ u ∈ (stVals k).toList, u.oneCell' = true := by
  intro u hu
  have h := stVals_one k
  rw [← Array.all_toList] at h
  exact List.all_eq_true.1 h u hu
theorem wpList_at {P : Program} {ops : Array Oper} {l : List Oper} {a : Act} {Q : Exit → Act → World → Prop} {W W' : World} (h : W' = W) (k : wpList P ops Q l a W') : wpList P ops Q l a W := h ▸ k
theorem turnW_cellM {M : Nat → Prop} {W : World} (p : TurnW M W) {b o : Nat} {v : Value} (h : W.cell? ⟨b, o, none⟩ = some v) (hM : ¬ M b) : p.w.cell? ⟨b, o, none⟩ = some v := by
  rw [World.cell?_of_block (a := ⟨b, o, none⟩) (p.h.block b (block_lt_of_cell h) hM)]; exact h
set_option maxRecDepth 100000 in
set_option maxHeartbeats 8000000 in
theorem new_ex (la : Option Addr) (lc : Nat) (w : World) (he : Env w) (hl : SlAt w (.slice la 2 lc) 2 (svals [[98, 101, 103, 105, 110], [99, 111, 109, 109, 105, 116]])) :
    Calls Tryz.prog 33 #[.agg #[.int .i64 2, .slice la 2 lc]] w fun e w' => ∃ v, e = .returned (.tuple #[.pointer v, .int .i64 2, .int .i64 0]) ∧ Below w.heap.size w w' := by
  obtain ⟨la', lc', e, hlc, hcl⟩ := hl
  cases e
  obtain ⟨lb, lo, rfl, hat⟩ := hcl (by decide)
  have HAT := Lib.hid hat
  have HE := Lib.hid he
  have SZ : Hid (St w ((w.alloc (.cells #[.int .i64 2, .slice (some ⟨lb, lo, none⟩) 2 lc] 48)).alloc (.cells (seVals (.slice none 0 0) 2) 111)) [(w.heap.size + 1, seVals (.slice none 0 0) 2, 111), (w.heap.size, #[.int .i64 2, .slice (some ⟨lb, lo, none⟩) 2 lc], 48)]) := by
    show St _ _ _
    have := St.alloc (St.alloc (St.start w) (cs := #[.int .i64 2, .slice (some ⟨lb, lo, none⟩) 2 lc]) (t := 48)) (cs := seVals (.slice none 0 0) 2) (t := 111)
    simpa only [World.size_alloc] using this
  clear hat hcl he
  go_enter Tryz.func33, Tryz.ntmps33
  go_wp2_with fail
  refine wp_loop_rounds 3 ?_
  rw [rounds_succ]
  refine St.gen SZ.out ?_
  intro w0 S0
  clear SZ
  have R0 : Hid (OwnRows (w.heap.size + 2) w0 [⟨130, 36, .slice none 0 0, 0, []⟩]) := OwnRows.snoc (OwnRows.nil _ _) 130 36
  have x0 : w0.cell? ⟨lb, lo, none⟩ = some (.string ⟨#[98, 101, 103, 105, 110]⟩) := (HAT.out.kept S0.out.below) 0 _ rfl
  go_wp2_with fail
  refine Calls.mono (sqlParse_begin _ (HE.out.kept S0.out.below)) ?_
  rintro e wa1 ⟨rfl, hb1⟩
  have SA := Lib.hid (S0.out.kept hb1)
  have RA := Lib.hid (R0.out.kept hb1)
  have hsz := hb1.size
  clear hb1 x0 S0 R0
  have SB := Lib.hid (St.alloc (St.alloc SA.out (cs := stVals 0) (t := 130)) (cs := #[.int .i64 0, .int .i64 0]) (t := 31))
  simp only [World.size_alloc] at SB
  have RB := Lib.hid (RA.out.kept (((Below.refl wa1.heap.size wa1).alloc (Nat.le_refl _) (.cells (stVals 0) 130)).alloc (by simp) (.cells #[.int .i64 0, .int .i64 0] 31)))
  obtain ⟨Wz, HWz⟩ : ∃ Wz, Hid (Wz = ((wa1.alloc (.cells (stVals 0) 130)).alloc (.cells #[.int .i64 0, .int .i64 0] 31)).setRow wa1.heap.size (stVals 10)) := ⟨_, rfl⟩
  have hnb : ∀ gb, gb ∈ ([⟨130, 36, .slice none 0 0, 0, []⟩] : List Row).flatMap Row.blk → ¬ gb = wa1.heap.size ∧ ¬ gb = wa1.heap.size + 1 ∧ ¬ gb = w.heap.size + 1 := fun gb hgb => by
    have h1 := RA.out.mem_blk hgb
    omega
  have HNB := Lib.hid hnb
  have RC : Hid (OwnRows (w.heap.size + 2) Wz [⟨130, 36, .slice none 0 0, 0, []⟩]) := by
    rw [HWz.out]
    exact RB.out.turned (M := fun k => k = wa1.heap.size) ((Turn.refl (fun k => k = wa1.heap.size) _).setRow (.inl rfl)) (fun gb hgb h => (HNB.out gb hgb).1 h)
  have SC : Hid (St w Wz [(wa1.heap.size + 1, #[.int .i64 0, .int .i64 0], 31), (wa1.heap.size, stVals 10, 130), (w.heap.size + 1, seVals (.slice none 0 0) 2, 111), (w.heap.size, #[.int .i64 2, .slice (some ⟨lb, lo, none⟩) 2 lc], 48)]) := by
    rw [HWz.out]; exact St.row 1 (stVals 10) SB.out rfl
  have F2 := cellFacts_of (SC.out.blk 0 rfl) [.int .i64 0, .int .i64 0] 0 (fun j => by simp)
  simp only [cellFacts, and_true] at F2
  clear hnb
  go_wp2_with (refine wpList_store_row rfl 130 (.tmp 8) (.tmp 37) rfl wa1.heap.size (stVals 10) rfl rfl 130 (stVals 0) (SB.out.blk 1 rfl) (st_size 10) rfl (stVals_one 10) ?_; refine wpList_at HWz.out ?_)
  have SD : Hid (St w ((Wz.setCell ⟨wa1.heap.size + 1, 0, none⟩ (.int .i64 0)).setCell ⟨wa1.heap.size + 1, 1, none⟩ (.int .i64 0)) [(wa1.heap.size + 1, #[.int .i64 0, .int .i64 0], 31), (wa1.heap.size, stVals 10, 130), (w.heap.size + 1, seVals (.slice none 0 0) 2, 111), (w.heap.size, #[.int .i64 2, .slice (some ⟨lb, lo, none⟩) 2 lc], 48)]) := St.set 0 (o := 1) (v := .int .i64 0) (St.set 0 (o := 0) (v := .int .i64 0) SC.out rfl) rfl
  have RD : Hid (OwnRows (w.heap.size + 2) ((Wz.setCell ⟨wa1.heap.size + 1, 0, none⟩ (.int .i64 0)).setCell ⟨wa1.heap.size + 1, 1, none⟩ (.int .i64 0)) [⟨130, 36, .slice none 0 0, 0, []⟩]) :=
    RC.out.turned (M := fun k => k = wa1.heap.size + 1) (((Turn.refl (fun k => k = wa1.heap.size + 1) Wz).setCell (.inl rfl)).setCell (.inl rfl)) (fun gb hgb h => (HNB.out gb hgb).2.1 h)
  generalize (Wz.setCell ⟨wa1.heap.size + 1, 0, none⟩ (.int .i64 0)).setCell ⟨wa1.heap.size + 1, 1, none⟩ (.int .i64 0) = wb1 at SD RD ⊢
  clear F2 SB RB SC RC HWz RA
  have h2sz : w.heap.size + 2 ≤ wb1.heap.size := by have := (Array.getElem?_eq_some_iff.1 (SD.out.blk 0 rfl)).1; have := (Array.getElem?_eq_some_iff.1 (SA.out.blk 0 rfl)).1; omega
  have hsw : w.heap.size + 1 < wa1.heap.size := (Array.getElem?_eq_some_iff.1 (SA.out.blk 0 rfl)).1
  have y0 : ∀ p : TurnW (fun _ => False) wb1, p.w.cell? ⟨w.heap.size + 1, 0, none⟩ = some (.slice none 0 0) := fun p => turnW_cellM p (by have h := SD.out.blk 2 rfl; simp only [World.cell?, h]; rfl) (fun h => h)
  have H21 := Lib.hid (SD.out.blk 1 rfl)
  have SE' := Lib.hid (St.tail (St.tail SD.out))
  clear SA SD
  have hs36 : (stVals 10).size = 36 := rfl
  refine wp_region_mixedT (fun _ => False) 8 [(0, false), (1, false), (2, false), (3, false), (4, false), (5, false), (6, true), (7, true)] (by kernel_rfl) (by kernel_rfl) ?_
  repeat (refine wpM_mildT rfl (fun K hK => ?_); go_simp; (refine hK _ ?_; clear hK K))
  refine wpM_load_rowT rfl rfl 130 (.tmp 8) rfl wa1.heap.size rfl 130 (stVals 10) (0, 0) _ (fun p => turnW_block p H21.out (fun h => h)) Tryz.underlying130 rfl (st_size 10) ?_
  refine wpM_effT rfl ?_
  intro wc1 hb3 ht3
  clear y0 H21
  go_wp2_with fail
  refine ⟨ht3.step ((Below.refl _ _).alloc (Nat.le_refl _) _), ?_⟩
  refine wpM_effT rfl ?_
  have S3 := Lib.hid (St.alloc (SE'.out.kept hb3) (cs := stVals 10) (t := 130))
  have R3 := Lib.hid (RD.out.kept (hb3.step ((Below.refl wc1.heap.size wc1).alloc (Nat.le_refl _) (.cells (stVals 10) 130))))
  intro wd1 hb4 ht4
  have S4 := Lib.hid (S3.out.kept hb4)
  have R4 := Lib.hid (R3.out.kept hb4)
  have hsz4 := ht4.size
  clear S3 R3 hb3 hb4 ht3 SE' RD
  refine wpList_append_rows rfl (.tmp 47) (.tmp 49) 107 rfl 130 (.agg (stVals 0)) 36 576 Tryz.underlying107 info130 rfl (by decide) (w.heap.size + 2) _ R4.out 0 (.slice none 0 0) 0 ([]) rfl rfl (.slice (some ⟨wc1.heap.size, 0, none⟩) 1 1) 1 (stVals 10).toList rfl (by decide) (slAt_blk (S4.out.blk 0 rfl) 1 1 (Nat.le_refl _)) rfl (stVals_each 10) (by decide) (by decide) (by omega) ?_
  rintro v5 we1 hrows ht5 ⟨g1, cp1, rfl⟩
  have S5 := Lib.hid ((St.tail S4.out).turned ht5 (fun i h => by simp [Value.ownBlock] at h) (by simp [Value.ownBlock]))
  have R5 := Lib.hid hrows
  have ht6 := ht4.trans ht5 (fun i _ h => by simp [Value.ownBlock] at h)
  clear S4 R4 hrows ht4 ht5
  go_wp2_with fail
  refine ⟨ht6, wpM_tailT ?_⟩
  intro wf1 hb6 _
  have S6 := Lib.hid (S5.out.kept hb6)
  have R6 : Hid (OwnRows (w.heap.size + 2) wf1 [⟨130, 36, .slice (some ⟨g1, 0, none⟩) 1 cp1, 1, [] ++ (stVals 10).toList⟩]) := R5.out.kept hb6
  have F6 : wf1.cell? ⟨w.heap.size + 1, 0, none⟩ = some (.slice none 0 0) ∧ wf1.frozen? ⟨w.heap.size + 1, 0, none⟩ = false := by
    have h0 := S6.out.blk 0 rfl
    exact ⟨by simp only [World.cell?, h0]; rfl, by simp [World.frozen?, h0]⟩
  clear hb6 S5 R5 ht6
  simp only [List.drop_succ_cons, List.drop_zero]
  go_wp2_with fail
  rw [rounds_succ]
  have S1 : Hid (St w (wf1.setCell ⟨w.heap.size + 1, 0, none⟩ (.slice (some ⟨g1, 0, none⟩) 1 cp1)) [(w.heap.size + 1, seVals (.slice (some ⟨g1, 0, none⟩) 1 cp1) 2, 111), (w.heap.size, #[.int .i64 2, .slice (some ⟨lb, lo, none⟩) 2 lc], 48)]) := St.set 0 (o := 0) (v := .slice (some ⟨g1, 0, none⟩) 1 cp1) S6.out rfl
  have R1 : Hid (OwnRows (w.heap.size + 2) (wf1.setCell ⟨w.heap.size + 1, 0, none⟩ (.slice (some ⟨g1, 0, none⟩) 1 cp1)) [⟨130, 36, .slice (some ⟨g1, 0, none⟩) 1 cp1, 1, [] ++ (stVals 10).toList⟩]) := R6.out.setCell (by omega)
  generalize wf1.setCell ⟨w.heap.size + 1, 0, none⟩ (.slice (some ⟨g1, 0, none⟩) 1 cp1) = w1 at S1 R1 ⊢
  clear F6 S6 R6 hs36 HNB hsz4 h2sz hsw hsz
  have x0 : w1.cell? ⟨lb, lo + 1, none⟩ = some (.string ⟨#[99, 111, 109, 109, 105, 116]⟩) := (HAT.out.kept S1.out.below) 1 _ rfl
  have hg2 : w.heap.size + 2 ≤ g1 ∧ g1 < w1.heap.size := R1.out.mem_blk (by simp [Row.blk, Value.ownBlock])
  go_wp2_with fail
  refine Calls.mono (sqlParse_commit _ (HE.out.kept S1.out.below)) ?_
  rintro e wa2 ⟨rfl, hb1⟩
  have SA := Lib.hid (S1.out.kept hb1)
  have RA := Lib.hid (R1.out.kept hb1)
  have hsz := hb1.size
  clear hb1 x0 S1 R1
  have SB := Lib.hid (St.alloc (St.alloc SA.out (cs := stVals 0) (t := 130)) (cs := #[.int .i64 0, .int .i64 0]) (t := 31))
  simp only [World.size_alloc] at SB
  have RB := Lib.hid (RA.out.kept (((Below.refl wa2.heap.size wa2).alloc (Nat.le_refl _) (.cells (stVals 0) 130)).alloc (by simp) (.cells #[.int .i64 0, .int .i64 0] 31)))
  obtain ⟨Wz, HWz⟩ : ∃ Wz, Hid (Wz = ((wa2.alloc (.cells (stVals 0) 130)).alloc (.cells #[.int .i64 0, .int .i64 0] 31)).setRow wa2.heap.size (stVals 11)) := ⟨_, rfl⟩
  have hnb : ∀ gb, gb ∈ ([⟨130, 36, .slice (some ⟨g1, 0, none⟩) 1 cp1, 1, [] ++ (stVals 10).toList⟩] : List Row).flatMap Row.blk → ¬ gb = wa2.heap.size ∧ ¬ gb = wa2.heap.size + 1 ∧ ¬ gb = w.heap.size + 1 := fun gb hgb => by
    have h1 := RA.out.mem_blk hgb
    omega
  have HNB := Lib.hid hnb
  have RC : Hid (OwnRows (w.heap.size + 2) Wz [⟨130, 36, .slice (some ⟨g1, 0, none⟩) 1 cp1, 1, [] ++ (stVals 10).toList⟩]) := by
    rw [HWz.out]
    exact RB.out.turned (M := fun k => k = wa2.heap.size) ((Turn.refl (fun k => k = wa2.heap.size) _).setRow (.inl rfl)) (fun gb hgb h => (HNB.out gb hgb).1 h)
  have SC : Hid (St w Wz [(wa2.heap.size + 1, #[.int .i64 0, .int .i64 0], 31), (wa2.heap.size, stVals 11, 130), (w.heap.size + 1, seVals (.slice (some ⟨g1, 0, none⟩) 1 cp1) 2, 111), (w.heap.size, #[.int .i64 2, .slice (some ⟨lb, lo, none⟩) 2 lc], 48)]) := by
    rw [HWz.out]; exact St.row 1 (stVals 11) SB.out rfl
  have F2 := cellFacts_of (SC.out.blk 0 rfl) [.int .i64 0, .int .i64 0] 0 (fun j => by simp)
  simp only [cellFacts, and_true] at F2
  clear hnb
  go_wp2_with (refine wpList_store_row rfl 130 (.tmp 8) (.tmp 37) rfl wa2.heap.size (stVals 11) rfl rfl 130 (stVals 0) (SB.out.blk 1 rfl) (st_size 11) rfl (stVals_one 11) ?_; refine wpList_at HWz.out ?_)
  have SD : Hid (St w ((Wz.setCell ⟨wa2.heap.size + 1, 0, none⟩ (.int .i64 0)).setCell ⟨wa2.heap.size + 1, 1, none⟩ (.int .i64 0)) [(wa2.heap.size + 1, #[.int .i64 0, .int .i64 0], 31), (wa2.heap.size, stVals 11, 130), (w.heap.size + 1, seVals (.slice (some ⟨g1, 0, none⟩) 1 cp1) 2, 111), (w.heap.size, #[.int .i64 2, .slice (some ⟨lb, lo, none⟩) 2 lc], 48)]) := St.set 0 (o := 1) (v := .int .i64 0) (St.set 0 (o := 0) (v := .int .i64 0) SC.out rfl) rfl
  have RD : Hid (OwnRows (w.heap.size + 2) ((Wz.setCell ⟨wa2.heap.size + 1, 0, none⟩ (.int .i64 0)).setCell ⟨wa2.heap.size + 1, 1, none⟩ (.int .i64 0)) [⟨130, 36, .slice (some ⟨g1, 0, none⟩) 1 cp1, 1, [] ++ (stVals 10).toList⟩]) :=
    RC.out.turned (M := fun k => k = wa2.heap.size + 1) (((Turn.refl (fun k => k = wa2.heap.size + 1) Wz).setCell (.inl rfl)).setCell (.inl rfl)) (fun gb hgb h => (HNB.out gb hgb).2.1 h)
  generalize (Wz.setCell ⟨wa2.heap.size + 1, 0, none⟩ (.int .i64 0)).setCell ⟨wa2.heap.size + 1, 1, none⟩ (.int .i64 0) = wb2 at SD RD ⊢
  clear F2 SB RB SC RC HWz RA
  have h2sz : w.heap.size + 2 ≤ wb2.heap.size := by have := (Array.getElem?_eq_some_iff.1 (SD.out.blk 0 rfl)).1; have := (Array.getElem?_eq_some_iff.1 (SA.out.blk 0 rfl)).1; omega
  have hsw : w.heap.size + 1 < wa2.heap.size := (Array.getElem?_eq_some_iff.1 (SA.out.blk 0 rfl)).1
  have y0 : ∀ p : TurnW (fun k => k = g1) wb2, p.w.cell? ⟨w.heap.size + 1, 0, none⟩ = some (.slice (some ⟨g1, 0, none⟩) 1 cp1) := fun p => turnW_cellM p (by have h := SD.out.blk 2 rfl; simp only [World.cell?, h]; rfl) (by show ¬ (_ = _); omega)
  have H21 := Lib.hid (SD.out.blk 1 rfl)
  have SE' := Lib.hid (St.tail (St.tail SD.out))
  clear SA SD
  have hs36 : (stVals 11).size = 36 := rfl
  refine wp_region_mixedT (fun k => k = g1) 8 [(0, false), (1, false), (2, false), (3, false), (4, false), (5, false), (6, true), (7, true)] (by kernel_rfl) (by kernel_rfl) ?_
  repeat (refine wpM_mildT rfl (fun K hK => ?_); go_simp; (refine hK _ ?_; clear hK K))
  refine wpM_load_rowT rfl rfl 130 (.tmp 8) rfl wa2.heap.size rfl 130 (stVals 11) (0, 0) _ (fun p => turnW_block p H21.out (by show ¬ (_ = _); omega)) Tryz.underlying130 rfl (st_size 11) ?_
  refine wpM_effT rfl ?_
  intro wc2 hb3 ht3
  clear y0 H21
  go_wp2_with fail
  refine ⟨ht3.step ((Below.refl _ _).alloc (Nat.le_refl _) _), ?_⟩
  refine wpM_effT rfl ?_
  have S3 := Lib.hid (St.alloc (SE'.out.kept hb3) (cs := stVals 11) (t := 130))
  have R3 := Lib.hid (RD.out.kept (hb3.step ((Below.refl wc2.heap.size wc2).alloc (Nat.le_refl _) (.cells (stVals 11) 130))))
  intro wd2 hb4 ht4
  have S4 := Lib.hid (S3.out.kept hb4)
  have R4 := Lib.hid (R3.out.kept hb4)
  have hsz4 := ht4.size
  clear S3 R3 hb3 hb4 ht3 SE' RD
  refine wpList_append_rows rfl (.tmp 47) (.tmp 49) 107 rfl 130 (.agg (stVals 0)) 36 576 Tryz.underlying107 info130 rfl (by decide) (w.heap.size + 2) _ R4.out 0 (.slice (some ⟨g1, 0, none⟩) 1 cp1) 1 ([] ++ (stVals 10).toList) rfl rfl (.slice (some ⟨wc2.heap.size, 0, none⟩) 1 1) 1 (stVals 11).toList rfl (by decide) (slAt_blk (S4.out.blk 0 rfl) 1 1 (Nat.le_refl _)) rfl (stVals_each 11) (by decide) (by decide) (by omega) ?_
  rintro v5 we2 hrows ht5 ⟨g2, cp2, rfl⟩
  have S5 := Lib.hid ((St.tail S4.out).turned ht5 (fun i h => by simp [Value.ownBlock] at h; omega) (by simp [Value.ownBlock]; omega))
  have R5 := Lib.hid hrows
  have ht6 := ht4.trans ht5 (fun i _ h => by simpa [Value.ownBlock, eq_comm] using h)
  clear S4 R4 hrows ht4 ht5
  go_wp2_with fail
  refine ⟨ht6, wpM_tailT ?_⟩
  intro wf2 hb6 _
  have S6 := Lib.hid (S5.out.kept hb6)
  have R6 : Hid (OwnRows (w.heap.size + 2) wf2 [⟨130, 36, .slice (some ⟨g2, 0, none⟩) 2 cp2, 2, [] ++ (stVals 10).toList ++ (stVals 11).toList⟩]) := R5.out.kept hb6
  have F6 : wf2.cell? ⟨w.heap.size + 1, 0, none⟩ = some (.slice (some ⟨g1, 0, none⟩) 1 cp1) ∧ wf2.frozen? ⟨w.heap.size + 1, 0, none⟩ = false := by
    have h0 := S6.out.blk 0 rfl
    exact ⟨by simp only [World.cell?, h0]; rfl, by simp [World.frozen?, h0]⟩
  clear hb6 S5 R5 ht6
  simp only [List.drop_succ_cons, List.drop_zero]
  go_wp2_with fail
  rw [rounds_succ]
  have S2 : Hid (St w (wf2.setCell ⟨w.heap.size + 1, 0, none⟩ (.slice (some ⟨g2, 0, none⟩) 2 cp2)) [(w.heap.size + 1, seVals (.slice (some ⟨g2, 0, none⟩) 2 cp2) 2, 111), (w.heap.size, #[.int .i64 2, .slice (some ⟨lb, lo, none⟩) 2 lc], 48)]) := St.set 0 (o := 0) (v := .slice (some ⟨g2, 0, none⟩) 2 cp2) S6.out rfl
  have R2 : Hid (OwnRows (w.heap.size + 2) (wf2.setCell ⟨w.heap.size + 1, 0, none⟩ (.slice (some ⟨g2, 0, none⟩) 2 cp2)) [⟨130, 36, .slice (some ⟨g2, 0, none⟩) 2 cp2, 2, [] ++ (stVals 10).toList ++ (stVals 11).toList⟩]) := R6.out.setCell (by omega)
  generalize wf2.setCell ⟨w.heap.size + 1, 0, none⟩ (.slice (some ⟨g2, 0, none⟩) 2 cp2) = w2 at S2 R2 ⊢
  clear F6 S6 R6 hs36 HNB hsz4 h2sz hsw hsz
  have hse : SeAt w2 (w.heap.size + 1) g2 cp2 2 := by
    refine ⟨S2.out.blk 0 rfl, ?_⟩
    obtain ⟨aa, cc, e, _, hh⟩ := (R2.out.own _ (List.mem_cons_self ..)).slAt
    cases e
    obtain ⟨b3, o3, e3, h3⟩ := hh (by show 0 < 2; decide)
    cases e3
    intro j u hu
    refine h3 j u ?_
    rw [List.nil_append, List.getElem?_append_left (List.getElem?_eq_some_iff.1 hu).1]
    exact hu
  have C := Lib.hid (settle_begin (w.heap.size + 1) g2 cp2 2 w2 hse)
  clear hse R2
  go_wp2_with fail
  refine Calls.mono C.out ?_
  rintro e w3 ⟨rfl, hb3⟩
  have S3 := Lib.hid (S2.out.kept hb3)
  have y0 : ∀ p : TurnW (fun _ => False) w3, p.w.cell? ⟨w.heap.size, 1, none⟩ = some (.slice (some ⟨lb, lo, none⟩) 2 lc) := fun p => turnW_cell' p (by have h := S3.out.blk 1 rfl; simp only [World.cell?, h]; rfl)
  clear hb3 C S2
  go_wp2_with fail
  refine wp_region_mixedT (fun _ => False) 5 [(0, false), (1, false), (2, false), (3, false), (4, false)] (by kernel_rfl) (by kernel_rfl) ?_
  repeat (refine wpM_mildT rfl (fun K hK => ?_); go_simp; first | (refine hK _ ?_; clear hK K) | (apply Exists.intro; refine ⟨fun _ => ?_, hK _ ?_⟩; (fail); clear hK K))
  refine wpM_tailT ?_
  intro w4 hb4 _
  have S4 := Lib.hid (S3.out.kept hb4)
  clear hb4 y0
  simp only [List.drop_succ_cons, List.drop_zero]
  go_wp2_with fail
  go_returns
  exact ⟨_, rfl, S4.out.below⟩
end Go.Proofs.YtialgdnkkjmpbaaGreatDoor
