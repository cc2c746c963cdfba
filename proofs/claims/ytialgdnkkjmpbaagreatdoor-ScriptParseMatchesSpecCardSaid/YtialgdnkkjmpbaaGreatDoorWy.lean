/-
  Walks: the package sql's Parse at 'begin' and 'commit'. Conditions: the variables of the program's text are there. The memory that was there is as it was.
-/
import Derived.Test.YtialgdnkkjmpbaaGreatDoorWx
import Derived.Test.YtialgdnkkjmpbaaGreatDoorKitB
import Derived.Defers
import Derived.Recover
namespace Go.Proofs.YtialgdnkkjmpbaaGreatDoor
open Go.RowKit Go.Sort

set_option maxRecDepth 100000 in
set_option maxHeartbeats 2000000 in
theorem tokens_own (wd : Bytes) (hw : SqlWord wd) (w : World) (he : Env w) : Calls Tryz.prog 74 #[.string ⟨wd.toArray⟩] w fun e w' => ∃ v, e = .returned (.tuple #[v, .agg #[.int .i64 0, .int .i64 0]]) ∧ SlIn (w.heap.size ≤ ·) w' v 1 (tokCells wd) ∧ Below w.heap.size w w' := by
  have C1 := Lib.hid (fun w he => prefix_any wd (by have := hw.len; omega) hw.asc 96 accS (enters_of Tryz.func96 (by kernel_rfl) rfl) (fun c w _ _ => isSpace_any c w) w he)
  have h0 : wd.takeWhile accS = [] := by
    cases wd with
    | nil => rfl
    | cons c r =>
      refine List.takeWhile_cons_of_neg ?_
      have := hw.low c (by simp)
      simp [lowB] at this
      simp only [accS, Bool.or_eq_true, beq_iff_eq, not_or]
      refine ⟨⟨?_, ?_⟩, ?_⟩ <;> (rintro rfl; simp at this)
  rw [h0] at C1
  have C2 := Lib.hid (fun w he => prefix_any [] (by simp) (by simp) 96 accS (enters_of Tryz.func96 (by kernel_rfl) rfl) (fun c w _ _ => isSpace_any c w) w he)
  simp only [List.takeWhile_nil] at C2
  have C3 := Lib.hid (fun w he => token_word wd hw w he)
  have HE := Lib.hid he
  have hlen := hw.len
  have hpos : 0 < wd.length := List.length_pos_iff.2 hw.ne
  have S0 : Hid (St w w []) := St.start w
  have hsz : (⟨wd.toArray⟩ : ByteArray).size = wd.length := by show wd.toArray.size = _; simp
  have x0 : (⟨wd.toArray⟩ : ByteArray).extract 0 wd.length = ⟨wd.toArray⟩ := by rw [extract_list]; simp
  have x1 : (⟨wd.toArray⟩ : ByteArray).extract wd.length wd.length = ⟨#[]⟩ := by rw [extract_list]; simp
  clear he hw h0
  go_enter Tryz.func74, Tryz.ntmps74
  go_wp2_with fail
  refine wp_loop_rounds 2 ?_
  rw [rounds_succ]
  go_wp2_with fail
  refine Calls.mono (C1.out _ (HE.out.kept ((Below.refl _ _).alloc (Nat.le_refl _) _))) ?_
  rintro e w1 ⟨rfl, hb1⟩
  refine St.call (St.alloc (S0.out)) hb1 ?_
  intro S1
  clear hb1
  try (simp only [List.set_cons_zero, List.set_cons_succ, List.setIfInBounds_toArray, World.size_alloc] at S1)
  have t1 : ((0 : Int) == (wd.length : Int)) = false := by simp; omega
  have t2 : (0 == wd.length) = false := by simp; omega
  go_wp2_with fail
  refine Calls.mono (C3.out _ (HE.out.kept S1.out.below)) ?_
  rintro e w2 ⟨rfl, hb2⟩
  refine St.call (S1.out) hb2 ?_
  intro S2
  clear hb2
  try (simp only [List.set_cons_zero, List.set_cons_succ, List.setIfInBounds_toArray, World.size_alloc] at S2)
  go_wp2_with (at_builtin; go_must (refine wpList_append_newk rfl _ _ 145 rfl 177 (.agg #[.int .i64 0, .int .i64 0, .string ⟨#[]⟩, .int .i64 0]) 4 40 Tryz.underlying145 info177 rfl (by decide) (w2.heap.size + 1) (.slice none 0 0) 0 [] rfl (World.ownsRow_nil _ _ _ _) (tokCells wd).toArray 1 (w2.heap.size + 1) rfl rfl (by simp) (by simp [tokCells, Value.oneCell']) (by decide) (by decide) (by simp) ?_))
  intro v3 w3 hown3 hg3
  have S3 : Hid (St w w3 [(w.heap.size, #[.int .i64 0, .int .i64 0], 31)]) := (St.laid S2.out).turned (Turn.of_grown hg3) (fun i h => by simp [Value.ownBlock] at h) (by simp [Value.ownBlock])
  have HO3 := Lib.hid hown3
  have hw2 : w.heap.size ≤ w2.heap.size := S2.out.below.size
  clear hown3 hg3 S2 t1 t2
  go_wp2_with fail
  rw [rounds_succ]
  go_wp2_with fail
  refine Calls.mono (C2.out _ (HE.out.kept S3.out.below)) ?_
  rintro e w4 ⟨rfl, hb4⟩
  have HO4 := Lib.hid (HO3.out.later hb4)
  refine St.call (S3.out) hb4 ?_
  intro S4
  clear hb4
  try (simp only [List.set_cons_zero, List.set_cons_succ, List.setIfInBounds_toArray, World.size_alloc] at S4)
  have F4 := S4.out.facts
  simp only [St.Facts, cellFacts, apartFacts, and_true] at F4
  go_wp2_with fail
  have S5 := St.set 0 (o := 1) (v := .int .i64 0) (St.set 0 (o := 0) (v := .int .i64 0) S4.out rfl) rfl
  have hown5 := HO4.out.same (w' := (w4.setCell ⟨w.heap.size, 0, none⟩ (.int .i64 0)).setCell ⟨w.heap.size, 1, none⟩ (.int .i64 0)) (fun g hg => by
    have := (World.ownsRow.lt HO4.out g hg).1
    rw [Below.heap_setCell _ _ _ _ (by show g ≠ w.heap.size; omega), Below.heap_setCell _ _ _ _ (by show g ≠ w.heap.size; omega)])
  exact bodyPost_ret (v := .tuple #[v3, .agg #[.int .i64 0, .int .i64 0]]) (by simp [results, Tryz.results74, go_sem, F4]) rfl ⟨v3, rfl, hown5.slIn.mono (fun b hb => Nat.le_trans (by omega) hb), S5.below⟩

theorem turnW_cell' {W : World} (p : TurnW (fun _ => False) W) {a : Addr} {v : Value} (h : W.cell? a = some v) : p.w.cell? a = some v := p.h.below.cell_kept h
/-- A block is stored as it stands. -/
theorem Turn.sameRow {M : Nat → Prop} {W : World} {b : Nat} {cs : Array Value} {t : TypeId} {fr : Nat × Nat} (h : W.heap[b]? = some (.cells cs t fr)) : Turn M W (W.setRow b cs) :=
  ⟨rfl, rfl, rfl, by simp [World.setRow], fun k _ _ => by
    by_cases e : k = b
    · subst e; rw [heap_setRow_same h, h]
    · exact heap_setRow_other e⟩
theorem St.cons {w W : World} {L : List Blk} {b : Nat} {cs : Array Value} {t : TypeId} (h : St w W L) (h1 : W.heap[b]? = some (.cells cs t (0, 0))) (h2 : w.heap.size ≤ b) (h3 : ∀ x ∈ L, x.1 ≠ b) : St w W ((b, cs, t) :: L) := by
  refine ⟨h.below, fun x hx => ?_, ?_⟩
  · rcases List.mem_cons.1 hx with rfl | hx
    · exact ⟨h2, h1⟩
    · exact h.own x hx
  · simp only [List.map_cons, List.nodup_cons]
    refine ⟨fun hm => ?_, h.apart⟩
    obtain ⟨x, hx, e⟩ := List.mem_map.1 hm
    exact h3 x hx e
theorem results_cell_row2 {P : Program} {fn : Func} {p q : Tmp} {ty uy : TypeId} (h : fn.results = #[.cell p ty, .cell q uy]) (tmps : Array Value) (w : World) (g b : Nat) (x y : Value)
    (hp : tmps.getD p undef = .pointer (some ⟨g, 0, none⟩)) (hq : tmps.getD q undef = .pointer (some ⟨b, 0, none⟩)) (h1 : (loadVar ty ⟨g, 0, none⟩).run P w = .ok x w) (h2 : (loadVar uy ⟨b, 0, none⟩).run P w = .ok y w) :
    (results fn tmps).run P w = .ok (.tuple #[x, y]) w := by
  have hp' : tmps[p]?.getD undef = .pointer (some ⟨g, 0, none⟩) := by simpa using hp
  have hq' : tmps[q]?.getD undef = .pointer (some ⟨b, 0, none⟩) := by simpa using hq
  simp [results, h, hp', hq', asAddr, h1, h2]
theorem idle_any (a b : Value) (w : World) : CallsD Tryz.prog 75 #[a, b] .returning w fun e u' w' => e = .returned (.tuple #[]) ∧ u' = .returning ∧ w' = w := by
  refine callsD_of_wpS Tryz.func75 rfl fun c₀ cs hu => ?_
  apply wpS_seq
  apply wpS_region
  simp [wpOpsS, go_sem, recoverD, hu, Tryz.ntmps75, Exit.thenS]
  apply wpS_seq
  apply wpS_region
  simp [wpOpsS, go_sem, Exit.thenS]
  refine wpS_cond (t := false) (by simp [Act.eval, Array.replicate]) ?_
  simp only [Bool.false_eq_true, if_false]
  refine wpS_of_wp (wp_skip ?_)
  cases c₀
  simp_all [bodyPostS, results, Tryz.results75]
set_option maxRecDepth 100000 in
set_option maxHeartbeats 4000000 in
theorem sqlParse_word (wd : Bytes) (k : Int) (hw : SqlWord wd) (hs : ∀ pb w, PsAt wd w pb → Calls Tryz.prog 76 #[.pointer (some ⟨pb, 0, none⟩)] w (StmtRes k pb w)) (hc : ∀ w, Calls Tryz.prog 78 #[.agg (stVals k)] w fun e w' => e = .returned (.int .i64 0) ∧ Below w.heap.size w w') (w : World) (he : Env w) :
    Calls Tryz.prog 56 #[.string ⟨wd.toArray⟩] w fun e w' => e = .returned (.tuple #[.agg (stVals k), .agg #[.int .i64 0, .int .i64 0]]) ∧ Below w.heap.size w w' := by
  have hmf : ∀ (fn : Fn) (first cap : Array Value) (w : World), (Instr.makeFunc fn first cap).run Tryz.prog w = .ok (.func fn first cap) w := fun _ _ _ _ => rfl
  have SZ : Hid (St w ((w.alloc (.cells (stVals 0) 130)).alloc (.cells #[.int .i64 0, .int .i64 0] 31)) [(w.heap.size + 1, #[.int .i64 0, .int .i64 0], 31), (w.heap.size, stVals 0, 130)]) := by
    show St _ _ _
    have := St.alloc (St.alloc (St.start w) (cs := stVals 0) (t := 130)) (cs := #[.int .i64 0, .int .i64 0]) (t := 31)
    simpa only [World.size_alloc] using this
  have C1 := Lib.hid (fun w he => tokens_own wd hw w he)
  have C2 := Lib.hid hs
  have C3 := Lib.hid hc
  have HE := Lib.hid he
  have hlen := hw.len
  clear hs hc he hw
  go_enter_defers Tryz.func56, Tryz.ntmps56
  go_wp2_with fail
  refine Calls.mono (C1.out _ (HE.out.kept SZ.out.below)) ?_
  rintro e w1 ⟨v, rfl, hv, hb1⟩
  have S1 := Lib.hid (SZ.out.kept hb1)
  obtain ⟨va, vc, rfl, hvc, hcells⟩ := hv
  obtain ⟨tb, oo, rfl, htb, hat⟩ := hcells (by decide)
  have htb2 : w.heap.size + 2 ≤ tb := by simpa only [World.size_alloc, Nat.add_assoc, Nat.reduceAdd] using htb
  have F1 : w1.cell? ⟨w.heap.size + 1, 0, none⟩ = some (.int .i64 0) ∧ w1.cell? ⟨w.heap.size + 1, 1, none⟩ = some (.int .i64 0) ∧ w1.frozen? ⟨w.heap.size + 1, 0, none⟩ = false ∧ w1.frozen? ⟨w.heap.size + 1, 1, none⟩ = false ∧ w.heap.size + 1 < w1.heap.size := by
    have h0 := S1.out.blk 0 rfl
    exact ⟨by simp only [World.cell?, h0]; rfl, by simp only [World.cell?, h0]; rfl, by simp [World.frozen?, h0], by simp [World.frozen?, h0], (Array.getElem?_eq_some_iff.1 h0).1⟩
  have HAT := Lib.hid hat
  clear hb1 hcells hat htb
  have S2 : Hid (St w ((w1.setCell ⟨w.heap.size + 1, 0, none⟩ (.int .i64 0)).setCell ⟨w.heap.size + 1, 1, none⟩ (.int .i64 0)) [(w.heap.size + 1, #[.int .i64 0, .int .i64 0], 31), (w.heap.size, stVals 0, 130)]) := St.set 0 (o := 1) (v := .int .i64 0) (St.set 0 (o := 0) (v := .int .i64 0) S1.out rfl) rfl
  have S3 : Hid (St w (((w1.setCell ⟨w.heap.size + 1, 0, none⟩ (.int .i64 0)).setCell ⟨w.heap.size + 1, 1, none⟩ (.int .i64 0)).alloc (.cells #[.slice (some ⟨tb, oo, none⟩) 1 vc, .int .i64 (wd.length : Int)] 151)) [(w1.heap.size, #[.slice (some ⟨tb, oo, none⟩) 1 vc, .int .i64 (wd.length : Int)], 151), (w.heap.size + 1, #[.int .i64 0, .int .i64 0], 31), (w.heap.size, stVals 0, 130)]) := by
    show St _ _ _
    have := St.alloc S2.out (cs := #[.slice (some ⟨tb, oo, none⟩) 1 vc, .int .i64 (wd.length : Int)]) (t := 151)
    simpa only [World.size_setCell] using this
  have hps : PsAt wd (((w1.setCell ⟨w.heap.size + 1, 0, none⟩ (.int .i64 0)).setCell ⟨w.heap.size + 1, 1, none⟩ (.int .i64 0)).alloc (.cells #[.slice (some ⟨tb, oo, none⟩) 1 vc, .int .i64 (wd.length : Int)] 151)) w1.heap.size := by
    refine ⟨tb, oo, vc, wd.length, S3.out.blk 0 rfl, hvc, HAT.out.same ?_⟩
    have hlt : tb < w1.heap.size := HAT.out.lt (by simp [tokCells])
    rw [Below.heap_alloc _ _ _ (by simpa using hlt), Below.heap_setCell _ _ _ _ (by show tb ≠ w.heap.size + 1; omega), Below.heap_setCell _ _ _ _ (by show tb ≠ w.heap.size + 1; omega)]
  have C4 := Lib.hid (C2.out _ _ hps)
  clear hps HAT C2 C1
  have hw1 : w.heap.size + 1 < w1.heap.size := F1.2.2.2.2
  go_wp2_with fail
  refine Calls.mono C4.out ?_
  clear C4 F1 S1 S2
  rintro e w4 ⟨rfl, hend, hT⟩
  have S4 : Hid (St w w4 [(w.heap.size + 1, #[.int .i64 0, .int .i64 0], 31), (w.heap.size, stVals 0, 130)]) := (St.tail S3.out).turned hT (fun i hi => by subst hi; omega) (by simp; omega)
  obtain ⟨ea, ec, en, hend⟩ := hend
  generalize w1.heap.size = pb at *
  have S4' : Hid (St w w4 [(pb, #[.slice ea 0 ec, .int .i64 en], 151), (w.heap.size + 1, #[.int .i64 0, .int .i64 0], 31), (w.heap.size, stVals 0, 130)]) := St.cons S4.out hend (by omega) (by simp; omega)
  clear hend hT S3 SZ S4
  go_wp2_with (first | (refine wpList_store_row rfl 130 (.tmp 2) (.tmp 23) rfl w.heap.size (stVals k) rfl rfl 130 (stVals 0) (S4'.out.blk 2 rfl) (st_size k) rfl (stVals_one k) ?_; refine St.genL (St.row 2 (stVals k) S4'.out rfl) ?_; intro w5 S5; have f5 : w5.cell? ⟨pb, 0, none⟩ = some (.slice ea 0 ec) := (by have h0 := S5.out.blk 0 rfl; simp only [World.cell?, h0]; rfl)) | (refine wpList_load_row rfl 130 (.tmp 2) rfl w.heap.size rfl 130 (stVals k) (0, 0) _ (S5.out.blk 2 rfl) Tryz.underlying130 rfl (st_size k) ?_))
  refine Calls.mono (C3.out _) ?_
  rintro e w6 ⟨rfl, hb6⟩
  have S6 := Lib.hid (St.tail (S5.out.kept hb6))
  clear hb6 f5 S5 S4' C3
  have h60 := S6.out.blk 0 rfl
  have h61 := S6.out.blk 1 rfl
  have y0 : ∀ p : TurnW (fun _ => False) w6, p.w.cell? ⟨w.heap.size + 1, 0, none⟩ = some (.int .i64 0) := fun p => turnW_cell' p (by simp only [World.cell?, h60]; rfl)
  have y1 : ∀ p : TurnW (fun _ => False) w6, p.w.cell? ⟨w.heap.size + 1, 1, none⟩ = some (.int .i64 0) := fun p => turnW_cell' p (by simp only [World.cell?, h60]; rfl)
  have H61 := Lib.hid h61
  clear h60 h61
  go_wp2_with fail
  refine wp_region_mixedT (fun _ => False) 3 [(0, false), (1, false), (2, true)] (by kernel_rfl) (by kernel_rfl) ?_
  refine wpM_load_rowT rfl rfl 130 (.tmp 2) rfl w.heap.size rfl 130 (stVals k) (0, 0) _ (fun p => turnW_block p H61.out (fun h => h)) Tryz.underlying130 rfl (st_size k) ?_
  repeat (refine wpM_mildT rfl (fun K hK => ?_); go_simp; first | (refine hK _ ?_; clear hK K) | (apply Exists.intro; refine ⟨fun _ => ?_, hK _ ?_⟩; (fail); clear hK K))
  refine wpM_effT rfl ?_
  intro w7 hb7 ht7
  have S7 := Lib.hid (S6.out.kept hb7)
  simp only [List.set_cons_zero, List.set_cons_succ] at S7
  have h71 := S7.out.blk 1 rfl
  clear hb7 y0 y1 H61 S6
  refine wpList_store_row rfl 130 (.tmp 2) (.tmp 37) rfl w.heap.size (stVals k) rfl rfl 130 (stVals k) h71 (st_size k) rfl (stVals_one k) ?_
  refine ⟨ht7.trans (Turn.sameRow (M := fun _ => False) h71) (fun _ _ h => h), wpM_tailT ?_⟩
  have S8 := Lib.hid (St.row 1 (stVals k) S7.out rfl)
  simp only [List.set_cons_zero, List.set_cons_succ] at S8
  clear ht7 h71 S7
  intro w9 hb9 _
  have S9 := Lib.hid (S8.out.kept hb9)
  have h90 := S9.out.blk 0 rfl
  have F9 := cellFacts_of h90 [.int .i64 0, .int .i64 0] 0 (fun j => by simp)
  simp only [cellFacts, and_true] at F9
  clear hb9 S8 h90
  simp only [List.drop_succ_cons, List.drop_zero]
  go_wp2_with fail
  have S10 : St w ((w9.setCell ⟨w.heap.size + 1, 0, none⟩ (.int .i64 0)).setCell ⟨w.heap.size + 1, 1, none⟩ (.int .i64 0)) [(w.heap.size + 1, #[.int .i64 0, .int .i64 0], 31), (w.heap.size, stVals k, 130)] := St.set 0 (o := 1) (v := .int .i64 0) (St.set 0 (o := 0) (v := .int .i64 0) S9.out rfl) rfl
  have hl := run_loadVar_row (P := Tryz.prog) _ w.heap.size 130 130 (stVals k) (0, 0) _ (S10.blk 1 rfl) Tryz.underlying130 rfl (st_size k)
  refine leaves_cons (f := 75) (args := #[.pointer (some ⟨w.heap.size, 0, none⟩), .pointer (some ⟨w.heap.size + 1, 0, none⟩)]) (by simp) (by simp [go_sem]) ?_
  refine (idle_any _ _ _).mono ?_
  rintro e u' w'' ⟨rfl, rfl, rfl⟩
  refine ⟨.tuple #[.agg (stVals k), .agg #[.int .i64 0, .int .i64 0]], ?_, rfl, S10.below⟩
  have hl2 := run_loadVar_row (P := Tryz.prog) _ (w.heap.size + 1) 31 31 #[.int .i64 0, .int .i64 0] (0, 0) _ (S10.blk 0 rfl) Tryz.underlying31 rfl (by kernel_rfl)
  exact results_cell_row2 Tryz.results56 _ _ w.heap.size (w.heap.size + 1) _ _ rfl rfl hl hl2
theorem sqlParse_begin (w : World) (he : Env w) : Calls Tryz.prog 56 #[.string ⟨#[98, 101, 103, 105, 110]⟩] w fun e w' => e = .returned (.tuple #[.agg (stVals 10), .agg #[.int .i64 0, .int .i64 0]]) ∧ Below w.heap.size w w' :=
  sqlParse_word _ 10 word_begin statement_begin sqlCheck_begin w he
theorem sqlParse_commit (w : World) (he : Env w) : Calls Tryz.prog 56 #[.string ⟨#[99, 111, 109, 109, 105, 116]⟩] w fun e w' => e = .returned (.tuple #[.agg (stVals 11), .agg #[.int .i64 0, .int .i64 0]]) ∧ Below w.heap.size w w' :=
  sqlParse_word _ 11 word_commit statement_commit sqlCheck_commit w he
end Go.Proofs.YtialgdnkkjmpbaaGreatDoor
