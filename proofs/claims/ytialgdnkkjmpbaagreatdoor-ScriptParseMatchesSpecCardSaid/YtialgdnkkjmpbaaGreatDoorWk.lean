/-
  Walks: Parse of the package script. Conditions: the variables of the program's text are there. The memory that was there is as it was.
-/
import Derived.Test.YtialgdnkkjmpbaaGreatDoorWj
namespace Go.Proofs.YtialgdnkkjmpbaaGreatDoor
open Go.RowKit Go.Sort
attribute [local go_sem] Oper.semAt_some

/-- A script's value: its numbers, and two slices. -/
def scVal (x : Sc) (cv av : Value) : Value := .agg #[.int .i64 x.lines, .int .i64 x.most, .int .i64 x.room, .int .i64 x.delay, .int .i64 x.buckets, cv, av]
def prVal (at_ e : Int) : Value := .agg #[.int .i64 at_, .int .i64 e]
/-- What the slices of a script's value read as. -/
def ScAt (w : World) (cv av : Value) (x : Sc) : Prop := SlAt w av x.acts.length (acVals x.acts) ∧ ∃ lvs, lvs.length = x.clients.length ∧ SlAt w cv x.clients.length (clVals x.clients lvs) ∧ ∀ (i : Nat) (c : Cl) (lv : Value), x.clients[i]? = some c → lvs[i]? = some lv → SlAt w lv c.lines.length (svals c.lines)
theorem ScAt.kept {w w' : World} {cv av : Value} {x : Sc} (h : ScAt w cv av x) (hb : Below w.heap.size w w') : ScAt w' cv av x := by
  obtain ⟨h1, lvs, h2, h3, h4⟩ := h
  exact ⟨h1.kept hb, lvs, h2, h3.kept hb, fun i c lv hc hl => (h4 i c lv hc hl).kept hb⟩
def ParseRes (r : Sc × Int × Int) (w : World) (e : Ending) (w' : World) : Prop := ∃ cv av, e = .returned (.tuple #[scVal r.1 cv av, prVal r.2.1 r.2.2]) ∧ ScAt w' cv av r.1 ∧ Below w.heap.size w w'
theorem scAt_zero (w : World) : ScAt w (.slice none 0 0) (.slice none 0 0) Sc.zero := ⟨slAt_zero rfl, [], rfl, slAt_zero rfl, fun i c lv h => by simp [Sc.zero] at h⟩

set_option maxRecDepth 100000 in
set_option maxHeartbeats 2000000 in
theorem parse_big (s : ByteArray) (hs : 200000 < s.size) (w : World) : Calls Tryz.prog 11 #[.string s] w (ParseRes (Sc.zero, 0, eLimit) w) := by
  go_enter Tryz.func11, Tryz.ntmps11
  go_wp2_with fail
  exact bodyPost_ret (v := .tuple #[scVal Sc.zero (.slice none 0 0) (.slice none 0 0), prVal 0 eLimit]) (by simp [results, Tryz.results11, go_sem, scVal, prVal, Sc.zero, eLimit]) rfl ⟨_, _, rfl, scAt_zero _, by go_grown⟩

theorem lines_any (s : ByteArray) (w : World) : Calls Tryz.prog 20 #[.string s] w fun e w' => e = .returned (.func (.func 39) #[] #[.pointer (some ⟨w.heap.size, 0, none⟩)]) ∧ w' = w.alloc (.cells #[.string s] 9) := by
  go_enter Tryz.func20, Tryz.ntmps20
  go_wp2_with fail
  go_returns
  exact ⟨rfl, rfl⟩

theorem RdrAt.turned {base rb : Nat} {w w' : World} {s : Rd} {cv av : Value} {lvs : List Value} {M : Nat → Prop} (h : RdrAt base rb w s cv av lvs) (k : Turn M w w') (hM : ∀ i, M i → i < base ∧ i ≠ rb) : RdrAt base rb w' s cv av lvs := by
  have hlt := (Array.getElem?_eq_some_iff.1 h.blk).1
  exact ⟨h.lt, Nat.le_trans h.size k.size, h.low, (k.block rb hlt (fun hm => (hM rb hm).2 rfl)).trans h.blk, h.len, h.rows.turned k (fun g hg hm => by have := (h.rows.mem_blk hg).1; have := (hM g hm).1; omega)⟩
theorem Rdr.turned {base rb : Nat} {w w' : World} {s : Rd} {M : Nat → Prop} (h : Rdr base rb w s) (k : Turn M w w') (hM : ∀ i, M i → i < base ∧ i ≠ rb) : Rdr base rb w' s := by
  obtain ⟨cv, av, lvs, h⟩ := h
  exact ⟨cv, av, lvs, h.turned k hM⟩
theorem Rdr.kept {base rb : Nat} {w w' : World} {s : Rd} (h : Rdr base rb w s) (hb : Below w.heap.size w w') : Rdr base rb w' s := by
  obtain ⟨cv, av, lvs, h⟩ := h
  exact ⟨cv, av, lvs, h.kept hb⟩
def rdFn (ph : Nat) : Nat := if ph = 0 then 19 else if ph = 1 then 38 else if ph = 2 then 61 else 85
theorem split_any (line : Bytes) (hl : line.length ≤ 1000000) (w : World) (he : Env w) :
    Calls Tryz.prog 21 #[.string ⟨line.toArray⟩, .string ⟨#[32]⟩] w fun e w' => ∃ v, e = .returned v ∧ SlAt w' v (pts line).length (svals (pts line)) ∧ Below w.heap.size w w' := by
  obtain ⟨m, hm⟩ := he.maxLen
  refine (Tryz.strings_Split ⟨line.toArray⟩ ⟨#[32]⟩ m w (by show line.toArray.size < _; simp; omega) hm (by decide)).mono ?_
  rintro e w' ⟨rfl, rfl⟩
  refine ⟨_, rfl, ?_, (Below.refl _ _).alloc (Nat.le_refl _) _⟩
  have := slAt_new w ((Lib.splitB ⟨#[32]⟩ 0 (Lib.countB ⟨line.toArray⟩ ⟨#[32]⟩) ⟨line.toArray⟩).map Value.string).toArray 9 (Lib.countB ⟨line.toArray⟩ ⟨#[32]⟩ + 1) (Lib.countB ⟨line.toArray⟩ ⟨#[32]⟩ + 1) (Nat.le_refl _)
  rw [List.toList_toArray, split_vals] at this
  have e2 := split_len ⟨line.toArray⟩
  rw [e2] at this ⊢
  rw [split_vals]
  simp only [] at this ⊢
  unfold svals
  exact this
theorem rdFn_enters (ph : Nat) : ∀ args w, (callFunc (rdFn ph) args).run Tryz.prog w = .ok (.enter (rdFn ph) args) w := by
  unfold rdFn
  split
  · exact enters_of Tryz.func19 (by kernel_rfl) rfl
  · split
    · exact enters_of Tryz.func38 (by kernel_rfl) rfl
    · split
      · exact enters_of Tryz.func61 (by kernel_rfl) rfl
      · exact enters_of Tryz.func85 (by kernel_rfl) rfl
/-- The next line, in whatever phase. -/
theorem next_any (base rb : Nat) (w : World) (s : Rd) (L : List Bytes) (line : Bytes) (v : Value) (he : Env w) (hr : Rdr base rb w s) (hok : ReadOk s L) (hv : SlAt w v (pts line).length (svals (pts line))) (hl : line.length ≤ 200000) :
    Calls Tryz.prog (rdFn s.ph) #[.pointer (some ⟨rb, 0, none⟩), .string ⟨line.toArray⟩, v] w (RdRes base rb w (readLn s line)) := by
  have h1 : (pts line).length ≤ 1000000 := by have := pts_length line; omega
  have h2 : ∀ p ∈ pts line, p.length ≤ 1000000 := fun p hp => by have := pts_small line p hp; omega
  have hf := hok.formed
  unfold Sc.formed at hf
  simp only [Bool.and_eq_true, decide_eq_true_eq] at hf
  obtain ⟨⟨⟨⟨_, hc8⟩, ha⟩, hcl⟩, _⟩ := hf
  have hph := hok.ph3
  unfold readLn
  match hp : s.ph, hph with
  | 0, _ => exact first_any base rb w s ⟨line.toArray⟩ v (pts line) he hr hp hv (pts_ne line) h1 h2
  | 1, _ => exact second_any base rb w s ⟨line.toArray⟩ v (pts line) he hr hp hv (pts_ne line) h1 h2
  | 2, _ =>
    refine clients_any base rb w s ⟨line.toArray⟩ v (pts line) he hr hp hv (pts_ne line) h1 h2 ha hc8 (fun c hc => ?_) ?_
    · have := List.all_eq_true.1 hcl c hc
      unfold Cl.formed at this
      simp only [Bool.and_eq_true, decide_eq_true_eq] at this
      exact this.1.2
    · exact hok.open_
  | 3, _ => exact acts_any base rb w s ⟨line.toArray⟩ v (pts line) he hr hv (pts_ne line) h1 h2 ha
  | k + 4, h => omega
def zSc : Array Value := #[.int .i64 0, .int .i64 0, .int .i64 0, .int .i64 0, .int .i64 0, .slice none 0 0, .slice none 0 0]
/-- Between two lines. -/
def PInv (w : World) (D : Nat) (rc : LoopState → Option Code → Loop) (tgt : Sc × Int × Int) (t : Bytes) (W : World) : Prop := ∃ (rd : Rd) (m : Nat) (L : List Bytes),
  St w W [(w.heap.size + 5, #[.string ⟨t.toArray⟩], 9), (w.heap.size + 4, #[.int .i64 (m : Int)], 3), (w.heap.size + 3, #[.pointer (some ⟨w.heap.size + 2, 0, none⟩)], 50), (w.heap.size + 1, #[.int .i64 0, .int .i64 0], 31), (w.heap.size, zSc, 28)] ∧
  Rdr (D + 2) (w.heap.size + 2) W rd ∧ W.heap[D + 1]? = some (.loop (rc .ready none)) ∧ W.heap[D]? = some (.deferred (some [])) ∧ ReadOk rd L ∧ m + t.length ≤ 200000 ∧ readAll rd m (lns t) = tgt
/-- A line has been found wrong. -/
def PBad (w : World) (D : Nat) (tgt : Sc × Int × Int) (W : World) : Prop := ∃ (m e : Int), St w W [(w.heap.size + 1, #[.int .i64 m, .int .i64 e], 31), (w.heap.size, zSc, 28)] ∧ W.heap[D]? = some (.deferred (some [])) ∧ tgt = (Sc.zero, m, e)
theorem PInv.turned {w : World} {D : Nat} {rc : LoopState → Option Code → Loop} {tgt : Sc × Int × Int} {t : Bytes} {W W' : World} (h : PInv w D rc tgt t W) (hb : Below W.heap.size W W') : PInv w D rc tgt t W' := by
  obtain ⟨rd, m, L, h1, h2, h3, h4, h5⟩ := h
  exact ⟨rd, m, L, h1.kept hb, h2.kept hb, (hb.block _ (Array.getElem?_eq_some_iff.1 h3).1).trans h3, (hb.block _ (Array.getElem?_eq_some_iff.1 h4).1).trans h4, h5⟩

/-- Inside a round. -/
structure RInv (w : World) (D : Nat) (rc : LoopState → Option Code → Loop) (t : Bytes) (m : Int) (rd : Option Rd) (W : World) : Prop where
  st : St w W [(w.heap.size + 5, #[.string ⟨t.toArray⟩], 9), (w.heap.size + 4, #[.int .i64 m], 3), (w.heap.size + 3, #[.pointer (some ⟨w.heap.size + 2, 0, none⟩)], 50), (w.heap.size + 1, #[.int .i64 0, .int .i64 0], 31), (w.heap.size, zSc, 28)]
  rdr : ∀ s, rd = some s → Rdr (D + 2) (w.heap.size + 2) W s
  busy : W.heap[D + 1]? = some (.loop (rc .busy none))
  dfr : W.heap[D]? = some (.deferred (some []))
theorem RInv.begin {w : World} {D : Nat} {rc : LoopState → Option Code → Loop} {t : Bytes} {m : Int} {rd : Rd} {W : World} (hD : w.heap.size + 6 ≤ D)
    (h1 : St w W [(w.heap.size + 5, #[.string ⟨t.toArray⟩], 9), (w.heap.size + 4, #[.int .i64 m], 3), (w.heap.size + 3, #[.pointer (some ⟨w.heap.size + 2, 0, none⟩)], 50), (w.heap.size + 1, #[.int .i64 0, .int .i64 0], 31), (w.heap.size, zSc, 28)])
    (h2 : Rdr (D + 2) (w.heap.size + 2) W rd) (h3 : W.heap[D + 1]? = some (.loop (rc .ready none))) (h4 : W.heap[D]? = some (.deferred (some []))) : RInv w D rc t m (some rd) (W.putObj (D + 1) (.loop (rc .busy none))) := by
  have ht := Turn.putObj W (D + 1) (.loop (rc .busy none))
  refine ⟨h1.turned ht (fun i hi => by subst hi; omega) (by simp; omega), fun s e => by cases e; exact h2.turned ht (fun i hi => by subst hi; omega), World.putObj_heap_same (Array.getElem?_eq_some_iff.1 h3).1, (World.putObj_heap_other (by omega)).trans h4⟩
/-- A line has been read. -/
theorem RInv.read {w : World} {D : Nat} {rc : LoopState → Option Code → Loop} {t : Bytes} {m : Int} {rd rd' : Option Rd} {W W' : World} (hD : w.heap.size + 6 ≤ D) (h : RInv w D rc t m rd W) (ht : Turn (RdM (D + 2) (w.heap.size + 2)) W W') (hr : ∀ s, rd' = some s → Rdr (D + 2) (w.heap.size + 2) W' s) : RInv w D rc t m rd' W' := by
  refine ⟨h.st.turned ht (fun i hi => by rcases hi with rfl | hi <;> omega) ?_, hr, ?_, ?_⟩
  · simp [RdM]; omega
  · exact (ht.block _ (Array.getElem?_eq_some_iff.1 h.busy).1 (by simp [RdM]; omega)).trans h.busy
  · exact (ht.block _ (Array.getElem?_eq_some_iff.1 h.dfr).1 (by simp [RdM]; omega)).trans h.dfr
theorem RInv.kept {w : World} {D : Nat} {rc : LoopState → Option Code → Loop} {t : Bytes} {m : Int} {rd : Option Rd} {W W' : World} (h : RInv w D rc t m rd W) (hb : Below W.heap.size W W') : RInv w D rc t m rd W' :=
  ⟨h.st.kept hb, fun s e => (h.rdr s e).kept hb, (hb.block _ (Array.getElem?_eq_some_iff.1 h.busy).1).trans h.busy, (hb.block _ (Array.getElem?_eq_some_iff.1 h.dfr).1).trans h.dfr⟩
def RoundR (w : World) (D : Nat) (rc : LoopState → Option Code → Loop) (tgt : Sc × Int × Int) (t rest : Bytes) (e : Ending) (W' : World) : Prop :=
  e = .returned (.bool true) ∧ W'.heap[w.heap.size + 5]? = some (.cells #[.string ⟨t.toArray⟩] 9 (0, 0)) ∧ PInv w D rc tgt rest (W'.setCell ⟨w.heap.size + 5, 0, none⟩ (.string ⟨rest.toArray⟩)) ∨
  e = .returned (.bool false) ∧ PBad w D tgt W' ∧ W'.heap[D + 1]? = some (.loop (rc .done (some .ret)))
/-- The round goes on. -/
theorem RInv.good {w : World} {D : Nat} {rc : LoopState → Option Code → Loop} {t rest : Bytes} {m : Nat} {rd : Rd} {W : World} {tgt : Sc × Int × Int} {L : List Bytes} {a : Act} (hD : w.heap.size + 6 ≤ D) (h : RInv w D rc t (m : Int) (some rd) W) (hok : ReadOk rd L)
    (hl : (m + 1) + rest.length ≤ 200000) (ht : readAll rd (m + 1) (lns rest) = tgt) : roundEnd (D + 1) rc (RoundR w D rc tgt t rest) .normal a (W.setCell ⟨w.heap.size + 4, 0, none⟩ (.int .i64 ((m : Int) + 1))) := by
  have hs := St.set 1 (o := 0) (v := .int .i64 ((m : Int) + 1)) h.st rfl
  have ht1 : Turn (fun k => k = w.heap.size + 4) W (W.setCell ⟨w.heap.size + 4, 0, none⟩ (.int .i64 ((m : Int) + 1))) := (Turn.refl _ W).setCell (.inl rfl)
  have hr1 := (h.rdr rd rfl).turned ht1 (fun i hi => by subst hi; omega)
  have hb1 := (ht1.block _ (Array.getElem?_eq_some_iff.1 h.busy).1 (by omega)).trans h.busy
  have hd1 := (ht1.block _ (Array.getElem?_eq_some_iff.1 h.dfr).1 (by omega)).trans h.dfr
  refine ⟨hb1, .inl ⟨rfl, ?_, ?_⟩⟩
  · exact (World.putObj_heap_other (by omega)).trans (hs.blk 0 rfl)
  · have ht2 := Turn.putObj (W.setCell ⟨w.heap.size + 4, 0, none⟩ (.int .i64 ((m : Int) + 1))) (D + 1) (.loop (rc .ready none))
    have hs2 := hs.turned ht2 (fun i hi => by subst hi; omega) (by simp; omega)
    have hr2 := hr1.turned ht2 (fun i hi => by subst hi; omega)
    have hl2 : ((W.setCell ⟨w.heap.size + 4, 0, none⟩ (.int .i64 ((m : Int) + 1))).putObj (D + 1) (.loop (rc .ready none))).heap[D + 1]? = some (.loop (rc .ready none)) := World.putObj_heap_same (Array.getElem?_eq_some_iff.1 hb1).1
    have hd2 := (World.putObj_heap_other (o := .loop (rc .ready none)) (show D ≠ D + 1 by omega)).trans hd1
    have hs3 := St.set 0 (o := 0) (v := .string ⟨rest.toArray⟩) hs2 rfl
    have ht3 : Turn (fun k => k = w.heap.size + 5) _ (((W.setCell ⟨w.heap.size + 4, 0, none⟩ (.int .i64 ((m : Int) + 1))).putObj (D + 1) (.loop (rc .ready none))).setCell ⟨w.heap.size + 5, 0, none⟩ (.string ⟨rest.toArray⟩)) := (Turn.refl _ _).setCell (.inl rfl)
    refine ⟨rd, m + 1, L, ?_, hr2.turned ht3 (fun i hi => by subst hi; omega), (ht3.block _ (Array.getElem?_eq_some_iff.1 hl2).1 (by omega)).trans hl2, (ht3.block _ (Array.getElem?_eq_some_iff.1 hd2).1 (by omega)).trans hd2, hok, hl, ht⟩
    rw [Int.natCast_add]
    exact hs3
theorem zero_turn {M : Nat → Prop} {b : Nat} {W0 W : World} (h : Turn M W0 W) (hb : M b) :
    Turn M W0 (((((((W.setCell ⟨b, 0, none⟩ (.int .i64 0)).setCell ⟨b, 1, none⟩ (.int .i64 0)).setCell ⟨b, 2, none⟩ (.int .i64 0)).setCell ⟨b, 3, none⟩ (.int .i64 0)).setCell ⟨b, 4, none⟩ (.int .i64 0)).setCell ⟨b, 5, none⟩ (.slice none 0 0)).setCell ⟨b, 6, none⟩ (.slice none 0 0)) :=
  ((((((h.setCell (.inl hb)).setCell (.inl hb)).setCell (.inl hb)).setCell (.inl hb)).setCell (.inl hb)).setCell (.inl hb)).setCell (.inl hb)
/-- The script's zero is stored once more. -/
theorem RInv.zero {w : World} {D : Nat} {rc : LoopState → Option Code → Loop} {t : Bytes} {m : Int} {rd : Option Rd} {W : World} (hD : w.heap.size + 6 ≤ D) (h : RInv w D rc t m rd W) :
    RInv w D rc t m rd (((((((W.setCell ⟨w.heap.size, 0, none⟩ (.int .i64 0)).setCell ⟨w.heap.size, 1, none⟩ (.int .i64 0)).setCell ⟨w.heap.size, 2, none⟩ (.int .i64 0)).setCell ⟨w.heap.size, 3, none⟩ (.int .i64 0)).setCell ⟨w.heap.size, 4, none⟩ (.int .i64 0)).setCell ⟨w.heap.size, 5, none⟩ (.slice none 0 0)).setCell ⟨w.heap.size, 6, none⟩ (.slice none 0 0)) := by
  have ht : Turn (fun k => k = w.heap.size) W (((((((W.setCell ⟨w.heap.size, 0, none⟩ (.int .i64 0)).setCell ⟨w.heap.size, 1, none⟩ (.int .i64 0)).setCell ⟨w.heap.size, 2, none⟩ (.int .i64 0)).setCell ⟨w.heap.size, 3, none⟩ (.int .i64 0)).setCell ⟨w.heap.size, 4, none⟩ (.int .i64 0)).setCell ⟨w.heap.size, 5, none⟩ (.slice none 0 0)).setCell ⟨w.heap.size, 6, none⟩ (.slice none 0 0)) :=
    zero_turn (Turn.refl _ W) rfl
  refine ⟨St.set 4 (St.set 4 (St.set 4 (St.set 4 (St.set 4 (St.set 4 (St.set 4 h.st rfl) rfl) rfl) rfl) rfl) rfl) rfl, fun s e => (h.rdr s e).turned ht (fun i hi => by subst hi; omega), (ht.block _ (Array.getElem?_eq_some_iff.1 h.busy).1 (fun e => by omega)).trans h.busy, (ht.block _ (Array.getElem?_eq_some_iff.1 h.dfr).1 (fun e => by omega)).trans h.dfr⟩
/-- The round finds a line wrong. -/
theorem RInv.bad {w : World} {D : Nat} {rc : LoopState → Option Code → Loop} {t rest : Bytes} {m0 m e : Int} {rd : Option Rd} {W : World} {tgt : Sc × Int × Int} {a : Act} (hD : w.heap.size + 6 ≤ D) (h : RInv w D rc t m0 rd W)
    (ht : tgt = (Sc.zero, m, e)) : roundEnd (D + 1) rc (RoundR w D rc tgt t rest) .ret a ((W.setCell ⟨w.heap.size + 1, 0, none⟩ (.int .i64 m)).setCell ⟨w.heap.size + 1, 1, none⟩ (.int .i64 e)) := by
  have hk : Turn (fun k => k = w.heap.size + 1) W ((W.setCell ⟨w.heap.size + 1, 0, none⟩ (.int .i64 m)).setCell ⟨w.heap.size + 1, 1, none⟩ (.int .i64 e)) := ((Turn.refl (fun k => k = w.heap.size + 1) W).setCell (.inl rfl)).setCell (.inl rfl)
  have hb := (hk.block _ (Array.getElem?_eq_some_iff.1 h.busy).1 (fun e => by omega)).trans h.busy
  have hd := (hk.block _ (Array.getElem?_eq_some_iff.1 h.dfr).1 (fun e => by omega)).trans h.dfr
  have hs : St w ((W.setCell ⟨w.heap.size + 1, 0, none⟩ (.int .i64 m)).setCell ⟨w.heap.size + 1, 1, none⟩ (.int .i64 e)) [(w.heap.size + 1, #[.int .i64 m, .int .i64 e], 31), (w.heap.size, zSc, 28)] :=
    St.set 0 (St.set 0 (St.tail (St.tail (St.tail h.st))) rfl) rfl
  refine ⟨hb, .inr ⟨rfl, ⟨m, e, ?_, (World.putObj_heap_other (by omega)).trans hd, ht⟩, World.putObj_heap_same (Array.getElem?_eq_some_iff.1 hb).1⟩⟩
  exact hs.turned (Turn.putObj _ (D + 1) _) (fun i hi => by subst hi; omega) (by simp; omega)

theorem putObj_other {W : World} {D : Nat} {o o' : Obj} (hd : W.heap[D]? = some o) (hn : ∀ a t f, o ≠ .cells a t f) {a : Addr} {u : Value} (h : W.cell? a = some u) : (W.putObj D o').cell? a = some u := by
  have hne : a.block ≠ D := by
    rintro rfl
    unfold World.cell? at h
    rw [hd] at h
    cases o with
    | cells a t f => exact hn _ _ _ rfl
    | _ => simp at h
  rw [World.cell?_of_block (World.putObj_heap_other hne)]; exact h
theorem SlAt.put {W : World} {D : Nat} {o o' : Obj} (hd : W.heap[D]? = some o) (hn : ∀ a t f, o ≠ .cells a t f) {v : Value} {n : Nat} {cs : List Value} (h : SlAt W v n cs) : SlAt (W.putObj D o') v n cs := by
  obtain ⟨a, cap, e, hc, h⟩ := h
  exact ⟨a, cap, e, hc, fun h0 => by obtain ⟨b, o2, e2, h2⟩ := h h0; exact ⟨b, o2, e2, fun j u hu => putObj_other hd hn (h2 j u hu)⟩⟩
theorem ScAt.put {W : World} {D : Nat} {o o' : Obj} (hd : W.heap[D]? = some o) (hn : ∀ a t f, o ≠ .cells a t f) {cv av : Value} {x : Sc} (h : ScAt W cv av x) : ScAt (W.putObj D o') cv av x := by
  obtain ⟨h1, lvs, h2, h3, h4⟩ := h
  exact ⟨SlAt.put hd hn h1, lvs, h2, SlAt.put hd hn h3, fun i c lv hc hl => SlAt.put hd hn (h4 i c lv hc hl)⟩
theorem clRows_mem : ∀ {cs : List Cl} {lvs : List Value} {i : Nat} {c : Cl} {lv : Value}, cs[i]? = some c → lvs[i]? = some lv → (⟨9, 1, lv, c.lines.length, svals c.lines⟩ : Row) ∈ clRows cs lvs
  | [], _, i, c, lv, h, _ => by simp at h
  | _ :: _, [], i, c, lv, _, h => by simp at h
  | c0 :: cs, l0 :: lvs, 0, c, lv, h, h' => by
    simp only [List.getElem?_cons_zero, Option.some.injEq] at h h'
    subst h h'
    simp [clRows]
  | c0 :: cs, l0 :: lvs, i + 1, c, lv, h, h' => by
    simp only [List.getElem?_cons_succ] at h h'
    simp only [clRows, List.mem_cons]
    exact .inr (clRows_mem h h')
theorem RdrAt.scAt {base rb : Nat} {w : World} {s : Rd} {cv av : Value} {lvs : List Value} (h : RdrAt base rb w s cv av lvs) : ScAt w cv av s.x :=
  ⟨(h.rows.own ⟨67, 4, av, s.x.acts.length, acVals s.x.acts⟩ (by simp [rdRows])).slAt, lvs, h.len, (h.rows.own ⟨48, 2, cv, s.x.clients.length, clVals s.x.clients lvs⟩ (by simp [rdRows])).slAt,
    fun i c lv hc hl => (h.rows.own ⟨9, 1, lv, c.lines.length, svals c.lines⟩ (by simp only [rdRows, List.mem_cons]; exact .inr (.inr (clRows_mem hc hl)))).slAt⟩
/-- The end: the two results are read. -/
theorem parse_end {w W : World} {D : Nat} {r : Sc × Int × Int} {cv av : Value} {tmps : Array Value} (h2 : tmps[2]? = some (.pointer (some ⟨w.heap.size, 0, none⟩))) (h3 : tmps[3]? = some (.pointer (some ⟨w.heap.size + 1, 0, none⟩)))
    (hd : W.heap[D]? = some (.deferred (some []))) (hD : w.heap.size + 6 ≤ D)
    (hs : St w W [(w.heap.size + 1, #[.int .i64 r.2.1, .int .i64 r.2.2], 31), (w.heap.size, #[.int .i64 r.1.lines, .int .i64 r.1.most, .int .i64 r.1.room, .int .i64 r.1.delay, .int .i64 r.1.buckets, cv, av], 28)])
    (hsc : ScAt W cv av r.1) : bodyPostM Fence.wide 5 Tryz.prog Tryz.f11 (ParseRes r w) .ret { tmps := tmps, defers := [{ target := .collected D, args := #[] }] } W := by
  have hs2 := hs.turned (Turn.putObj W D (.deferred none)) (fun i hi => by subst hi; omega) (by simp; omega)
  have F := hs2.facts
  simp only [St.Facts, cellFacts, apartFacts, and_true] at F
  refine ⟨by simp, .inl ⟨_, _, rfl, run_takeDeferred hd, ?_⟩⟩
  refine ⟨.tuple #[scVal r.1 cv av, prVal r.2.1 r.2.2], ?_, _, _, rfl, hsc.put hd (by simp), hs2.below⟩
  simp [results, Tryz.results11, go_sem, scVal, prVal, h2, h3, F]
set_option maxRecDepth 100000 in
set_option maxHeartbeats 2000000 in
theorem parse_in (s : ByteArray) (hs : s.size ≤ 200000) (w : World) (he : Env w) : CallsIn Fence.wide 5 Tryz.prog 11 #[.string s] w (ParseRes (readAll Rd.start 0 (lns s.data.toList)) w) := by
  have HE := Lib.hid he
  have hN : 13 ≤ w.heap.size := he.size
  clear he
  obtain ⟨tgt, HTG⟩ : ∃ tgt, Hid (readAll Rd.start 0 (lns s.data.toList) = tgt) := ⟨_, rfl⟩
  rw [HTG.out]
  refine callsIn_of_wp_marks Tryz.func11 rfl trivial ?_ rfl
  simp only [Tryz.ntmps11, List.size_toArray, List.length_cons, List.length_nil, Nat.reduceAdd, Nat.reduceSub, Array.replicate_succ, Array.replicate_zero, List.push_toArray, List.append_toArray, List.nil_append, List.cons_append]
  gi_wp2
  refine ⟨trivial, ?_⟩
  refine CallsIn.mono (callsIn_wide.2 (lines_any s _)) ?_
  rintro e w1 ⟨rfl, rfl⟩
  gi_wp2
  refine St.genIn (St.alloc (St.alloc (St.alloc (St.alloc (St.alloc (St.alloc (St.start w))))))) ?_
  intro W0 S0
  simp only [World.size_alloc, Nat.add_assoc, Nat.reduceAdd] at S0 ⊢
  have hD : W0.heap.size = W0.heap.size := rfl
  have hD6 : w.heap.size + 6 ≤ W0.heap.size := by
    have := (Array.getElem?_eq_some_iff.1 (S0.out.blk 0 rfl)).1
    omega
  refine wpIn_range_wide (by decide) (gf := 39) (lb := #[.pointer (some ⟨w.heap.size + 5, 0, none⟩)]) rfl (enters_of Tryz.func39 (by kernel_rfl) rfl)
    (fun rc W => PInv w W0.heap.size rc tgt [] W) (fun rc W => PBad w W0.heap.size tgt W) ?_ ?_ ?_
  · intro rc hround
    have HR := Lib.hid hround
    clear hround
    refine CallsIn.mono (lines1_in 4 (W0.heap.size + 1) (w.heap.size + 5) (fun t W => PInv w W0.heap.size rc tgt t W) (fun W => PBad w W0.heap.size tgt W ∧ W.heap[W0.heap.size + 1]? = some (.loop (rc .done (some .ret)))) ?_ ?_ ?_ s.data.toList _ ?_) ?_
    · rintro t W ⟨rd, m, L, h1, h2, h3, h4, h5, h6, h7⟩
      exact ⟨h1.blk 0 rfl, HE.out.kept h1.below, by omega⟩
    · intro t W k h; exact h.turned (Below.drewN _ _ _)
    · intro t line rest whole W hJ hne hlns hline hrest hll hw
      obtain ⟨rd, m, L, h1, h2, h3, h4, h5, h6, h7⟩ := hJ
      refine HR.out W _ _ h3 rfl ?_
      have H1 := Lib.hid h1
      have H2 := Lib.hid h2
      have H3 := Lib.hid h3
      have H4 := Lib.hid h4
      have H5 := Lib.hid h5
      have HW := Lib.hid hw
      rw [hlns] at h7
      have H7 := Lib.hid h7
      have HL := Lib.hid hline
      clear h1 h2 h3 h4 h5 h7 hlns hw hline
      gi_wp2
      refine ⟨H3.out, ?_⟩
      have HI := Lib.hid (RInv.begin hD6 H1.out H2.out H3.out H4.out)
      generalize W.putObj (W0.heap.size + 1) (.loop (rc .busy none)) = Wb at HI ⊢
      change Code.wpIn _ _ _ _ (roundEnd (W0.heap.size + 1) rc (RoundR w W0.heap.size rc tgt t rest)) _ _
      clear H1 H2 H3 H4
      have hm1 : (m + 1) + rest.length ≤ 200000 := by omega
      have F := HI.out.st.facts
      simp only [St.Facts, cellFacts, apartFacts, and_true, zSc] at F
      cases hsk : skipped line with
      | true =>
        have HRA : Hid (readAny rd line = .ok rd) := by show _ = _; unfold readAny; rw [if_pos hsk]
        have H8 := H7.out
        simp only [readAll, HRA.out] at H8
        have hl : line = [] ∨ ∃ r, line = 35 :: r := by
          cases line with
          | nil => exact .inl rfl
          | cons c r => simp only [skipped, beq_iff_eq] at hsk; exact .inr ⟨r, by rw [hsk]⟩
        have H9 := Lib.hid H8
        clear H7 H8 hsk HRA HL
        cases whole with
        | true =>
          have H10 : Hid (readAll rd (m + 1) (lns rest) = tgt) := H9.out
          rcases hl with rfl | ⟨r, rfl⟩
          · gi_wp2
            exact HI.out.good hD6 H5.out hm1 H10.out
          · gi_wp2
            exact HI.out.good hD6 H5.out hm1 H10.out
        | false =>
          have H10 : Hid (tgt = (Sc.zero, (m : Int), 380)) := H9.out.symm
          rcases hl with rfl | ⟨r, rfl⟩
          all_goals
            have y4 : ∀ p : TurnW (fun k => k = w.heap.size) Wb, p.w.cell? ⟨w.heap.size + 4, 0, none⟩ = some (.int .i64 (m : Int)) := fun p => by
              have hb := HI.out.st.blk 1 rfl
              rw [World.cell?_of_block (a := ⟨w.heap.size + 4, 0, none⟩) (p.h.block _ (Array.getElem?_eq_some_iff.1 hb).1 (fun e => by simp at e))]
              simp only [World.cell?, hb]; rfl
            gi_wp2
            refine wpIn_region_mixedT (fun k => k = w.heap.size) 5 [(0, false), (1, false), (2, false), (3, false), (4, true)] (by kernel_rfl) (by kernel_rfl) (by kernel_rfl) ?_ ?_
            · rintro ⟨a, W, h⟩; exact h
            repeat (refine wpM_mildT rfl (fun K hK => ?_); go_simp; first | (refine hK _ ?_; clear hK K) | (apply Exists.intro; refine ⟨fun _ => ?_, hK _ ?_⟩; (fail); clear hK K))
            refine wpM_effT rfl ?_
            intro w2 hb2 ht2
            have HI2 := Lib.hid (HI.out.kept hb2)
            clear F y4 hb2
            have F := HI2.out.st.facts
            simp only [St.Facts, cellFacts, apartFacts, and_true, zSc] at F
            go_wp2_with fail
            refine ⟨zero_turn ht2 rfl, wpM_tailT ?_⟩
            intro w3 hb3 _
            have HI3 := Lib.hid ((HI2.out.zero hD6).kept hb3)
            clear F hb3 ht2
            have F := HI3.out.st.facts
            simp only [St.Facts, cellFacts, apartFacts, and_true, zSc] at F
            simp only [List.drop_succ_cons, List.drop_zero]
            go_wp2_with fail
            gi_wp2
            exact HI3.out.bad hD6 H10.out
      | false =>
        obtain ⟨c, r, rfl⟩ : ∃ c r, line = c :: r := by
          cases line with
          | nil => simp [skipped] at hsk
          | cons c r => exact ⟨c, r, rfl⟩
        have hc35 : c ≠ 35 := by intro e; subst e; simp [skipped] at hsk
        have q0 : 0 < (⟨(c :: r).toArray⟩ : ByteArray).size := by show 0 < (c :: r).toArray.size; simp
        have q1 : ((((⟨(c :: r).toArray⟩ : ByteArray)[0]'q0).toNat : Int) != 35) = true := by
          have h1 : c.toNat ≠ 35 := fun e => hc35 (UInt8.toNat_inj.1 (by rw [e]; rfl))
          have h2 : (⟨(c :: r).toArray⟩ : ByteArray)[0]'q0 = c := rfl
          rw [h2]; simp; omega
        have HRA : Hid (readAny rd (c :: r) = readLn rd (c :: r)) := readAny_ln hc35
        have HRN := Lib.hid (fun W v he hr hv => next_any (W0.heap.size + 2) (w.heap.size + 2) W rd L (c :: r) v he hr H5.out hv (by omega))
        obtain ⟨fk, HFK⟩ : ∃ fk, Hid (rdFn rd.ph = fk) := ⟨_, rfl⟩
        have HNX : Hid (rdNext (w.heap.size + 2) rd.ph = .func (.func fk) #[.pointer (some ⟨w.heap.size + 2, 0, none⟩)] #[]) := by
          show _ = _
          rw [← HFK.out]; rfl
        have hfn : ∀ args w, (callFunc fk args).run Tryz.prog w = .ok (.enter fk args) w := by
          rw [← HFK.out]; exact rdFn_enters rd.ph
        have y4 : ∀ p : TurnW (fun _ => False) Wb, p.w.cell? ⟨w.heap.size + 3, 0, none⟩ = some (.pointer (some ⟨w.heap.size + 2, 0, none⟩)) := fun p => by
          have hb := HI.out.st.blk 2 rfl
          rw [World.cell?_of_block (a := ⟨w.heap.size + 3, 0, none⟩) (p.h.block _ (Array.getElem?_eq_some_iff.1 hb).1 (fun e => e))]
          simp only [World.cell?, hb]; rfl
        have y5 : ∀ p : TurnW (fun _ => False) Wb, p.w.cell? ⟨w.heap.size + 2, 7, none⟩ = some (.func (.func fk) #[.pointer (some ⟨w.heap.size + 2, 0, none⟩)] #[]) := fun p => by
          obtain ⟨cv, av, lvs, hb⟩ := HI.out.rdr rd rfl
          rw [World.cell?_of_block (a := ⟨w.heap.size + 2, 7, none⟩) (p.h.block _ (Array.getElem?_eq_some_iff.1 hb.blk).1 (fun e => e))]
          rw [← HNX.out]
          simp only [World.cell?, hb.blk]; rfl
        have hcl : (c :: r).length ≤ 200000 := by omega
        clear hsk hc35
        gi_wp2
        refine wpIn_region_mixedT (fun _ => False) 7 [(0, false), (1, false), (2, false), (3, false), (4, false), (5, false), (6, true)] (by kernel_rfl) (by kernel_rfl) (by kernel_rfl) ?_ ?_
        · rintro ⟨a, W, h⟩; exact h
        repeat (refine wpM_mildT rfl (fun K hK => ?_); go_simp; first | (refine hK _ ?_; clear hK K) | (apply Exists.intro; refine ⟨fun _ => ?_, hK _ ?_⟩; (fail); clear hK K))
        refine wpM_effT rfl ?_
        intro w2 hb2 ht2
        have HI2 := Lib.hid (HI.out.kept hb2)
        have HE2 := Lib.hid (HE.out.kept HI2.out.st.below)
        clear y4 y5
        go_wp2_with fail
        refine Calls.mono (split_any (c :: r) (by omega) _ HE2.out) ?_
        rintro e w3 ⟨v3, rfl, hv3, hb3⟩
        have HI3 := Lib.hid (HI2.out.kept hb3)
        have HV3 := Lib.hid hv3
        go_wp2_with fail
        refine ⟨ht2.step hb3, wpM_tailT ?_⟩
        intro w4 hb4 _
        have HI4 := Lib.hid (HI3.out.kept hb4)
        have HV4 := Lib.hid (HV3.out.kept hb4)
        have HE4 := Lib.hid (HE.out.kept HI4.out.st.below)
        clear hb2 ht2 hb3 hb4 HI2 HI3 HE2 hv3 HV3 F
        simp only [List.drop_succ_cons, List.drop_zero]
        have C := Lib.hid (HRN.out w4 v3 HE4.out (HI4.out.rdr rd rfl) HV4.out)
        rw [HFK.out] at C
        go_wp2_with fail
        refine Calls.mono C.out ?_
        intro e w5 hres
        unfold RdRes at hres
        cases hrl : readLn rd (c :: r) with
        | error x =>
          rw [hrl] at hres HRA
          obtain ⟨rfl, ht5⟩ := hres
          have HI5 := Lib.hid (HI4.out.read hD6 ht5 (rd' := none) (fun s e => by cases e))
          have hx0 : x ≠ 0 := fun e => readAny_err (s := rd) (a := c :: r) (by rw [HRA.out, e])
          have q2 : (x == 0) = false := by simpa using hx0
          have q3 : (x != 0) = true := by simpa using hx0
          have H8 := H7.out
          simp only [readAll, HRA.out] at H8
          have H10 : Hid (tgt = (Sc.zero, (m : Int), x)) := H8.symm
          clear hrl ht5 H8 hx0 hD
          have y4 : ∀ p : TurnW (fun k => k = w.heap.size) w5, p.w.cell? ⟨w.heap.size + 4, 0, none⟩ = some (.int .i64 (m : Int)) := fun p => by
            have hb := HI5.out.st.blk 1 rfl
            rw [World.cell?_of_block (a := ⟨w.heap.size + 4, 0, none⟩) (p.h.block _ (Array.getElem?_eq_some_iff.1 hb).1 (fun e => by simp at e))]
            simp only [World.cell?, hb]; rfl
          go_wp2_with fail
          gi_wp2
          refine wpIn_region_mixedT (fun k => k = w.heap.size) 5 [(0, false), (1, false), (2, false), (3, false), (4, true)] (by kernel_rfl) (by kernel_rfl) (by kernel_rfl) ?_ ?_
          · rintro ⟨a, W, h⟩; exact h
          repeat (refine wpM_mildT rfl (fun K hK => ?_); go_simp; first | (refine hK _ ?_; clear hK K) | (apply Exists.intro; refine ⟨fun _ => ?_, hK _ ?_⟩; (fail); clear hK K))
          refine wpM_effT rfl ?_
          intro w6 hb6 ht6
          have HI6 := Lib.hid (HI5.out.kept hb6)
          clear y4 hb6
          have F := HI6.out.st.facts
          simp only [St.Facts, cellFacts, apartFacts, and_true, zSc] at F
          go_wp2_with fail
          refine ⟨zero_turn ht6 rfl, wpM_tailT ?_⟩
          intro w7 hb7 _
          have HI7 := Lib.hid ((HI6.out.zero hD6).kept hb7)
          clear F hb7 ht6
          have F := HI7.out.st.facts
          simp only [St.Facts, cellFacts, apartFacts, and_true, zSc] at F
          simp only [List.drop_succ_cons, List.drop_zero]
          go_wp2_with fail
          gi_wp2
          exact HI7.out.bad hD6 H10.out
        | ok s' =>
          rw [hrl] at hres HRA
          obtain ⟨rfl, hr5, ht5⟩ := hres
          have HI5 := Lib.hid (HI4.out.read hD6 ht5 (rd' := some s') (fun s e => by cases e; exact hr5))
          have HOK := Lib.hid (H5.out.step HL.out HRA.out)
          have H8 := H7.out
          simp only [readAll, HRA.out] at H8
          have H9 := Lib.hid H8
          clear hrl ht5 H8 hD hr5
          cases whole with
          | true =>
            have H10 : Hid (readAll s' (m + 1) (lns rest) = tgt) := H9.out
            have F := HI5.out.st.facts
            simp only [St.Facts, cellFacts, apartFacts, and_true, zSc] at F
            go_wp2_with fail
            gi_wp2
            exact HI5.out.good hD6 HOK.out hm1 H10.out
          | false =>
            have H10 : Hid (tgt = (Sc.zero, (m : Int), 380)) := H9.out.symm
            have y4 : ∀ p : TurnW (fun k => k = w.heap.size) w5, p.w.cell? ⟨w.heap.size + 4, 0, none⟩ = some (.int .i64 (m : Int)) := fun p => by
              have hb := HI5.out.st.blk 1 rfl
              rw [World.cell?_of_block (a := ⟨w.heap.size + 4, 0, none⟩) (p.h.block _ (Array.getElem?_eq_some_iff.1 hb).1 (fun e => by simp at e))]
              simp only [World.cell?, hb]; rfl
            go_wp2_with fail
            gi_wp2
            refine wpIn_region_mixedT (fun k => k = w.heap.size) 5 [(0, false), (1, false), (2, false), (3, false), (4, true)] (by kernel_rfl) (by kernel_rfl) (by kernel_rfl) ?_ ?_
            · rintro ⟨a, W, h⟩; exact h
            repeat (refine wpM_mildT rfl (fun K hK => ?_); go_simp; first | (refine hK _ ?_; clear hK K) | (apply Exists.intro; refine ⟨fun _ => ?_, hK _ ?_⟩; (fail); clear hK K))
            refine wpM_effT rfl ?_
            intro w6 hb6 ht6
            have HI6 := Lib.hid (HI5.out.kept hb6)
            clear y4 hb6
            have F := HI6.out.st.facts
            simp only [St.Facts, cellFacts, apartFacts, and_true, zSc] at F
            go_wp2_with fail
            refine ⟨zero_turn ht6 rfl, wpM_tailT ?_⟩
            intro w7 hb7 _
            have HI7 := Lib.hid ((HI6.out.zero hD6).kept hb7)
            clear F hb7 ht6
            have F := HI7.out.st.facts
            simp only [St.Facts, cellFacts, apartFacts, and_true, zSc] at F
            simp only [List.drop_succ_cons, List.drop_zero]
            go_wp2_with fail
            gi_wp2
            exact HI7.out.bad hD6 H10.out
    · have hb : Below W0.heap.size W0 ((W0.alloc (.deferred (some []))).alloc (.loop (rc .ready none))) := ((Below.refl _ _).alloc (Nat.le_refl _) _).alloc (by simp) _
      refine ⟨Rd.start, 0, [], ?_, ⟨.slice none 0 0, .slice none 0 0, [], ?_⟩, ?_, ?_, ReadOk.start, ?_, HTG.out⟩
      · exact (S0.out.kept hb).sub (.cons_cons _ (.cons_cons _ (.cons_cons _ (.cons _ (.cons_cons _ (.cons_cons _ .slnil))))))
      · refine ⟨by omega, by simp, by omega, hb.blk_kept (S0.out.blk 3 rfl), rfl, ?_⟩
        refine ⟨?_, by simp [rdRows, Row.blk, Value.ownBlock, clRows, Rd.start, Sc.zero]⟩
        intro r hr
        simp only [rdRows, Rd.start, Sc.zero, clRows, List.mem_cons, List.not_mem_nil, or_false] at hr
        rcases hr with rfl | rfl <;> exact World.ownsRow_nil _ _ _ _
      · have := World.alloc_heap_new (W0.alloc (.deferred (some []))) (.loop (rc .ready none)); rwa [World.size_alloc] at this
      · exact (Below.heap_alloc _ _ _ (by simp)).trans (World.alloc_heap_new W0 _)
      · simp; exact hs
    · rintro e W2 ⟨hv, h | h⟩
      · exact ⟨hv, .inl ⟨h, by obtain ⟨rd, m, L, h1, h2, h3, _⟩ := h; exact h3⟩⟩
      · exact ⟨hv, .inr h⟩
  · rintro rc W o ⟨rd, m, L, h1, h2, h3, h4, h5, h6, h7⟩ hl
    have htp := Turn.putObj W (W0.heap.size + 1) (.loop o)
    have S1 := Lib.hid (h1.turned htp (fun i hi => by subst hi; omega) (by simp; omega))
    have R1 := Lib.hid (h2.turned htp (fun i hi => by subst hi; omega))
    have D1 := Lib.hid ((World.putObj_heap_other (o := .loop o) (show W0.heap.size ≠ W0.heap.size + 1 by omega)).trans h4)
    generalize W.putObj (W0.heap.size + 1) (.loop o) = W2 at S1 R1 D1 ⊢
    have H7 := Lib.hid h7
    have H5 := Lib.hid h5
    clear h1 h2 h3 h4 h5 h7 htp hl
    obtain ⟨cv, av, lvs, hR⟩ := R1.out
    obtain ⟨a1, c1, rfl⟩ : ∃ a1 c1, cv = .slice a1 rd.x.clients.length c1 := by
      obtain ⟨a1, c1, e, _⟩ := (hR.rows.own _ (List.mem_cons_self ..)).slAt
      exact ⟨a1, c1, e⟩
    obtain ⟨a2, c2, rfl⟩ : ∃ a2 c2, av = .slice a2 rd.x.acts.length c2 := by
      obtain ⟨a2, c2, e, _⟩ := (hR.rows.own _ (List.mem_cons_of_mem _ (List.mem_cons_self ..))).slAt
      exact ⟨a2, c2, e⟩
    have HR := Lib.hid hR
    have F := S1.out.facts
    simp only [St.Facts, cellFacts, apartFacts, and_true, zSc] at F
    have G := cellFacts_of hR.blk (rdCells (w.heap.size + 2) rd (.slice a1 rd.x.clients.length c1) (.slice a2 rd.x.acts.length c2)).toList 0 (fun j => by simp)
    simp only [rdCells, cellFacts, and_true] at G
    clear hR hD
    have H8 := H7.out
    simp only [lns, readAll] at H8
    by_cases hp : rd.ph < 2
    · rw [if_pos hp] at H8
      have hp2 : decide (2 ≤ rd.ph) = false := by simp; omega
      have H9 := Lib.hid H8
      clear H8 hp
      gi_wp2
      gi_region
      gi_wp2
      have H10 : Hid (tgt = (Sc.zero, (m : Int), 380)) := H9.out.symm
      rw [H10.out]
      have S9 : St w W2 [(w.heap.size + 1, #[.int .i64 0, .int .i64 0], 31), (w.heap.size, zSc, 28)] := St.tail (St.tail (St.tail S1.out))
      have S10 := Lib.hid (St.set 0 (o := 1) (v := .int .i64 380) (St.set 0 (o := 0) (v := .int .i64 (m : Int)) (St.set 1 (o := 6) (v := .slice none 0 0) (St.set 1 (o := 5) (v := .slice none 0 0) (St.set 1 (o := 4) (v := .int .i64 0) (St.set 1 (o := 3) (v := .int .i64 0) (St.set 1 (o := 2) (v := .int .i64 0) (St.set 1 (o := 1) (v := .int .i64 0) (St.set 1 (o := 0) (v := .int .i64 0) S9 rfl) rfl) rfl) rfl) rfl) rfl) rfl) rfl) rfl)
      refine parse_end rfl rfl ?_ hD6 (S10.out.kept (Below.drewN _ _ 1)) (scAt_zero _)
      have ht := Turn.step ((((((((((Turn.refl (fun k => k = w.heap.size ∨ k = w.heap.size + 1) W2).setCell (o := 0) (v := .int .i64 0) (.inl (.inl rfl))).setCell (o := 1) (v := .int .i64 0) (.inl (.inl rfl))).setCell (o := 2) (v := .int .i64 0) (.inl (.inl rfl))).setCell (o := 3) (v := .int .i64 0) (.inl (.inl rfl))).setCell (o := 4) (v := .int .i64 0) (.inl (.inl rfl))).setCell (o := 5) (v := .slice none 0 0) (.inl (.inl rfl))).setCell (o := 6) (v := .slice none 0 0) (.inl (.inl rfl))).setCell (o := 0) (v := .int .i64 (m : Int)) (.inl (.inr rfl))).setCell (o := 1) (v := .int .i64 380) (.inl (.inr rfl))) (Below.drewN _ _ 1)
      exact (ht.block _ (Array.getElem?_eq_some_iff.1 D1.out).1 (fun e => by rcases e with e | e <;> omega)).trans D1.out
    · rw [if_neg hp] at H8
      have hp2 : decide (2 ≤ rd.ph) = true := by simp; omega
      have H9 := Lib.hid H8
      clear H8 hp
      gi_wp2
      have H10 : Hid (tgt = (rd.x, 0, 0)) := H9.out.symm
      rw [H10.out]
      have S9 : St w W2 [(w.heap.size + 1, #[.int .i64 0, .int .i64 0], 31), (w.heap.size, zSc, 28)] := St.tail (St.tail (St.tail S1.out))
      have S10 := Lib.hid (St.set 0 (o := 1) (v := .int .i64 0) (St.set 0 (o := 0) (v := .int .i64 0) (St.set 1 (o := 6) (v := .slice a2 rd.x.acts.length c2) (St.set 1 (o := 5) (v := .slice a1 rd.x.clients.length c1) (St.set 1 (o := 4) (v := .int .i64 rd.x.buckets) (St.set 1 (o := 3) (v := .int .i64 rd.x.delay) (St.set 1 (o := 2) (v := .int .i64 rd.x.room) (St.set 1 (o := 1) (v := .int .i64 rd.x.most) (St.set 1 (o := 0) (v := .int .i64 rd.x.lines) S9 rfl) rfl) rfl) rfl) rfl) rfl) rfl) rfl) rfl)
      have ht := (((((((((Turn.refl (fun k => k = w.heap.size ∨ k = w.heap.size + 1) W2).setCell (o := 0) (v := .int .i64 rd.x.lines) (.inl (.inl rfl))).setCell (o := 1) (v := .int .i64 rd.x.most) (.inl (.inl rfl))).setCell (o := 2) (v := .int .i64 rd.x.room) (.inl (.inl rfl))).setCell (o := 3) (v := .int .i64 rd.x.delay) (.inl (.inl rfl))).setCell (o := 4) (v := .int .i64 rd.x.buckets) (.inl (.inl rfl))).setCell (o := 5) (v := .slice a1 rd.x.clients.length c1) (.inl (.inl rfl))).setCell (o := 6) (v := .slice a2 rd.x.acts.length c2) (.inl (.inl rfl))).setCell (o := 0) (v := .int .i64 0) (.inl (.inr rfl))).setCell (o := 1) (v := .int .i64 0) (.inl (.inr rfl))
      refine parse_end rfl rfl ?_ hD6 S10.out (HR.out.turned ht (fun i hi => by rcases hi with rfl | rfl <;> omega)).scAt
      exact (ht.block _ (Array.getElem?_eq_some_iff.1 D1.out).1 (fun e => by rcases e with e | e <;> omega)).trans D1.out
  · rintro rc W o ⟨m, e, h1, h2, h3⟩ hl
    rw [h3]
    have htp := Turn.putObj W (W0.heap.size + 1) (.loop o)
    have S1 := Lib.hid (h1.turned htp (fun i hi => by subst hi; omega) (by simp; omega))
    have D1 := Lib.hid ((World.putObj_heap_other (o := .loop o) (show W0.heap.size ≠ W0.heap.size + 1 by omega)).trans h2)
    gi_wp2
    exact parse_end rfl rfl D1.out hD6 S1.out (scAt_zero _)
theorem parse_any (s : ByteArray) (w : World) (he : Env w) : Calls Tryz.prog 11 #[.string s] w (ParseRes (parse s.data.toList) w) := by
  have hl : s.data.toList.length = s.size := by simp
  unfold parse
  by_cases h : 200000 < s.size
  · rw [if_pos (by omega)]; exact parse_big s h w
  · rw [if_neg (by omega)]; exact callsIn_wide.1 (parse_in s (by omega) w he)
end Go.Proofs.YtialgdnkkjmpbaaGreatDoor
