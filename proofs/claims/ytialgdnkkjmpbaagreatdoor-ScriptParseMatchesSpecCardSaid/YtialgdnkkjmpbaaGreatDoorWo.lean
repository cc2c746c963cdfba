/-
  Walks: Print of the package script. Conditions: the variables of the program's text are there, the text is not too long for any count. The memory that was there is as it was.
-/
import Derived.Test.YtialgdnkkjmpbaaGreatDoorWn
import Derived.Test.YtialgdnkkjmpbaaGreatDoorPlainA
namespace Go.Proofs.YtialgdnkkjmpbaaGreatDoor
open Go.RowKit Go.Sort

def PrintRes (r : Bytes × Int) (w : World) (e : Ending) (w' : World) : Prop := e = .returned (.tuple #[.string ⟨r.1.toArray⟩, .int .i64 r.2]) ∧ Below w.heap.size w w'
theorem slIn_blk {w : World} {b nb : Nat} {cs : Array Value} {t : TypeId} {fr : Nat × Nat} (h : w.heap[nb]? = some (.cells cs t fr)) (ht : t ≠ 5) (hb : nb ≠ b) (n cap m : Nat) (l : List Value) (hn : n ≤ cap) (hm : n = m) (hl : cs.toList.take n = l) (_hn2 : n ≤ cs.size) :
    SlIn (fun k => k ≠ b ∧ ∀ c fz, w.heap[k]? ≠ some (.cells c 5 fz)) w (.slice (some ⟨nb, 0, none⟩) n cap) m l := by
  subst hm hl
  refine ⟨_, cap, rfl, hn, fun _ => ⟨nb, 0, rfl, ⟨hb, fun c fz e => ?_⟩, fun j u hu => ?_⟩⟩
  · rw [h] at e
    simp only [Option.some.injEq, Obj.cells.injEq] at e
    exact ht e.2.1
  · rw [List.getElem?_take] at hu
    split at hu
    · simp only [World.cell?, h, Nat.zero_add]; simpa using hu
    · cases hu
/-- Between two lines: the box of the script, and the builder with what is written. -/
structure Pr (w : World) (bx : Array Value) (b : Nat) (C : Bytes) (L : List Blk) (W : World) : Prop where
  st : St w W (L ++ [(w.heap.size, bx, 28)])
  lt : w.heap.size < b
  bld : Bld b b C W
  ok : ∀ x ∈ L, b < x.1 ∧ x.2.2 ≠ 5
theorem Pr.kept {w W W' : World} {bx : Array Value} {b : Nat} {C : Bytes} {L : List Blk} (h : Pr w bx b C L W) (hb : Below W.heap.size W W') : Pr w bx b C L W' := ⟨h.st.kept hb, h.lt, h.bld.kept hb, h.ok⟩
theorem Pr.alloc {w W : World} {bx : Array Value} {b : Nat} {C : Bytes} {L : List Blk} {cs : Array Value} {t : TypeId} (h : Pr w bx b C L W) (ht : t ≠ 5) : Pr w bx b C ((W.heap.size, cs, t) :: L) (W.alloc (.cells cs t)) :=
  ⟨h.st.alloc, h.lt, h.bld.kept ((Below.refl _ _).alloc (Nat.le_refl _) _), fun x hx => by
    rcases List.mem_cons.1 hx with rfl | hx
    · exact ⟨h.bld.lt, ht⟩
    · exact h.ok x hx⟩
theorem Pr.tail {w W : World} {bx : Array Value} {b : Nat} {C : Bytes} {x : Blk} {L : List Blk} (h : Pr w bx b C (x :: L) W) : Pr w bx b C L W := ⟨h.st.tail, h.lt, h.bld, fun y hy => h.ok y (List.mem_cons_of_mem _ hy)⟩
theorem Pr.wrote {w W W' : World} {bx : Array Value} {b : Nat} {C C' : Bytes} {L : List Blk} (h : Pr w bx b C L W) (h1 : Bld b b C' W') (hb : Below b W W') (hk : Lib.OthersKept 5 (some b) W W') : Pr w bx b C' L W' :=
  ⟨St.wrote h.st hb hk (by have := h.lt; omega) (fun x hx => by
    rcases List.mem_append.1 hx with hx | hx
    · exact ⟨by have := (h.ok x hx).1; omega, (h.ok x hx).2⟩
    · simp only [List.mem_singleton] at hx; subst hx; exact ⟨by have := h.lt; simp only; omega, by show (28 : Nat) ≠ 5; decide⟩), h.lt, h1, h.ok⟩
theorem Pr.own {w W W' : World} {bx : Array Value} {b fb : Nat} {C : Bytes} {L : List Blk} {cs : Array Value} {t : TypeId} (h : Pr w bx b C L W) (hb : Below W.heap.size W W') (h1 : W.heap.size ≤ fb) (h2 : W'.heap[fb]? = some (.cells cs t (0, 0))) (ht : t ≠ 5) : Pr w bx b C ((fb, cs, t) :: L) W' := by
  have hk := h.kept hb
  refine ⟨⟨hk.st.below, fun x hx => ?_, ?_⟩, h.lt, hk.bld, fun x hx => ?_⟩
  · rcases List.mem_cons.1 hx with rfl | hx
    · exact ⟨Nat.le_trans h.st.below.size h1, h2⟩
    · exact hk.st.own x hx
  · simp only [List.cons_append, List.map_cons, List.nodup_cons]
    refine ⟨fun hm => ?_, h.st.apart⟩
    obtain ⟨x, hx, e⟩ := List.mem_map.1 hm
    have := (Array.getElem?_eq_some_iff.1 (h.st.own x hx).2).1
    omega
  · rcases List.mem_cons.1 hx with rfl | hx
    · exact ⟨Nat.lt_of_lt_of_le h.bld.lt h1, ht⟩
    · exact h.ok x hx
theorem turnW_cell {W : World} (p : TurnW (fun _ => False) W) {a : Addr} {v : Value} (h : W.cell? a = some v) : p.w.cell? a = some v := p.h.below.cell_kept h
theorem acVals_cells {W : World} {b o : Nat} {l : List Ac} {a : Ac} (h : CellsAt W b o (acVals l)) (h0 : l[0]? = some a) : W.cell? ⟨b, o, none⟩ = some (.int .i64 a.k) ∧ W.cell? ⟨b, o + 1, none⟩ = some (.int .i64 a.a) ∧ W.cell? ⟨b, o + 2, none⟩ = some (.int .i64 a.b) ∧ W.cell? ⟨b, o + 3, none⟩ = some (.int .i64 a.c) := by
  have := acVals_at h h0
  simpa using this
theorem acVals_drop (l : List Ac) : ∀ n, acVals (l.drop n) = (acVals l).drop (n * 4) := by
  induction l with
  | nil => intro n; simp [acVals]
  | cons a l ih =>
    intro n
    cases n with
    | zero => simp
    | succ n =>
      rw [List.drop_succ_cons, ih n, show (n + 1) * 4 = n * 4 + 4 by omega]
      simp [acVals]
theorem bld_len (B b : Nat) (l : Bytes) (w : World) (h : Bld B b l w) : Calls Tryz.prog 29 #[.pointer (some ⟨b, 0, none⟩)] w fun e w' => e = .returned (.int .i64 (l.length : Int)) ∧ w = w' := by
  refine (Any.Builder_Len_f Tryz.lays170 B b _ w h).mono ?_
  rintro e w' ⟨rfl, rfl⟩
  exact ⟨by rw [Lib.byteCells_length], rfl⟩
theorem bld_string (B b : Nat) (l : Bytes) (w : World) (h : Bld B b l w) (hBw : B ≤ w.heap.size) : Calls Tryz.prog 30 #[.pointer (some ⟨b, 0, none⟩)] w fun e w' => e = .returned (.string ⟨l.toArray⟩) ∧ Below B w w' := by
  refine (Any.Builder_String_any_f Tryz.lays169 Tryz.Builder_Extra_169 B b l w h hBw).mono ?_
  rintro e w' ⟨rfl, _, hb⟩
  exact ⟨rfl, hb⟩
/-- A line is written whose numbers lie in the newest block. -/
theorem Pr.line {w W : World} {bx : Array Value} {b : Nat} {C s : Bytes} {L : List Blk} {nb n cap : Nat} {cs : Array Value} {t : TypeId} {ns : List Int} (h : Pr w bx b C ((nb, cs, t) :: L) W) (he : Env w) (hn : n ≤ cap) (hm : n = ns.length) (hl : cs.toList.take n = zvals ns) (hn2 : n ≤ cs.size) (hw : ∀ n ∈ ns, isW n = true)
    (hlen : (C ++ s ++ pNums ns).length ≤ 1000000000) :
    Calls Tryz.prog 25 #[.string ⟨s.toArray⟩, .slice (some ⟨nb, 0, none⟩) n cap, .pointer (some ⟨b, 0, none⟩)] W fun e W' => e = .returned (.tuple #[]) ∧ Pr w bx b (C ++ s ++ pNums ns) L W' := by
  have hx := h.ok _ (List.mem_cons_self ..)
  have := h.bld.lt
  have := he.size
  have := h.lt
  refine (line_any b b C s _ ns W (he.kept h.st.below) h.bld (by omega) (by omega) (slIn_blk (h.st.blk 0 rfl) hx.2 (by have := hx.1; simp only at this; omega) n cap _ _ hn hm hl hn2) hw hlen).mono ?_
  rintro e W' ⟨rfl, h1, h2, h3⟩
  exact ⟨rfl, h.tail.wrote h1 h2 h3⟩
theorem Pr.put {w W : World} {bx : Array Value} {b : Nat} {C s : Bytes} {L : List Blk} (h : Pr w bx b C L W) (hlen : (C ++ s).length ≤ 1000000000) :
    Calls Tryz.prog 26 #[.pointer (some ⟨b, 0, none⟩), .string ⟨s.toArray⟩] W fun e W' => e = .returned (.tuple #[.int .i64 s.length, .nilIface]) ∧ Pr w bx b (C ++ s) L W' := by
  refine (write_any b b C s W h.bld (by simpa using hlen) (by have := h.bld.lt; omega)).mono ?_
  rintro e W' ⟨rfl, h1, h2, h3⟩
  exact ⟨rfl, h.wrote h1 h2 h3⟩
theorem print_bad (x : Sc) (cv av : Value) (w : World) (he : Env w) (h : ScAt w cv av x) (hm : Modest x) (hf : x.formed = false) : Calls Tryz.prog 15 #[scVal x cv av] w (PrintRes ([], eForm) w) := by
  have C := Lib.hid (fun w he h => isFormed_any x cv av w he h hm)
  rw [hf] at C
  have HE := Lib.hid he
  have HS := Lib.hid h
  obtain ⟨hav, lvs, hlen, hcv, hlv⟩ := h
  obtain ⟨aa, ac, rfl, hac, _⟩ := hav
  obtain ⟨ca, cc, rfl, hcc, _⟩ := hcv
  have S0 : Hid (St w w []) := St.start w
  unfold scVal at C ⊢
  clear he hlv hlen hf
  go_enter Tryz.func15, Tryz.ntmps15
  go_wp2_with fail
  refine Calls.mono (C.out _ (HE.out.kept ((Below.refl _ _).alloc (Nat.le_refl _) _)) (HS.out.kept ((Below.refl _ _).alloc (Nat.le_refl _) _))) ?_
  rintro e w1 ⟨rfl, hb1⟩
  refine St.call (St.alloc (S0.out)) hb1 ?_
  intro S1
  clear hb1
  try (simp only [List.set_cons_zero, List.set_cons_succ, List.setIfInBounds_toArray, World.size_alloc] at S1)
  go_wp2_with fail
  go_returns
  exact ⟨rfl, S1.out.below⟩
theorem Pr.start {w W : World} {bx : Array Value} (h : St w W [(w.heap.size, bx, 28)]) : Pr w bx W.heap.size [] [] (W.alloc (.cells #[.pointer none, .slice none 0 0] 70)) :=
  ⟨h.laid, (Array.getElem?_eq_some_iff.1 (h.blk 0 rfl)).1, Bld.fresh W, by simp⟩
structure FormedX (x : Sc) : Prop where
  l : isW x.lines = true
  s : ∀ n ∈ [x.most, x.room, x.delay, x.buckets], isW n = true
  cn : x.clients.length ≤ 8
  an : x.acts.length ≤ 2000
  c : ∀ c ∈ x.clients, isW c.tries = true ∧ c.lines.length ≤ 100
  a : ∀ a ∈ x.acts, a.right = true
theorem formedX {x : Sc} (h : x.formed = true) : FormedX x := by
  unfold Sc.formed at h
  simp only [Bool.and_eq_true, decide_eq_true_eq] at h
  obtain ⟨⟨⟨⟨⟨⟨⟨⟨h1, h2⟩, h3⟩, h4⟩, h5⟩, h6⟩, h7⟩, h8⟩, h9⟩ := h
  refine ⟨h1, by simp [h2, h3, h4, h5], h6, h7, fun c hc => ?_, fun a ha => List.all_eq_true.1 h9 a ha⟩
  have := List.all_eq_true.1 h8 c hc
  unfold Cl.formed at this
  simp only [Bool.and_eq_true, decide_eq_true_eq] at this
  exact this.1
theorem pre_len {C D F : Bytes} (h : C ++ D = F) (hb : F.length ≤ 900000000) (s : Bytes) (E : Bytes) (hs : D = s ++ E) : (C ++ s).length ≤ 1000000000 := by
  subst h hs
  simp at hb ⊢
  omega
def lenOf : Value → Nat
  | .slice _ n _ => n
  | _ => 0
set_option maxRecDepth 100000 in
set_option maxHeartbeats 4000000 in
theorem print_good (x : Sc) (cv av : Value) (w : World) (he : Env w) (h : ScAt w cv av x) (hm : Modest x) (hf : x.formed = true) (hbig : (body x).length ≤ 900000000) : Calls Tryz.prog 15 #[scVal x cv av] w (PrintRes (if 200000 < (text x).length then ([], eLimit) else (text x, 0)) w) := by
  have C := Lib.hid (fun w he h => isFormed_any x cv av w he h hm)
  rw [hf] at C
  have HX := Lib.hid (formedX hf)
  have HE := Lib.hid he
  have HS := Lib.hid h
  have HBD : Hid (body x = body x) := rfl
  obtain ⟨FB, HFB⟩ : ∃ FB, Hid (FB = body x) := ⟨_, rfl⟩
  have HBG : Hid (FB.length ≤ 900000000) := by show _ ≤ _; rw [HFB.out]; exact hbig
  have HTX : Hid (text x = FB ++ [10]) := by show _ = _; rw [HFB.out]; exact text_body x
  have H00 : Hid ([] ++ (line0 x ++ nl (line1 x :: (x.clients.flatMap Cl.text ++ actLines x.acts))) = FB) := by show _ = _; rw [HFB.out]; rfl
  obtain ⟨hav, lvs, hlen, hcv, hlv⟩ := h
  have HAV := Lib.hid hav
  obtain ⟨aa, ac, rfl, hac, hacells⟩ := hav
  obtain ⟨ca, cc, rfl, hcc, hcells⟩ := hcv
  have HC := Lib.hid hcells
  have HLV := Lib.hid hlv
  have HLN := Lib.hid hlen
  have S0 : Hid (St w w []) := St.start w
  have hcn := HX.out.cn
  have han := HX.out.an
  unfold scVal at C ⊢
  obtain ⟨R, HR⟩ : ∃ R, Hid (R = if 200000 < (text x).length then ([], eLimit) else (text x, 0)) := ⟨_, rfl⟩
  rw [← HR.out]
  clear he hlv hlen hf hcells hacells hbig HBD hm
  go_enter Tryz.func15, Tryz.ntmps15
  go_wp2_with fail
  refine Calls.mono (C.out _ (HE.out.kept ((Below.refl _ _).alloc (Nat.le_refl _) _)) (HS.out.kept ((Below.refl _ _).alloc (Nat.le_refl _) _))) ?_
  rintro e w1 ⟨rfl, hb1⟩
  refine St.call (St.alloc (S0.out)) hb1 ?_
  intro S1
  clear hb1
  try (simp only [List.set_cons_zero, List.set_cons_succ, List.setIfInBounds_toArray, World.size_alloc] at S1)
  have hbW : w.heap.size < w1.heap.size := (Array.getElem?_eq_some_iff.1 (S1.out.blk 0 rfl)).1
  have P1 := Lib.hid (Pr.start S1.out)
  have F1 := S1.out.facts
  simp only [St.Facts, cellFacts, apartFacts, and_true] at F1
  clear C
  go_wp2_with fail
  have C0 := Lib.hid (Pr.line (s := wLines) (ns := [x.lines]) (n := 1) (cap := 1) (Pr.alloc (cs := #[.int .i64 x.lines]) (t := 3) P1.out (by decide)) HE.out (Nat.le_refl _) rfl rfl (Nat.le_refl _) (by simp; exact HX.out.l) (pre_len H00.out HBG.out (line0 x) _ rfl))
  simp only [World.size_alloc] at C0
  refine Calls.mono C0.out ?_
  clear C0 F1 P1 S1
  generalize w1.heap.size = b at *
  rintro e w2 ⟨rfl, p2⟩
  have P2 : Hid (Pr w _ b (line0 x) [] w2) := p2
  clear p2
  have H01 : Hid (line0 x ++ ((10 :: wSet) ++ pNums [x.most, x.room, x.delay, x.buckets] ++ nl (x.clients.flatMap Cl.text ++ actLines x.acts)) = FB) := by
    show _ = _
    rw [← H00.out, nl_cons]; simp [line1]
  have F2 := P2.out.st.facts
  simp only [List.nil_append, St.Facts, cellFacts, apartFacts, and_true] at F2
  clear H00
  have C1 := Lib.hid (Pr.line (s := 10 :: wSet) (ns := [x.most, x.room, x.delay, x.buckets]) (n := 4) (cap := 4) (Pr.alloc (cs := #[.int .i64 x.most, .int .i64 x.room, .int .i64 x.delay, .int .i64 x.buckets]) (t := 3) P2.out (by decide)) HE.out (Nat.le_refl _) rfl rfl (Nat.le_refl _) HX.out.s (by rw [List.append_assoc]; exact pre_len H01.out HBG.out _ _ rfl))
  go_wp2_with fail
  refine Calls.mono C1.out ?_
  clear C1 F2 P2
  rintro e w3 ⟨rfl, p3⟩
  obtain ⟨C3, HC3⟩ : ∃ C3, Hid (line0 x ++ (10 :: wSet) ++ pNums [x.most, x.room, x.delay, x.buckets] = C3) := ⟨_, rfl⟩
  rw [HC3.out] at p3
  have P3 := Lib.hid p3
  have H02 : Hid (C3 ++ nl (x.clients.flatMap Cl.text ++ actLines x.acts) = FB) := by
    show _ = _
    rw [← HC3.out, ← H01.out]; simp
  clear p3 H01 HC3
  have F3 := P3.out.st.facts
  simp only [List.nil_append, St.Facts, cellFacts, apartFacts, and_true] at F3
  go_wp2_with fail
  clear F3
  go_loopw [7, 9, 40, 52] (fun _ _ i _ wr => ∃ (k : Nat) (C : Bytes), k ≤ x.clients.length ∧ i = .int .i64 k ∧ Hid (C ++ nl ((x.clients.drop k).flatMap Cl.text ++ actLines x.acts) = FB) ∧ Hid (Pr w #[.int .i64 x.lines, .int .i64 x.most, .int .i64 x.room, .int .i64 x.delay, .int .i64 x.buckets, .slice ca x.clients.length cc, .slice aa x.acts.length ac] b C [] wr)) (fun _ _ i _ _ => x.clients.length - (intOf i).toNat)
  case atStart => exact ⟨0, C3, by omega, rfl, H02.out, P3.out⟩
  case round =>
    obtain ⟨k, C, hk, rfl, HB, PR⟩ := hrel
    by_cases hlt : k < x.clients.length
    · obtain ⟨b1, o1, rfl, hat⟩ := HC.out (by omega)
      obtain ⟨c, hc⟩ : ∃ c, x.clients[k]? = some c := ⟨x.clients[k], by simp [hlt]⟩
      obtain ⟨lv, hl⟩ : ∃ lv, lvs[k]? = some lv := ⟨lvs[k]'(by rw [HLN.out]; exact hlt), List.getElem?_eq_getElem _⟩
      obtain ⟨x0, x1⟩ := clVals_at (hat.kept PR.out.st.below) hc hl
      have hS := HLV.out k c lv hc hl
      have HS := Lib.hid hS
      obtain ⟨la, lc, rfl, hlc, hlcells⟩ := hS
      have HLC := Lib.hid hlcells
      obtain ⟨htr, hl100⟩ := HX.out.c c (List.mem_of_getElem? hc)
      have HTR := Lib.hid htr
      have HST : Hid (C ++ ((10 :: wClient) ++ pNums [c.tries] ++ nl (c.lines.map (fun l => [124, 32] ++ l) ++ ((x.clients.drop (k + 1)).flatMap Cl.text ++ actLines x.acts))) = FB) := by
        show _ = _
        rw [← HB.out]
        obtain ⟨h1, rfl⟩ := List.getElem?_eq_some_iff.1 hc
        rw [List.drop_eq_getElem_cons h1, List.flatMap_cons, Cl.text]
        simp [nl]
      clear hc hl hat HB htr hlcells
      have C1 := Lib.hid (Pr.line (s := 10 :: wClient) (ns := [c.tries]) (n := 1) (cap := 1) (Pr.alloc (cs := #[.int .i64 c.tries]) (t := 3) (Pr.alloc (cs := #[.int .i64 c.tries, .slice la c.lines.length lc]) (t := 48) PR.out (by decide)) (by decide)) HE.out (Nat.le_refl _) rfl rfl (Nat.le_refl _) (by simp; exact HTR.out) (by rw [List.append_assoc]; exact pre_len HST.out HBG.out _ _ rfl))
      simp only [World.size_alloc] at C1
      go_wp2_with fail
      refine Calls.mono C1.out ?_
      clear C1 x0 x1
      rintro e w4 ⟨rfl, p4⟩
      obtain ⟨C4, HC4⟩ : ∃ C4, Hid (C ++ (10 :: wClient) ++ pNums [c.tries] = C4) := ⟨_, rfl⟩
      rw [HC4.out] at p4
      have P4 := Lib.hid p4
      have H4 : Hid (C4 ++ nl (c.lines.map (fun l => [124, 32] ++ l) ++ ((x.clients.drop (k + 1)).flatMap Cl.text ++ actLines x.acts)) = FB) := by
        show _ = _
        rw [← HC4.out, ← HST.out]; simp
      clear p4 HC4 HST PR
      have F4 := P4.out.st.facts
      simp only [List.cons_append, List.nil_append, St.Facts, cellFacts, apartFacts, and_true] at F4
      go_wp2_with fail
      clear F4
      go_loopw [9, 52] (fun _ i wr => ∃ (j : Nat) (C : Bytes), j ≤ c.lines.length ∧ i = .int .i64 j ∧ Hid (C ++ nl ((c.lines.drop j).map (fun l => [124, 32] ++ l) ++ ((x.clients.drop (k + 1)).flatMap Cl.text ++ actLines x.acts)) = FB) ∧ Hid (Pr w #[.int .i64 x.lines, .int .i64 x.most, .int .i64 x.room, .int .i64 x.delay, .int .i64 x.buckets, .slice (some ⟨b1, o1, none⟩) x.clients.length cc, .slice aa x.acts.length ac] b C [] wr)) (fun _ i _ => c.lines.length - (intOf i).toNat)
      case atStart => exact ⟨0, C4, by omega, rfl, H4.out, P4.out.tail⟩
      case round =>
        obtain ⟨j, C, hj, rfl, HB, PR⟩ := hrel
        clear H4 P4
        by_cases hjl : j < c.lines.length
        · obtain ⟨lb, lo, rfl, hat⟩ := HLC.out (by omega)
          obtain ⟨l, hl⟩ : ∃ l, c.lines[j]? = some l := ⟨c.lines[j], by simp [hjl]⟩
          have x0 : wr.cell? ⟨lb, lo + j, none⟩ = some (.string ⟨l.toArray⟩) := (hat.kept PR.out.st.below) j _ (by simp [svals, hl])
          have HST : Hid (C ++ ((10 :: 124 :: 32 :: l) ++ nl ((c.lines.drop (j + 1)).map (fun l => [124, 32] ++ l) ++ ((x.clients.drop (k + 1)).flatMap Cl.text ++ actLines x.acts))) = FB) := by
            show _ = _
            rw [← HB.out]
            obtain ⟨h1, rfl⟩ := List.getElem?_eq_some_iff.1 hl
            rw [List.drop_eq_getElem_cons h1, List.map_cons]
            simp [nl]
          have hlb := pre_len HST.out HBG.out (10 :: 124 :: 32 :: l) _ rfl
          have hl3 : 3 + l.length ≤ 1000000000 := by simp at hlb; omega
          have C1 := Lib.hid (Pr.put (s := 10 :: 124 :: 32 :: l) PR.out hlb)
          have e32 := cat_eq [10, 124, 32] l
          simp only [List.cons_append, List.nil_append] at e32
          clear hlb hl hat HB
          go_wp2_with fail
          refine Calls.mono C1.out ?_
          clear C1 x0
          rintro e w5 ⟨rfl, p5⟩
          have P5 := Lib.hid p5
          clear p5 PR e32
          go_wp2_with fail
          go_roundw
          case rel => exact ⟨j + 1, C ++ (10 :: 124 :: 32 :: l), by omega, by go_num, by show _ = _; rw [← HST.out]; simp, P5.out⟩
          case measure => simp [intOf]; omega
        · obtain rfl : j = c.lines.length := by omega
          have HB2 : Hid (C ++ nl ((x.clients.drop (k + 1)).flatMap Cl.text ++ actLines x.acts) = FB) := by
            show _ = _
            rw [← HB.out]; simp
          clear HB
          go_wp2_with fail
          go_roundw
          case rel => exact ⟨k + 1, C, by omega, by go_num, HB2.out, PR.out⟩
          case measure => simp [intOf]; omega
    · obtain rfl : k = x.clients.length := by omega
      have HB2 : Hid (C ++ nl (actLines x.acts) = FB) := by
        show _ = _
        rw [← HB.out]; simp
      clear HB
      have F4 := PR.out.st.facts
      simp only [List.nil_append, St.Facts, cellFacts, apartFacts, and_true] at F4
      go_wp2_with fail
      clear F4 hlt hk HC HLV HLN
      go_loopw [10, 11, 12] (fun v _ _ wr => ∃ (k : Nat) (C : Bytes), k ≤ x.acts.length ∧ Hid (SlAt w v (x.acts.length - k) (acVals (x.acts.drop k))) ∧ Hid (C ++ nl (actLines (x.acts.drop k)) = FB) ∧ Hid (Pr w #[.int .i64 x.lines, .int .i64 x.most, .int .i64 x.room, .int .i64 x.delay, .int .i64 x.buckets, .slice ca x.clients.length cc, .slice aa x.acts.length ac] b C [] wr)) (fun v _ _ _ => lenOf v)
      case atStart => exact ⟨0, C, by omega, HAV.out, HB2.out, PR.out⟩
      case round =>
        clear PR HB2
        obtain ⟨k, C, hk, HV, HB, PR⟩ := hrel
        obtain ⟨va, vc, rfl, hvc, hcells⟩ := HV.out
        have HVC := Lib.hid hcells
        clear hcells
        by_cases hlt : k < x.acts.length
        · obtain ⟨b1, o1, rfl, hat⟩ := HVC.out (by omega)
          obtain ⟨a, ha⟩ : ∃ a, x.acts[k]? = some a := ⟨x.acts[k], by simp [hlt]⟩
          have HAT := Lib.hid hat
          have HAK := Lib.hid ha
          obtain ⟨nn, hnn⟩ : ∃ nn, x.acts.length - k = nn := ⟨_, rfl⟩
          have hn0 : 0 < nn := by omega
          have hn1 : (0 : Int) < (nn : Int) := by omega
          have hnb : nn ≤ 2000 := by omega
          rw [hnn]
          have HNN := Lib.hid hnn
          clear hat ha hnn
          go_wp2_with fail
          go_loopw [11] (fun t wr => ∃ n : Nat, 1 ≤ n ∧ n ≤ nn ∧ t = .int .i64 n ∧ Hid (∀ j, j < n → (x.acts.drop k)[j]? = some a) ∧ Hid (Pr w #[.int .i64 x.lines, .int .i64 x.most, .int .i64 x.room, .int .i64 x.delay, .int .i64 x.buckets, .slice ca x.clients.length cc, .slice aa x.acts.length ac] b C [] wr)) (fun t _ => nn - (intOf t).toNat)
          case atStart => exact ⟨1, by omega, by omega, rfl, (fun j hj => by have h0 : j = 0 := (by omega); subst h0; rw [List.getElem?_drop]; exact HAK.out), PR.out⟩
          case round =>
            clear PR
            obtain ⟨n, hn1', hnn', rfl, HJ, PR⟩ := hrel
            obtain ⟨c, HCC⟩ : ∃ c : Bool, Hid (c = decide ((x.acts.drop k)[n]? = some a)) := ⟨_, rfl⟩
            go_upto_region 20 with fail
            go_cut [79] (fun t wx => t = .bool c ∧ Hid (Below wr.heap.size wr wx))
            case first =>
              by_cases hlt2 : n < nn
              · obtain ⟨a2, ha2⟩ : ∃ a2, (x.acts.drop k)[n]? = some a2 := ⟨(x.acts.drop k)[n]'(by have := HNN.out; simp; omega), List.getElem?_eq_getElem _⟩
                have hcw := HAT.out.kept PR.out.st.below
                have y : ∀ (d : Nat) (os : Array Obj), CellsAt (grow (redrawn wr d) os) b1 o1 (acVals (x.acts.drop k)) := fun d os => hcw.kept (below_regrown wr d os)
                have y0 := fun d os => acVals_at (y d os) (HJ.out 0 (by omega))
                have y1 := fun d os => acVals_at (y d os) ha2
                simp only [Nat.zero_mul, Nat.add_zero, forall_and] at y0 y1
                have hcc := HCC.out
                rw [ha2] at hcc
                clear y hcw ha2 HCC
                have g1 : decide ((n : Int) < (nn : Int)) = true := by simp; omega
                have g2 : decide (n < nn) = true := by simp; omega
                have g3 : (n : Int) < (nn : Int) := by omega
                obtain ⟨p0, p1, p2, p3⟩ := a2
                obtain ⟨q0, q1, q2, q3⟩ := a
                have h5 : ((p0 == q0) = false ∧ c = false) ∨ ((p0 == q0) = true ∧ (p1 == q1) = false ∧ c = false) ∨ ((p0 == q0) = true ∧ (p1 == q1) = true ∧ (p2 == q2) = false ∧ c = false) ∨ ((p0 == q0) = true ∧ (p1 == q1) = true ∧ (p2 == q2) = true ∧ (p3 == q3) = false ∧ c = false) ∨ ((p0 == q0) = true ∧ (p1 == q1) = true ∧ (p2 == q2) = true ∧ (p3 == q3) = true ∧ c = true) := by
                  rw [hcc]
                  simp only [Option.some.injEq, Ac.mk.injEq]
                  by_cases e0 : p0 = q0 <;> by_cases e1 : p1 = q1 <;> by_cases e2 : p2 = q2 <;> by_cases e3 : p3 = q3 <;> simp [e0, e1, e2, e3]
                clear hcc
                rcases h5 with ⟨e0, rfl⟩ | ⟨e0, e1, rfl⟩ | ⟨e0, e1, e2, rfl⟩ | ⟨e0, e1, e2, e3, rfl⟩ | ⟨e0, e1, e2, e3, rfl⟩
                all_goals
                  go_wp2_with fail
                  refine wp_region_mixed 14 [(0, false), (1, false), (2, false), (3, false), (4, false), (5, false), (6, false), (7, false), (8, false), (9, false), (10, false), (11, false), (12, false), (13, false)] (by kernel_rfl) (by kernel_rfl) ?_
                  repeat (refine wpM_mild rfl (fun K hK => ?_); go_simp; first | (refine hK _ ?_; clear hK K) | (apply Exists.intro; refine ⟨fun _ => ?_, hK _ ?_⟩; (fail); clear hK K))
                  refine wpM_end ?_
                  intro w6 _ hb6
                  have HB6 := Lib.hid hb6
                  clear hb6 y0 y1
                  go_wp2_with fail
                  go_meet
                  case rel => exact ⟨rfl, HB6.out⟩
              · have hcc : c = false := by
                  rw [HCC.out, List.getElem?_eq_none (by have := HNN.out; simp; omega)]; simp
                subst hcc
                have g1 : decide ((n : Int) < (nn : Int)) = false := by simp; omega
                have g2 : decide (n < nn) = false := by simp; omega
                go_wp2_with fail
                refine wp_region_mixed 14 [(0, false), (1, false), (2, false), (3, false), (4, false), (5, false), (6, false), (7, false), (8, false), (9, false), (10, false), (11, false), (12, false), (13, false)] (by kernel_rfl) (by kernel_rfl) ?_
                repeat (refine wpM_mild rfl (fun K hK => ?_); go_simp; first | (refine hK _ ?_; clear hK K) | (apply Exists.intro; refine ⟨fun _ => ?_, hK _ ?_⟩; (fail); clear hK K))
                refine wpM_end ?_
                intro w6 _ hb6
                have HB6 := Lib.hid hb6
                clear hb6
                go_wp2_with fail
                go_meet
                case rel => exact ⟨rfl, HB6.out⟩
            case rest =>
              obtain ⟨rfl, HB6⟩ := hcut
              have P6 := Lib.hid (PR.out.kept HB6.out)
              clear PR HB6
              cases c with
              | true =>
                have h7 : (x.acts.drop k)[n]? = some a := by have := HCC.out; simpa using this.symm
                have hn8 : n < nn := by
                  have := (List.getElem?_eq_some_iff.1 h7).1
                  have := HNN.out
                  simp at *; omega
                have H7 := Lib.hid h7
                clear HCC h7
                go_wp2_with fail
                go_roundw
                case rel =>
                  exact ⟨n + 1, by omega, by omega, by go_num, (fun j hj => by
                    by_cases hj2 : j < n
                    · exact HJ.out j hj2
                    · have h0 : j = n := (by omega)
                      rw [h0]; exact H7.out), P6.out⟩
                case measure => simp [intOf]; omega
              | false =>
                have h7 : ¬ (x.acts.drop k)[n]? = some a := by have := HCC.out; simpa using this.symm
                have HRL : Hid (runLen a (x.acts.drop k) = n) := runLen_eq a _ n (by have := HNN.out; simp; omega) HJ.out (fun b hb e => h7 (by rw [hb, e]))
                have HAL : Hid (actLines (x.acts.drop k) = pAct a n :: actLines (x.acts.drop (k + n))) := by
                  show _ = _
                  rw [actLines_front (HJ.out 0 (by omega)) HRL.out, List.drop_drop]
                clear HCC h7 HRL
                have har := HX.out.a a (List.mem_of_getElem? HAK.out)
                obtain ⟨hk1, hk12, hkk⟩ := Ac.right_k har
                have hnW := Ac.nums_W har
                have hn3 : formN a.k.toNat ≤ 3 := (form_fact a.k.toNat hk1 hk12).2.2.2.2.1
                have HPA : Hid (pAct a n = formW a.k.toNat ++ pNums a.nums ++ if 1 < n then [32, 42] ++ pNums [(n : Int)] else []) := rfl
                have HNT : Hid ((zvals [a.a, a.b, a.c]).take (formN a.k.toNat) = zvals a.nums) := by show _ = _; unfold zvals Ac.nums; rw [List.map_take]
                have HCA := Lib.hid (HAT.out.kept P6.out.st.below)
                have c4 := acVals_at HCA.out (HJ.out 0 (by omega))
                simp only [Nat.zero_mul, Nat.add_zero] at c4
                have HNW := Lib.hid hnW.1
                have HNL := Lib.hid hnW.2
                have CF := Lib.hid (fields_at a)
                have HK0 := Lib.hid (HJ.out 0 (by omega))
                unfold acVal at CF
                obtain ⟨f0, f1⟩ := form_cells (HE.out.kept P6.out.st.below) a.k.toNat (formW a.k.toNat, formN a.k.toNat) (by
                  rw [List.getElem?_eq_getElem (show a.k.toNat < forms.length by simp [forms]; omega)]
                  simp only [formW, formN, List.getD_eq_getElem?_getD, List.getElem?_eq_getElem (show a.k.toNat < forms.length by simp [forms]; omega), Option.getD_some])
                simp only at f0 f1
                have hwb : (formW a.k.toNat).length ≤ 100 := by
                  have : ∀ k, k ≤ 12 → (formW k).length ≤ 100 := by decide
                  exact this _ hk12
                generalize a.nums = ns at *
                generalize formW a.k.toNat = fw at *
                generalize formN a.k.toNat = fn at *
                obtain ⟨kk, ka, kb, kc⟩ := a
                simp only at *
                generalize kk.toNat = ki at *
                subst hkk
                clear har hnW HJ HV HVC
                have HSA : Hid (C ++ ((10 :: fw) ++ pNums ns ++ ((if 1 < n then [32, 42] ++ pNums [(n : Int)] else []) ++ nl (actLines (x.acts.drop (k + n))))) = FB) := by
                  show _ = _
                  rw [← HB.out, HAL.out, nl_cons, HPA.out]; simp
                clear HB HAL HPA
                have e32 := cat_eq [10] fw
                simp only [List.cons_append, List.nil_append] at e32
                go_wp2_with fail
                have P7 := Lib.hid (Pr.alloc (cs := #[.string ⟨fw.toArray⟩, .int .i64 (fn : Int)]) (t := 79) P6.out (by decide))
                have c7 := acVals_cells (HCA.out.kept ((Below.refl wc.heap.size wc).alloc (Nat.le_refl _) (.cells #[.string ⟨fw.toArray⟩, .int .i64 (fn : Int)] 79))) (HK0.out)
                generalize wc.alloc (.cells #[.string ⟨fw.toArray⟩, .int .i64 (fn : Int)] 79) = W7 at P7 c7 ⊢
                clear c4 f0 f1 P6 HCA
                have F7 := P7.out.st.facts
                simp only [List.cons_append, List.nil_append, St.Facts, cellFacts, apartFacts, and_true] at F7
                generalize wc.heap.size = fx at P7 F7 ⊢
                have y0 : ∀ p : TurnW (fun _ => False) W7, p.w.cell? ⟨fx, 0, none⟩ = some (.string ⟨fw.toArray⟩) := fun p => turnW_cell p F7.2.1.1.1
                have y1 : ∀ p : TurnW (fun _ => False) W7, p.w.cell? ⟨fx, 0 + 1, none⟩ = some (.int .i64 (fn : Int)) := fun p => turnW_cell p F7.2.1.2.1
                have y1' : ∀ p : TurnW (fun _ => False) W7, p.w.cell? ⟨fx, 1, none⟩ = some (.int .i64 (fn : Int)) := y1
                have y2 : ∀ p : TurnW (fun _ => False) W7, p.w.cell? ⟨b1, o1, none⟩ = some (.int .i64 (ki : Int)) := fun p => turnW_cell p c7.1
                have y3 : ∀ p : TurnW (fun _ => False) W7, p.w.cell? ⟨b1, o1 + 1, none⟩ = some (.int .i64 ka) := fun p => turnW_cell p c7.2.1
                have y4 : ∀ p : TurnW (fun _ => False) W7, p.w.cell? ⟨b1, o1 + 2, none⟩ = some (.int .i64 kb) := fun p => turnW_cell p c7.2.2.1
                have y5 : ∀ p : TurnW (fun _ => False) W7, p.w.cell? ⟨b1, o1 + 3, none⟩ = some (.int .i64 kc) := fun p => turnW_cell p c7.2.2.2
                clear c7 F7
                have z3 : (fn : Int) ≤ 3 := by omega
                have hw1 : ¬ 9223372036854775807 < 1 + fw.length := by omega
                have hw2 : ¬ 9223372036854775807 < fw.length + 1 := by omega
                refine wp_region_mixedT (fun _ => False) 11 [(0, false), (1, false), (2, false), (3, false), (4, false), (5, false), (6, false), (8, false), (9, false), (7, true), (10, false)] (by kernel_rfl) (by kernel_rfl) ?_
                repeat (refine wpM_mildT rfl (fun K hK => ?_); go_simp; first | (refine hK _ ?_; clear hK K) | (apply Exists.intro; refine ⟨fun _ => ?_, hK _ ?_⟩; (fail); clear hK K))
                refine wpM_effT rfl ?_
                intro w8 hb8 ht8
                have P8 := Lib.hid (P7.out.kept hb8)
                clear y0 y1 y1' y2 y3 y4 y5
                go_wp2_with fail
                refine Calls.mono (CF.out w8) ?_
                rintro e w9 ⟨fb, rfl, hfb, hblk, hb9⟩
                have P9 := Lib.hid (P8.out.own hb9 hfb hblk (by decide))
                go_wp2_with fail
                refine ⟨ht8.step hb9, ?_⟩
                clear hb8 hb9 hblk hfb P8 ht8
                repeat (refine wpM_mildT rfl (fun K hK => ?_); go_simp; first | (refine hK _ ?_; clear hK K) | (apply Exists.intro; refine ⟨fun _ => ?_, hK _ ?_⟩; (fail); clear hK K))
                refine wpM_tailT ?_
                intro w10 hb10 _
                have P10 := Lib.hid (P9.out.kept hb10)
                clear hb10 P9 P7 CF
                simp only [List.drop_succ_cons, List.drop_zero]
                have C10 := Lib.hid (Pr.line (s := 10 :: fw) (ns := ns) (n := fn) (cap := 3) P10.out HE.out hn3 HNL.out.symm (by simpa using HNT.out) (by simpa [zvals] using hn3) HNW.out (by rw [List.append_assoc]; exact pre_len HSA.out HBG.out _ _ rfl))
                go_wp2_with fail
                refine Calls.mono C10.out ?_
                clear C10 P10
                rintro e w11 ⟨rfl, p11⟩
                have P11 := Lib.hid p11.tail
                clear p11
                have HSB : Hid ((C ++ (10 :: fw) ++ pNums ns) ++ ((if 1 < n then [32, 42] ++ pNums [(n : Int)] else []) ++ nl (actLines (x.acts.drop (k + n)))) = FB) := by
                  show _ = _
                  rw [← HSA.out]; simp
                clear HSA
                generalize C ++ (10 :: fw) ++ pNums ns = C11 at *
                have hkn : k + n ≤ x.acts.length := by have := HNN.out; omega
                go_upto_if 101 with fail
                go_cut [] (fun wx => ∃ C2, Hid (C2 ++ nl (actLines (x.acts.drop (k + n))) = FB) ∧ Hid (Pr w #[.int .i64 x.lines, .int .i64 x.most, .int .i64 x.room, .int .i64 x.delay, .int .i64 x.buckets, .slice ca x.clients.length cc, .slice aa x.acts.length ac] b C2 [] wx))
                case first =>
                  by_cases h1n : 1 < n
                  · rw [if_pos h1n] at HSB
                    have C12 := Lib.hid (Pr.line (s := [32, 42]) (ns := [(n : Int)]) (n := 1) (cap := 1) (Pr.alloc (cs := #[.int .i64 (n : Int)]) (t := 3) P11.out (by decide)) HE.out (Nat.le_refl _) rfl rfl (Nat.le_refl _) (by simp [isW]; omega) (by rw [List.append_assoc]; exact pre_len HSB.out HBG.out _ _ rfl))
                    have g1 : (1 : Int) < (n : Int) := by omega
                    go_wp2_with fail
                    refine Calls.mono C12.out ?_
                    clear C12
                    rintro e w12 ⟨rfl, p12⟩
                    have P12 := Lib.hid p12
                    clear p12
                    go_wp2_with fail
                    go_meet
                    case rel => exact ⟨_, by show _ = _; rw [← HSB.out]; simp, P12.out⟩
                  · rw [if_neg h1n] at HSB
                    have g1 : ¬ (1 : Int) < (n : Int) := by omega
                    go_wp2_with fail
                    go_meet
                    case rel => exact ⟨_, HSB.out, P11.out⟩
                case rest =>
                  obtain ⟨C2, HC2, PC⟩ := hcut
                  have hvn : n ≤ vc := by omega
                  clear HSB P11
                  by_cases hcap : vc = n
                  · subst hcap
                    go_wp2_with fail
                    go_roundw
                    case rel =>
                      refine ⟨k + vc, C2, by omega, ?_, HC2.out, PC.out⟩
                      have e1 : x.acts.length - (k + vc) = nn - vc := by have := HNN.out; omega
                      have e2 : nn - vc = 0 := by omega
                      show SlAt _ _ _ _
                      rw [e1, e2]
                      exact slAt_zero rfl
                    case measure => simp [lenOf]; omega
                  · go_wp2_with fail
                    go_roundw
                    case rel =>
                      refine ⟨k + n, C2, by omega, ?_, HC2.out, PC.out⟩
                      have e1 : x.acts.length - (k + n) = nn - n := by have := HNN.out; omega
                      show SlAt _ _ _ _
                      rw [e1]
                      exact ⟨_, _, rfl, by omega, fun _ => ⟨b1, o1 + n * 4, rfl, fun j u hu => by
                        rw [← List.drop_drop, acVals_drop, List.getElem?_drop] at hu
                        rw [Nat.add_assoc]; exact HAT.out _ u hu⟩⟩
                    case measure => simp [lenOf]; omega
        · obtain rfl : k = x.acts.length := by omega
          have HB2 : Hid (C = FB) := by
            show _ = _
            rw [← HB.out]; simp [actLines, runs, nl]
          have e0 : x.acts.length - x.acts.length = 0 := by omega
          rw [e0]
          have C1 := Lib.hid (Pr.put (s := [10]) PR.out (by have := HBG.out; rw [← HB2.out] at this; simp; omega))
          rw [HB2.out, ← HTX.out] at C1
          clear HB HV HVC hvc e0 hlt
          generalize text x = tx at *
          go_wp2_with fail
          refine Calls.mono C1.out ?_
          clear C1 PR
          rintro e w4 ⟨rfl, p4⟩
          have P4 := Lib.hid p4
          clear p4
          go_wp2_with fail
          refine Calls.mono (bld_len b b tx w4 P4.out.bld) ?_
          rintro e w5 ⟨rfl, rfl⟩
          by_cases hlim : 200000 < tx.length
          · have g1 : (200000 : Int) < (tx.length : Int) := by omega
            have HR2 : Hid (R = ([], eLimit)) := by show _ = _; rw [HR.out, if_pos hlim]
            clear HR
            go_wp2_with fail
            go_returns
            rw [HR2.out]
            exact ⟨rfl, P4.out.st.below⟩
          · have g1 : ¬ (200000 : Int) < (tx.length : Int) := by omega
            have HR2 : Hid (R = (tx, 0)) := by show _ = _; rw [HR.out, if_neg hlim]
            clear HR
            go_wp2_with fail
            refine Calls.mono (bld_string b b tx w4 P4.out.bld (by have := P4.out.bld.lt; omega)) ?_
            rintro e w5 ⟨rfl, hb5⟩
            have HB5 : Hid (Below w.heap.size w w5) := P4.out.st.below.trans (hb5.mono (by have := P4.out.lt; omega))
            clear hb5
            go_wp2_with fail
            go_returns
            rw [HR2.out]
            exact ⟨rfl, HB5.out⟩
theorem print_any (x : Sc) (cv av : Value) (w : World) (he : Env w) (h : ScAt w cv av x) (hm : Modest x) (hbig : x.formed = true → (text x).length ≤ 900000000) : Calls Tryz.prog 15 #[scVal x cv av] w (PrintRes (printed x) w) := by
  unfold printed
  cases hf : x.formed with
  | false => exact print_bad x cv av w he h hm hf
  | true =>
    refine print_good x cv av w he h hm hf ?_
    have := hbig hf
    rw [text_body] at this
    simp at this
    omega
end Go.Proofs.YtialgdnkkjmpbaaGreatDoor
