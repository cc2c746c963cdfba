/-
  Walks: the reference's state and its first two lines. Conditions: the variables of the program's text are there. Of what was there only the state's block turns.
-/
import Derived.Test.YtialgdnkkjmpbaaGreatDoorR1
import Derived.Test.YtialgdnkkjmpbaaGreatDoorWk
namespace Go.Proofs.YtialgdnkkjmpbaaGreatDoor
open Go.RowKit Go.Sort

/-- A slice with an address, or nil. -/
def Norm (v : Value) : Prop := (∃ ad n cap, v = .slice (some ad) n cap) ∨ v = .slice none 0 0
def SlN (Q : Nat → Prop) (w : World) (v : Value) (n : Nat) (cs : List Value) : Prop := SlIn Q w v n cs ∧ Norm v
theorem SlN.kept {Q : Nat → Prop} {w w' : World} {v : Value} {n : Nat} {cs : List Value} (h : SlN Q w v n cs) (hb : Below w.heap.size w w') : SlN Q w' v n cs := ⟨h.1.kept hb, h.2⟩
theorem SlN.turned {Q M : Nat → Prop} {w w' : World} {v : Value} {n : Nat} {cs : List Value} (h : SlN Q w v n cs) (ht : Turn M w w') (hq : ∀ b, Q b → ¬ M b) (h0 : 0 < n → cs ≠ []) : SlN Q w' v n cs := ⟨h.1.turned ht hq h0, h.2⟩
theorem slN_nil (Q : Nat → Prop) (w : World) : SlN Q w (.slice none 0 0) 0 [] := ⟨⟨none, 0, rfl, by omega, fun h => by omega⟩, .inr rfl⟩
theorem World.ownsRow.norm {w : World} {base : Nat} {e : TypeId} {size : Nat} {v : Value} {n : Nat} {xs : List Value} (h : w.ownsRow base e size v n xs) : Norm v := by
  obtain ⟨_, ⟨rfl, _⟩ | ⟨g, cap, cur, rfl, _⟩⟩ := h
  · exact .inr rfl
  · exact .inl ⟨_, _, _, rfl⟩
theorem World.ownsRow.slN {w : World} {base sb : Nat} {e : TypeId} {size : Nat} {v : Value} {n : Nat} {xs : List Value} (h : w.ownsRow base e size v n xs) (hs : sb < base) : SlN (sb < ·) w v n xs := ⟨h.slIn.mono (fun b hb => by omega), World.ownsRow.norm h⟩
/-- What the slices of a script's value read as, in blocks of which Q holds. -/
def ScIn (Q : Nat → Prop) (w : World) (cv av : Value) (x : Sc) : Prop := SlN Q w av x.acts.length (acVals x.acts) ∧ ∃ lvs, lvs.length = x.clients.length ∧ SlN Q w cv x.clients.length (clVals x.clients lvs) ∧ ∀ (i : Nat) (c : Cl) (lv : Value), x.clients[i]? = some c → lvs[i]? = some lv → SlN Q w lv c.lines.length (svals c.lines)
theorem ScIn.scAt {Q : Nat → Prop} {w : World} {cv av : Value} {x : Sc} (h : ScIn Q w cv av x) : ScAt w cv av x := by
  obtain ⟨h1, lvs, h2, h3, h4⟩ := h
  exact ⟨h1.1.slAt, lvs, h2, h3.1.slAt, fun i c lv hc hl => (h4 i c lv hc hl).1.slAt⟩
theorem acVals_ne {l : List Ac} (h : 0 < l.length) : acVals l ≠ [] := by cases l with | nil => simp at h | cons a l => simp [acVals]
theorem clVals_ne {l : List Cl} {vs : List Value} (h : 0 < l.length) (hv : vs.length = l.length) : clVals l vs ≠ [] := by
  cases l with
  | nil => simp at h
  | cons a l => cases vs with
    | nil => simp at hv
    | cons v vs => simp [clVals]
theorem svals_ne {l : List Bytes} (h : 0 < l.length) : svals l ≠ [] := by cases l with | nil => simp at h | cons a l => simp [svals]
theorem ScIn.turned {Q M : Nat → Prop} {w w' : World} {cv av : Value} {x : Sc} (h : ScIn Q w cv av x) (ht : Turn M w w') (hq : ∀ b, Q b → ¬ M b) : ScIn Q w' cv av x := by
  obtain ⟨h1, lvs, h2, h3, h4⟩ := h
  exact ⟨h1.turned ht hq acVals_ne, lvs, h2, h3.turned ht hq (fun h => clVals_ne h h2), fun i c lv hc hl => (h4 i c lv hc hl).turned ht hq svals_ne⟩
theorem ScIn.kept {Q : Nat → Prop} {w w' : World} {cv av : Value} {x : Sc} (h : ScIn Q w cv av x) (hb : Below w.heap.size w w') : ScIn Q w' cv av x := by
  obtain ⟨h1, lvs, h2, h3, h4⟩ := h
  exact ⟨h1.kept hb, lvs, h2, h3.kept hb, fun i c lv hc hl => (h4 i c lv hc hl).kept hb⟩
theorem scIn_zero (Q : Nat → Prop) (w : World) : ScIn Q w (.slice none 0 0) (.slice none 0 0) Sc.zero := ⟨slN_nil Q w, [], rfl, slN_nil Q w, fun i c lv h => by simp [Sc.zero] at h⟩

def rHead (ph : Nat) : Int := if ph = 0 then 0 else if ph = 1 then 1 else 2
def rOpen (s : Rd) : Bool := s.opn && s.ph == 2
def refCells (s : Rd) (cv av : Value) : Array Value :=
  #[.int .i64 (rHead s.ph), .bool (rOpen s), .int .i64 s.x.lines, .int .i64 s.x.most, .int .i64 s.x.room, .int .i64 s.x.delay, .int .i64 s.x.buckets, cv, av]
/-- The reference's state in its block, its slices in later blocks. -/
def RefAt (sb : Nat) (w : World) (s : Rd) : Prop := ∃ cv av, w.heap[sb]? = some (.cells (refCells s cv av) 62 (0, 0)) ∧ ScIn (sb < ·) w cv av s.x
/-- What a line's reading leaves. -/
def RefRes (sb : Nat) (w : World) (r : Except Int Rd) (e : Ending) (w' : World) : Prop := match r with
  | .error x => e = .returned (.int .i64 x) ∧ Turn (· = sb) w w'
  | .ok s' => e = .returned (.int .i64 0) ∧ RefAt sb w' s' ∧ Turn (· = sb) w w'

set_option maxRecDepth 100000 in
set_option maxHeartbeats 2000000 in
theorem header0_ref (sb : Nat) (w : World) (s : Rd) (v : Value) (parts : List Bytes) (hr : RefAt sb w s) (hph : s.ph = 0) (hv : SlAt w v parts.length (svals parts)) (hne : parts ≠ []) (hl : parts.length ≤ 1000000) (hs : ∀ p ∈ parts, p.length ≤ 1000000) :
    Calls Tryz.prog 43 #[.pointer (some ⟨sb, 0, none⟩), v] w (RefRes sb w (rdFirst s parts)) := by
  obtain ⟨p, ps, rfl⟩ : ∃ p ps, parts = p :: ps := by cases parts with | nil => exact absurd rfl hne | cons p ps => exact ⟨p, ps, rfl⟩
  obtain ⟨ph, opn, x⟩ := s
  simp only at hph
  subst hph
  obtain ⟨cv, av, hblk, hsc⟩ := hr
  obtain ⟨a, cap, rfl, hcap, hcells⟩ := hv
  obtain ⟨b, o, rfl, hat⟩ := hcells (by simp)
  have hlt : b < w.heap.size := hat.lt (by simp [svals])
  have hlb : sb < w.heap.size := (Array.getElem?_eq_some_iff.1 hblk).1
  have x0 : w.cell? ⟨b, o, none⟩ = some (.string ⟨p.toArray⟩) := hat 0 _ rfl
  simp only [List.length_cons] at hcap hl
  have S0 : Hid (StM (· = sb) w w [(sb, refCells ⟨0, opn, x⟩ cv av, 62)]) := StM.one rfl hblk
  have F0 := S0.out.facts
  simp only [refCells, St.Facts, cellFacts, apartFacts, and_true, rHead, if_true] at F0
  by_cases h1 : p = wLines
  · obtain ⟨t1, t2, t3, t4⟩ := str_lit p [108, 105, 110, 101, 115] true (decide_eq_true h1)
    by_cases h2 : ps.length = 1
    · have HT : Hid (SlAt w (.slice (some ⟨b, o + 1, none⟩) 1 (cap - 1)) ps.length (svals ps)) := by rw [h2]; exact slAt_tail (n := 1) (by omega) hat
      have C := Lib.hid (fun w h => all_ref (.slice (some ⟨b, o + 1, none⟩) 1 (cap - 1)) ps w h (by omega) (fun p hp => hs p (by simp [hp])))
      have HSC := Lib.hid hsc
      have hc1 : 1 < cap := by omega
      have HL := Lib.hid h2
      have HF : Hid (rdFirst ⟨0, opn, x⟩ (p :: ps) = match nums ps with | none => .error eNumber | some l => .ok ⟨1, opn, { x with lines := l.getD 0 0 }⟩) := by
        show _ = _
        unfold rdFirst
        rw [if_neg (by simp [h1, h2])]
        rfl
      have hw : (p :: ps).length = 2 := by simp [h2]
      rw [hw]
      clear hsc hblk hat hs hcells h1 h2 hw
      go_enter Tryz.func43, Tryz.ntmps43
      go_wp2_with fail
      have S1 := Lib.hid (StM.alloc S0.out (cs := #[.string { data := #[108, 105, 110, 101, 115] }, .string { data := #[115, 101, 116] }]) (t := 9))
      have hba := (Below.refl w.heap.size w).alloc (Nat.le_refl _) (.cells #[.string { data := #[108, 105, 110, 101, 115] }, .string { data := #[115, 101, 116] }] 9)
      have HSC1 := Lib.hid (HSC.out.kept hba)
      refine Calls.mono (C.out _ (HT.out.kept hba)) ?_
      intro e w1 hres
      unfold NumsRes at hres
      cases hn : nums ps with
      | none =>
        rw [hn] at hres HF
        obtain ⟨rfl, hb1⟩ := hres
        have S2 := Lib.hid (S1.out.kept hb1)
        clear hb1 hn hba
        go_wp2_with fail
        go_returns
        rw [HF.out]
        exact ⟨rfl, S2.out.turn⟩
      | some l =>
        rw [hn] at hres HF
        have hln := nums_length hn
        rw [HL.out] at hln
        obtain ⟨n, rfl⟩ : ∃ n, l = [n] := by
          match l, hln with
          | [n], _ => exact ⟨n, rfl⟩
        obtain ⟨v1, rfl, hown, hb1⟩ := hres
        obtain ⟨a1, cap1, rfl, hc2, hcl⟩ := hown.slAt
        obtain ⟨b1, o1, rfl, hat1⟩ := hcl (by simp)
        have y0 : w1.cell? ⟨b1, o1, none⟩ = some (.int .i64 (n : Int)) := hat1 0 _ rfl
        have S2 := Lib.hid (StM.tail (S1.out.kept hb1))
        have HSC2 := Lib.hid (HSC1.out.kept hb1)
        clear hb1 hn hba hat1 hcl hown F0 x0
        simp only [refCells, show rHead 0 = 0 from rfl] at S2
        have F2 := S2.out.facts
        simp only [St.Facts, cellFacts, apartFacts, and_true] at F2
        simp only [List.length_cons, List.length_nil] at hc2
        go_wp2_with fail
        go_returns
        rw [HF.out]
        have S3 := StM.set 0 (o := 0) (v := .int .i64 1) (StM.set 0 (o := 2) (v := .int .i64 (n : Int)) S2.out rfl) rfl
        refine ⟨rfl, ⟨cv, av, S3.blk 0 rfl, ?_⟩, S3.turn⟩
        refine HSC2.out.turned (M := (· = sb)) (((Turn.refl (· = sb) _).setCell (.inl rfl)).setCell (.inl rfl)) (fun b hb e => by omega)
    · have HF : Hid (rdFirst ⟨0, opn, x⟩ (p :: ps) = .error eSyntax) := by
        show _ = _
        unfold rdFirst
        rw [if_pos (.inr (by simpa using h2))]
      have h3 : ((ps.length : Int) + 1 != 2) = true := by simp; omega
      have h4 : (ps.length + 1 != 2) = true := by simp; omega
      have h5 : (((ps.length + 1 : Nat) : Int) != 2) = true := by simp; omega
      clear hsc hblk hat hs hcells h1 h2
      simp only [List.length_cons]
      go_enter Tryz.func43, Tryz.ntmps43
      go_wp2_with fail
      go_returns
      rw [HF.out]
      exact ⟨rfl, Turn.of_below ((Below.refl _ _).alloc (Nat.le_refl _) _)⟩
  · have HF : Hid (rdFirst ⟨0, opn, x⟩ (p :: ps) = .error eSyntax) := by
      show _ = _
      unfold rdFirst
      rw [if_pos (.inl (by simpa using h1))]
    obtain ⟨t1, t2, t3, t4⟩ := str_lit p [108, 105, 110, 101, 115] false (decide_eq_false h1)
    clear hsc hblk hat hs hcells h1
    simp only [List.length_cons]
    go_enter Tryz.func43, Tryz.ntmps43
    go_wp2_with fail
    go_returns
    rw [HF.out]
    exact ⟨rfl, Turn.of_below ((Below.refl _ _).alloc (Nat.le_refl _) _)⟩
set_option maxRecDepth 100000 in
set_option maxHeartbeats 2000000 in
theorem header1_ref (sb : Nat) (w : World) (s : Rd) (v : Value) (parts : List Bytes) (hr : RefAt sb w s) (hph : s.ph = 1) (hop : s.opn = false) (hv : SlAt w v parts.length (svals parts)) (hne : parts ≠ []) (hl : parts.length ≤ 1000000) (hs : ∀ p ∈ parts, p.length ≤ 1000000) :
    Calls Tryz.prog 43 #[.pointer (some ⟨sb, 0, none⟩), v] w (RefRes sb w (rdSecond s parts)) := by
  obtain ⟨p, ps, rfl⟩ : ∃ p ps, parts = p :: ps := by cases parts with | nil => exact absurd rfl hne | cons p ps => exact ⟨p, ps, rfl⟩
  obtain ⟨ph, opn, x⟩ := s
  simp only at hph hop
  subst hph hop
  obtain ⟨cv, av, hblk, hsc⟩ := hr
  obtain ⟨a, cap, rfl, hcap, hcells⟩ := hv
  obtain ⟨b, o, rfl, hat⟩ := hcells (by simp)
  have hlt : b < w.heap.size := hat.lt (by simp [svals])
  have hlb : sb < w.heap.size := (Array.getElem?_eq_some_iff.1 hblk).1
  have x0 : w.cell? ⟨b, o, none⟩ = some (.string ⟨p.toArray⟩) := hat 0 _ rfl
  simp only [List.length_cons] at hcap hl
  have S0 : Hid (StM (· = sb) w w [(sb, refCells ⟨1, false, x⟩ cv av, 62)]) := StM.one rfl hblk
  have F0 := S0.out.facts
  simp only [refCells, St.Facts, cellFacts, apartFacts, and_true, rHead, if_true] at F0
  by_cases h1 : p = wSet
  · obtain ⟨t1, t2, t3, t4⟩ := str_lit p [115, 101, 116] true (decide_eq_true h1)
    by_cases h2 : ps.length = 4
    · have HT : Hid (SlAt w (.slice (some ⟨b, o + 1, none⟩) 4 (cap - 1)) ps.length (svals ps)) := by rw [h2]; exact slAt_tail (n := 4) (by omega) hat
      have C := Lib.hid (fun w h => all_ref (.slice (some ⟨b, o + 1, none⟩) 4 (cap - 1)) ps w h (by omega) (fun p hp => hs p (by simp [hp])))
      have HSC := Lib.hid hsc
      have hc1 : 1 < cap := by omega
      have HL := Lib.hid h2
      have HF : Hid (rdSecond ⟨1, false, x⟩ (p :: ps) = match nums ps with | none => .error eNumber | some l => .ok ⟨2, false, { x with most := l.getD 0 0, room := l.getD 1 0, delay := l.getD 2 0, buckets := l.getD 3 0 }⟩) := by
        show _ = _
        unfold rdSecond
        rw [if_neg (by simp [h1, h2])]
        rfl
      have hw : (p :: ps).length = 5 := by simp [h2]
      rw [hw]
      clear hsc hblk hat hs hcells h1 h2 hw
      go_enter Tryz.func43, Tryz.ntmps43
      go_wp2_with fail
      have S1 := Lib.hid (StM.alloc S0.out (cs := #[.string { data := #[108, 105, 110, 101, 115] }, .string { data := #[115, 101, 116] }]) (t := 9))
      have hba := (Below.refl w.heap.size w).alloc (Nat.le_refl _) (.cells #[.string { data := #[108, 105, 110, 101, 115] }, .string { data := #[115, 101, 116] }] 9)
      have HSC1 := Lib.hid (HSC.out.kept hba)
      refine Calls.mono (C.out _ (HT.out.kept hba)) ?_
      intro e w1 hres
      unfold NumsRes at hres
      cases hn : nums ps with
      | none =>
        rw [hn] at hres HF
        obtain ⟨rfl, hb1⟩ := hres
        have S2 := Lib.hid (S1.out.kept hb1)
        clear hb1 hn hba
        go_wp2_with fail
        go_returns
        rw [HF.out]
        exact ⟨rfl, S2.out.turn⟩
      | some l =>
        rw [hn] at hres HF
        have hln := nums_length hn
        rw [HL.out] at hln
        obtain ⟨n1, n2, n3, n4, rfl⟩ : ∃ n1 n2 n3 n4, l = [n1, n2, n3, n4] := by
          match l, hln with
          | [n1, n2, n3, n4], _ => exact ⟨n1, n2, n3, n4, rfl⟩
        obtain ⟨v1, rfl, hown, hb1⟩ := hres
        obtain ⟨a1, cap1, rfl, hc2, hcl⟩ := hown.slAt
        obtain ⟨b1, o1, rfl, hat1⟩ := hcl (by simp)
        have y0 : ∀ (d : Nat) (os : Array Obj), (grow (redrawn w1 d) os).cell? ⟨b1, o1, none⟩ = some (.int .i64 (n1 : Int)) := fun d os => (hat1.kept (below_regrown w1 d os)) 0 _ rfl
        have y1 : ∀ (d : Nat) (os : Array Obj), (grow (redrawn w1 d) os).cell? ⟨b1, o1 + 1, none⟩ = some (.int .i64 (n2 : Int)) := fun d os => (hat1.kept (below_regrown w1 d os)) 1 _ rfl
        have y2 : ∀ (d : Nat) (os : Array Obj), (grow (redrawn w1 d) os).cell? ⟨b1, o1 + 2, none⟩ = some (.int .i64 (n3 : Int)) := fun d os => (hat1.kept (below_regrown w1 d os)) 2 _ rfl
        have y3 : ∀ (d : Nat) (os : Array Obj), (grow (redrawn w1 d) os).cell? ⟨b1, o1 + 3, none⟩ = some (.int .i64 (n4 : Int)) := fun d os => (hat1.kept (below_regrown w1 d os)) 3 _ rfl
        have S2 := Lib.hid (StM.tail (S1.out.kept hb1))
        have HSC2 := Lib.hid (HSC1.out.kept hb1)
        clear hb1 hn hba hat1 hcl hown F0 x0
        simp only [refCells, show rHead 1 = 1 from rfl] at S2
        have F2 := S2.out.facts
        simp only [St.Facts, cellFacts, apartFacts, and_true] at F2
        simp only [List.length_cons, List.length_nil] at hc2
        go_wp2_with fail
        clear F2
        refine wp_region_mixed 17 [(0, false), (1, false), (2, false), (3, false), (4, false), (5, false), (6, false), (7, false), (8, false), (9, false), (10, false), (11, false), (12, false), (13, false), (14, false), (15, false), (16, false)] (by kernel_rfl) (by kernel_rfl) ?_
        repeat (refine wpM_mild rfl (fun K hK => ?_); go_simp; first | (refine hK _ ?_; clear hK K) | (apply Exists.intro; refine ⟨fun _ => ?_, hK _ ?_⟩; (fail); clear hK K))
        refine wpM_tail ?_
        intro w2 hb2 _
        have HSC3 := Lib.hid (HSC2.out.kept hb2)
        refine StM.call (S2.out) hb2 ?_
        intro S3
        clear hb2
        try (simp only [List.set_cons_zero, List.set_cons_succ, List.setIfInBounds_toArray, World.size_alloc] at S3)
        clear y0 y1 y2 y3 S2 HSC2
        have F3 := S3.out.facts
        simp only [St.Facts, cellFacts, apartFacts, and_true] at F3
        simp only [List.drop_succ_cons, List.drop_zero]
        go_wp2_with fail
        go_returns
        rw [HF.out]
        have S4 := StM.set 0 (o := 0) (v := .int .i64 2) (StM.set 0 (o := 6) (v := .int .i64 (n4 : Int)) (StM.set 0 (o := 5) (v := .int .i64 (n3 : Int)) (StM.set 0 (o := 4) (v := .int .i64 (n2 : Int)) (StM.set 0 (o := 3) (v := .int .i64 (n1 : Int)) S3.out rfl) rfl) rfl) rfl) rfl
        refine ⟨rfl, ⟨cv, av, ?_, ?_⟩, S4.turn⟩
        · exact S4.blk 0 rfl
        · refine HSC3.out.turned (M := (· = sb)) ((((((Turn.refl (· = sb) _).setCell (.inl rfl)).setCell (.inl rfl)).setCell (.inl rfl)).setCell (.inl rfl)).setCell (.inl rfl)) (fun b hb e => by omega)
    · have HF : Hid (rdSecond ⟨1, false, x⟩ (p :: ps) = .error eSyntax) := by
        show _ = _
        unfold rdSecond
        rw [if_pos (.inr (by simpa using h2))]
      have h3 : ((ps.length : Int) + 1 != 5) = true := by simp; omega
      have h4 : (ps.length + 1 != 5) = true := by simp; omega
      have h5 : (((ps.length + 1 : Nat) : Int) != 5) = true := by simp; omega
      clear hsc hblk hat hs hcells h1 h2
      simp only [List.length_cons]
      go_enter Tryz.func43, Tryz.ntmps43
      go_wp2_with fail
      go_returns
      rw [HF.out]
      exact ⟨rfl, Turn.of_below ((Below.refl _ _).alloc (Nat.le_refl _) _)⟩
  · have HF : Hid (rdSecond ⟨1, false, x⟩ (p :: ps) = .error eSyntax) := by
      show _ = _
      unfold rdSecond
      rw [if_pos (.inl (by simpa using h1))]
    obtain ⟨t1, t2, t3, t4⟩ := str_lit p [115, 101, 116] false (decide_eq_false h1)
    clear hsc hblk hat hs hcells h1
    simp only [List.length_cons]
    go_enter Tryz.func43, Tryz.ntmps43
    go_wp2_with fail
    go_returns
    rw [HF.out]
    exact ⟨rfl, Turn.of_below ((Below.refl _ _).alloc (Nat.le_refl _) _)⟩
end Go.Proofs.YtialgdnkkjmpbaaGreatDoor
