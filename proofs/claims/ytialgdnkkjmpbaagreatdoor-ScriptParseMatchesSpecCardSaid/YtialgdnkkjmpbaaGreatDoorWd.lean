/-
  Walks: the reader of the package script: its first and second line. Conditions: the variables of the program's text are there. Of what was there only the reader and its rows turn.
-/
import Derived.Test.YtialgdnkkjmpbaaGreatDoorWc
import Derived.Test.YtialgdnkkjmpbaaGreatDoorKitA
import Derived.Laws.EntriesVeiled
namespace Go.Proofs.YtialgdnkkjmpbaaGreatDoor
open Go.RowKit Go.Sort

def rdNext (rb ph : Nat) : Value := .func (.func (if ph = 0 then 19 else if ph = 1 then 38 else if ph = 2 then 61 else 85)) #[.pointer (some ⟨rb, 0, none⟩)] #[]
def rdCells (rb : Nat) (s : Rd) (cv av : Value) : Array Value :=
  #[.int .i64 s.x.lines, .int .i64 s.x.most, .int .i64 s.x.room, .int .i64 s.x.delay, .int .i64 s.x.buckets, cv, av, rdNext rb s.ph, .bool s.opn, .bool (decide (2 ≤ s.ph))]
def clRows : List Cl → List Value → List Row
  | c :: cs, lv :: lvs => ⟨9, 1, lv, c.lines.length, svals c.lines⟩ :: clRows cs lvs
  | _, _ => []
def clVals : List Cl → List Value → List Value
  | c :: cs, lv :: lvs => .int .i64 c.tries :: lv :: clVals cs lvs
  | _, _ => []
def acVals (l : List Ac) : List Value := l.flatMap fun a => [.int .i64 a.k, .int .i64 a.a, .int .i64 a.b, .int .i64 a.c]
def rdRows (x : Sc) (cv av : Value) (lvs : List Value) : List Row := ⟨48, 2, cv, x.clients.length, clVals x.clients lvs⟩ :: ⟨67, 4, av, x.acts.length, acVals x.acts⟩ :: clRows x.clients lvs
/-- The reader, and the rows that it has made. -/
structure RdrAt (base rb : Nat) (w : World) (s : Rd) (cv av : Value) (lvs : List Value) : Prop where
  lt : rb < base
  size : base ≤ w.heap.size
  low : 13 ≤ rb
  blk : w.heap[rb]? = some (.cells (rdCells rb s cv av) 53 (0, 0))
  len : lvs.length = s.x.clients.length
  rows : OwnRows base w (rdRows s.x cv av lvs)
def Rdr (base rb : Nat) (w : World) (s : Rd) : Prop := ∃ cv av lvs, RdrAt base rb w s cv av lvs
/-- What a line may turn: the reader's block, and what lies from its rows on. -/
def RdM (base rb : Nat) (k : Nat) : Prop := k = rb ∨ base ≤ k
theorem RdrAt.kept {base rb : Nat} {w w' : World} {s : Rd} {cv av : Value} {lvs : List Value} (h : RdrAt base rb w s cv av lvs) (hb : Below w.heap.size w w') : RdrAt base rb w' s cv av lvs :=
  ⟨h.lt, Nat.le_trans h.size hb.size, h.low, hb.blk_kept h.blk, h.len, h.rows.kept hb⟩
/-- What a line's reading leaves. -/
def RdRes (base rb : Nat) (w : World) (r : Except Int Rd) (e : Ending) (w' : World) : Prop := match r with
  | .error x => e = .returned (.int .i64 x) ∧ Turn (RdM base rb) w w'
  | .ok s' => e = .returned (.int .i64 0) ∧ Rdr base rb w' s' ∧ Turn (RdM base rb) w w'
theorem str_lit (p L : Bytes) (b : Bool) (h : decide (p = L) = b) : ((⟨p.toArray⟩ : ByteArray).toList == L) = b ∧ ((⟨p.toArray⟩ : ByteArray).toList != L) = !b ∧ (p == L) = b ∧ (p != L) = !b := by
  rw [ByteArray.toList_eq]
  subst h
  by_cases e : p = L <;> simp [e]
/-- The slots of a slice behind its first element. -/
theorem slAt_tail {w : World} {b o n cap : Nat} {v : Value} {cs : List Value} (hcap : n + 1 ≤ cap) (h : CellsAt w b o (v :: cs)) : SlAt w (.slice (some ⟨b, o + 1, none⟩) n (cap - 1)) n cs :=
  ⟨_, cap - 1, rfl, by omega, fun _ => ⟨b, o + 1, rfl, fun j u hu => by rw [show o + 1 + j = o + (j + 1) by omega]; exact h (j + 1) u (by simpa using hu)⟩⟩
theorem Env.ofRd {base rb : Nat} {w w' : World} (h : Env w) (ht : Turn (RdM base rb) w w') (h1 : 13 ≤ rb) (h2 : rb < base) : Env w' := h.turned ht (fun k hk => by rcases hk with rfl | hk <;> omega)

set_option maxRecDepth 100000 in
set_option maxHeartbeats 1000000 in
theorem first_any (base rb : Nat) (w : World) (s : Rd) (line : ByteArray) (v : Value) (parts : List Bytes) (he : Env w) (hr : Rdr base rb w s) (hph : s.ph = 0) (hv : SlAt w v parts.length (svals parts)) (hne : parts ≠ []) (hl : parts.length ≤ 1000000) (hs : ∀ p ∈ parts, p.length ≤ 1000000) :
    Calls Tryz.prog 19 #[.pointer (some ⟨rb, 0, none⟩), .string line, v] w (RdRes base rb w (rdFirst s parts)) := by
  obtain ⟨p, ps, rfl⟩ : ∃ p ps, parts = p :: ps := by cases parts with | nil => exact absurd rfl hne | cons p ps => exact ⟨p, ps, rfl⟩
  obtain ⟨ph, opn, x⟩ := s
  simp only at hph
  subst hph
  obtain ⟨cv, av, lvs, hR⟩ := hr
  obtain ⟨a, cap, rfl, hcap, hcells⟩ := hv
  obtain ⟨b, o, rfl, hat⟩ := hcells (by simp)
  have hlt : b < w.heap.size := hat.lt (by simp [svals])
  have x0 : w.cell? ⟨b, o, none⟩ = some (.string ⟨p.toArray⟩) := hat 0 _ rfl
  simp only [List.length_cons] at hcap hl
  by_cases h1 : p = wLines
  · obtain ⟨t1, t2, t3, t4⟩ := str_lit p [108, 105, 110, 101, 115] true (decide_eq_true h1)
    by_cases h2 : ps.length = 1
    · obtain ⟨q, rfl⟩ : ∃ q, ps = [q] := by
        match ps, h2 with
        | [q], _ => exact ⟨q, rfl⟩
      have HT : Hid (SlAt w (.slice (some ⟨b, o + 1, none⟩) 1 (cap - 1)) 1 (svals [q])) := slAt_tail (n := 1) (by simpa using hcap) hat
      have C := Lib.hid (fun w he h => numbers_any (.slice (some ⟨b, o + 1, none⟩) 1 (cap - 1)) [q] w he h (by simp) (fun p hp => hs p (by simp at hp; simp [hp])))
      have HE := Lib.hid he
      have HR := Lib.hid hR
      have S0 : Hid (StM (RdM base rb) w w [(rb, rdCells rb ⟨0, opn, x⟩ cv av, 53)]) := StM.one (.inl rfl) hR.blk
      have F0 := S0.out.facts
      simp only [rdCells, St.Facts, cellFacts, apartFacts, and_true] at F0
      have hc1 : 1 < cap := by simp at hcap; omega
      have HF : Hid (rdFirst ⟨0, opn, x⟩ [p, q] = match nums [q] with | none => .error eNumber | some l => .ok ⟨1, opn, { x with lines := l.getD 0 0 }⟩) := by
        show _ = _
        unfold rdFirst
        rw [if_neg (by simp [h1])]
        rfl
      clear he hR hat hs hcells h1 h2
      simp only [List.length_cons, List.length_nil]
      go_enter Tryz.func19, Tryz.ntmps19
      go_wp2_with fail
      refine Calls.mono (C.out _ HE.out HT.out) ?_
      intro e w1 hres
      unfold NumsRes at hres
      cases hn : nums [q] with
      | none =>
        rw [hn] at hres HF
        obtain ⟨rfl, hb1⟩ := hres
        have HB1 := Lib.hid hb1
        clear hb1 hn
        go_wp2_with fail
        go_returns
        rw [HF.out]
        exact ⟨rfl, Turn.of_below HB1.out⟩
      | some l =>
        rw [hn] at hres HF
        have hln := nums_length hn
        obtain ⟨n, rfl⟩ : ∃ n, l = [n] := by
          match l, hln with
          | [n], _ => exact ⟨n, rfl⟩
        obtain ⟨v1, rfl, hown, hb1⟩ := hres
        obtain ⟨a1, cap1, rfl, hc2, hcl⟩ := hown.slAt
        obtain ⟨b1, o1, rfl, hat1⟩ := hcl (by simp)
        have y0 : w1.cell? ⟨b1, o1, none⟩ = some (.int .i64 (n : Int)) := hat1 0 _ rfl
        have HR1 := Lib.hid (HR.out.kept hb1)
        refine StM.call S0.out hb1 ?_
        intro S1
        clear hb1 hn hat1 hcl hown F0 x0
        simp only [rdCells] at S1
        have F1 := S1.out.facts
        simp only [St.Facts, cellFacts, apartFacts, and_true] at F1
        simp only [List.length_cons, List.length_nil] at hc2
        go_wp2_with fail
        go_returns
        rw [HF.out]
        have S2 := StM.set 0 (o := 7) (v := rdNext rb 1) (StM.set 0 (o := 0) (v := .int .i64 (n : Int)) S1.out rfl) rfl
        refine ⟨rfl, ⟨cv, av, lvs, ?_⟩, S2.turn⟩
        exact ⟨HR.out.lt, Nat.le_trans HR1.out.size (by simp), HR.out.low, S2.blk 0 rfl, HR.out.len, (HR1.out.rows.setCell HR.out.lt).setCell HR.out.lt⟩
    · have HF : Hid (rdFirst ⟨0, opn, x⟩ (p :: ps) = .error eSyntax) := by
        show _ = _
        unfold rdFirst
        rw [if_pos (.inr (by simpa using h2))]
      have h3 : ((ps.length : Int) + 1 != 2) = true := by simp; omega
      have h4 : (ps.length + 1 != 2) = true := by simp; omega
      have h5 : (((ps.length + 1 : Nat) : Int) != 2) = true := by simp; omega
      clear he hR hat hs hcells h1 h2
      simp only [List.length_cons]
      go_enter Tryz.func19, Tryz.ntmps19
      go_wp2_with fail
      go_returns
      rw [HF.out]
      exact ⟨rfl, Turn.refl _ _⟩
  · have HF : Hid (rdFirst ⟨0, opn, x⟩ (p :: ps) = .error eSyntax) := by
      show _ = _
      unfold rdFirst
      rw [if_pos (.inl (by simpa using h1))]
    obtain ⟨t1, t2, t3, t4⟩ := str_lit p [108, 105, 110, 101, 115] false (decide_eq_false h1)
    clear he hR hat hs hcells h1
    simp only [List.length_cons]
    go_enter Tryz.func19, Tryz.ntmps19
    go_wp2_with fail
    go_returns
    rw [HF.out]
    exact ⟨rfl, Turn.refl _ _⟩

set_option maxRecDepth 100000 in
set_option maxHeartbeats 2000000 in
theorem second_any (base rb : Nat) (w : World) (s : Rd) (line : ByteArray) (v : Value) (parts : List Bytes) (he : Env w) (hr : Rdr base rb w s) (hph : s.ph = 1) (hv : SlAt w v parts.length (svals parts)) (hne : parts ≠ []) (hl : parts.length ≤ 1000000) (hs : ∀ p ∈ parts, p.length ≤ 1000000) :
    Calls Tryz.prog 38 #[.pointer (some ⟨rb, 0, none⟩), .string line, v] w (RdRes base rb w (rdSecond s parts)) := by
  obtain ⟨p, ps, rfl⟩ : ∃ p ps, parts = p :: ps := by cases parts with | nil => exact absurd rfl hne | cons p ps => exact ⟨p, ps, rfl⟩
  obtain ⟨ph, opn, x⟩ := s
  simp only at hph
  subst hph
  obtain ⟨cv, av, lvs, hR⟩ := hr
  obtain ⟨a, cap, rfl, hcap, hcells⟩ := hv
  obtain ⟨b, o, rfl, hat⟩ := hcells (by simp)
  have hlt : b < w.heap.size := hat.lt (by simp [svals])
  have x0 : w.cell? ⟨b, o, none⟩ = some (.string ⟨p.toArray⟩) := hat 0 _ rfl
  simp only [List.length_cons] at hcap hl
  by_cases h1 : p = wSet
  · obtain ⟨t1, t2, t3, t4⟩ := str_lit p [115, 101, 116] true (decide_eq_true h1)
    by_cases h2 : ps.length = 4
    · have HT : Hid (SlAt w (.slice (some ⟨b, o + 1, none⟩) 4 (cap - 1)) ps.length (svals ps)) := by rw [h2]; exact slAt_tail (n := 4) (by omega) hat
      have C := Lib.hid (fun w he h => numbers_any (.slice (some ⟨b, o + 1, none⟩) 4 (cap - 1)) ps w he h (by omega) (fun p hp => hs p (by simp [hp])))
      have HE := Lib.hid he
      have HR := Lib.hid hR
      have S0 : Hid (StM (RdM base rb) w w [(rb, rdCells rb ⟨1, opn, x⟩ cv av, 53)]) := StM.one (.inl rfl) hR.blk
      have F0 := S0.out.facts
      simp only [rdCells, St.Facts, cellFacts, apartFacts, and_true] at F0
      have hc1 : 1 < cap := by omega
      have HL := Lib.hid h2
      have HF : Hid (rdSecond ⟨1, opn, x⟩ (p :: ps) = match nums ps with | none => .error eNumber | some l => .ok ⟨2, opn, { x with most := l.getD 0 0, room := l.getD 1 0, delay := l.getD 2 0, buckets := l.getD 3 0 }⟩) := by
        show _ = _
        unfold rdSecond
        rw [if_neg (by simp [h1, h2])]
        rfl
      have hw : (p :: ps).length = 5 := by simp [h2]
      rw [hw]
      clear he hR hat hs hcells h1 h2 hw
      go_enter Tryz.func38, Tryz.ntmps38
      go_wp2_with fail
      refine Calls.mono (C.out _ HE.out HT.out) ?_
      intro e w1 hres
      unfold NumsRes at hres
      cases hn : nums ps with
      | none =>
        rw [hn] at hres HF
        obtain ⟨rfl, hb1⟩ := hres
        have HB1 := Lib.hid hb1
        clear hb1 hn
        go_wp2_with fail
        go_returns
        rw [HF.out]
        exact ⟨rfl, Turn.of_below HB1.out⟩
      | some l =>
        rw [hn] at hres HF
        have hln := nums_length hn
        rw [HL.out] at hln
        obtain ⟨n1, n2, n3, n4, rfl⟩ : ∃ n1 n2 n3 n4, l = [n1, n2, n3, n4] := by
          match l, hln with
          | [n1, n2, n3, n4], _ => exact ⟨n1, n2, n3, n4, rfl⟩
        obtain ⟨v1, rfl, hown, hb1⟩ := hres
        obtain ⟨a1, cap1, rfl, hc2, hcl⟩ := hown.slAt
        obtain ⟨b1, o1, rfl, hat1⟩ := hcl (by simp)
        have y0 : ∀ (d : Nat) (os : Array Obj), (grow (redrawn w1 d) os).cell? ⟨b1, o1, none⟩ = some (.int .i64 (n1 : Int)) := fun d os => (hat1.kept (below_regrown w1 d os)) 0 _ rfl
        have y1 : ∀ (d : Nat) (os : Array Obj), (grow (redrawn w1 d) os).cell? ⟨b1, o1 + 1, none⟩ = some (.int .i64 (n2 : Int)) := fun d os => (hat1.kept (below_regrown w1 d os)) 1 _ rfl
        have y2 : ∀ (d : Nat) (os : Array Obj), (grow (redrawn w1 d) os).cell? ⟨b1, o1 + 2, none⟩ = some (.int .i64 (n3 : Int)) := fun d os => (hat1.kept (below_regrown w1 d os)) 2 _ rfl
        have y3 : ∀ (d : Nat) (os : Array Obj), (grow (redrawn w1 d) os).cell? ⟨b1, o1 + 3, none⟩ = some (.int .i64 (n4 : Int)) := fun d os => (hat1.kept (below_regrown w1 d os)) 3 _ rfl
        have HR1 := Lib.hid (HR.out.kept hb1)
        refine StM.call S0.out hb1 ?_
        intro S1
        clear hb1 hn hat1 hcl hown F0 x0
        simp only [rdCells] at S1
        simp only [List.length_cons, List.length_nil] at hc2
        go_wp2_with fail
        refine wp_region_mixed 14 [(0, false), (1, false), (2, false), (3, false), (4, false), (5, false), (6, false), (7, false), (8, false), (9, false), (10, false), (11, false), (12, false), (13, false)] (by kernel_rfl) (by kernel_rfl) ?_
        repeat (refine wpM_mild rfl (fun K hK => ?_); go_simp; first | (refine hK _ ?_; clear hK K) | (apply Exists.intro; refine ⟨fun _ => ?_, hK _ ?_⟩; (fail); clear hK K))
        refine wpM_tail ?_
        intro w2 hb2 _
        have HR2 := Lib.hid (HR1.out.kept hb2)
        refine StM.call (S1.out) hb2 ?_
        intro S2
        clear hb2
        try (simp only [List.set_cons_zero, List.set_cons_succ, List.setIfInBounds_toArray, World.size_alloc] at S2)
        clear y0 y1 y2 y3
        have F2 := S2.out.facts
        simp only [St.Facts, cellFacts, apartFacts, and_true] at F2
        simp only [List.drop_succ_cons, List.drop_zero]
        go_wp2_with fail
        go_returns
        rw [HF.out]
        have S3 := StM.set 0 (o := 9) (v := .bool true) (StM.set 0 (o := 7) (v := rdNext rb 2) (StM.set 0 (o := 4) (v := .int .i64 (n4 : Int)) (StM.set 0 (o := 3) (v := .int .i64 (n3 : Int)) (StM.set 0 (o := 2) (v := .int .i64 (n2 : Int)) (StM.set 0 (o := 1) (v := .int .i64 (n1 : Int)) S2.out rfl) rfl) rfl) rfl) rfl) rfl
        refine ⟨rfl, ⟨cv, av, lvs, ?_⟩, S3.turn⟩
        exact ⟨HR.out.lt, Nat.le_trans HR2.out.size (by simp), HR.out.low, S3.blk 0 rfl, HR.out.len, (((((HR2.out.rows.setCell HR.out.lt).setCell HR.out.lt).setCell HR.out.lt).setCell HR.out.lt).setCell HR.out.lt).setCell HR.out.lt⟩
    · have HF : Hid (rdSecond ⟨1, opn, x⟩ (p :: ps) = .error eSyntax) := by
        show _ = _
        unfold rdSecond
        rw [if_pos (.inr (by simpa using h2))]
      have h3 : ((ps.length : Int) + 1 != 5) = true := by simp; omega
      have h4 : (ps.length + 1 != 5) = true := by simp; omega
      have h5 : (((ps.length + 1 : Nat) : Int) != 5) = true := by simp; omega
      clear he hR hat hs hcells h1 h2
      simp only [List.length_cons]
      go_enter Tryz.func38, Tryz.ntmps38
      go_wp2_with fail
      go_returns
      rw [HF.out]
      exact ⟨rfl, Turn.refl _ _⟩
  · have HF : Hid (rdSecond ⟨1, opn, x⟩ (p :: ps) = .error eSyntax) := by
      show _ = _
      unfold rdSecond
      rw [if_pos (.inl (by simpa using h1))]
    obtain ⟨t1, t2, t3, t4⟩ := str_lit p [115, 101, 116] false (decide_eq_false h1)
    clear he hR hat hs hcells h1
    simp only [List.length_cons]
    go_enter Tryz.func38, Tryz.ntmps38
    go_wp2_with fail
    go_returns
    rw [HF.out]
    exact ⟨rfl, Turn.refl _ _⟩
end Go.Proofs.YtialgdnkkjmpbaaGreatDoor
