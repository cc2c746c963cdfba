/-
  Walks: the reference's reading of a line of acts. Of what was there only the state's block turns.
-/
import Derived.Test.YtialgdnkkjmpbaaGreatDoorR4
import Derived.Test.YtialgdnkkjmpbaaGreatDoorWi
namespace Go.Proofs.YtialgdnkkjmpbaaGreatDoor
open Go.RowKit Go.Sort

/-- A line of acts: behind it no client comes. -/
def actRes (s : Rd) (parts : List Bytes) : Except Int Rd := match rdActs s parts with | .error e => .error e | .ok s' => .ok { s' with ph := 3 }
theorem actRes_eq (s : Rd) (p : Bytes) (ps : List Bytes) : actRes s (p :: ps) = match kindOf p with | none => .error eSyntax | some k => match actRest s.x.acts.length k ps with | .error e => .error e | .ok l => .ok { s with ph := 3, x := { s.x with acts := s.x.acts ++ l } } := by
  unfold actRes rdActs actLine
  simp only [List.headD_cons, List.tail_cons]
  cases kindOf p with
  | none => rfl
  | some k => simp only; cases actRest s.x.acts.length k ps <;> rfl
/-- What the state holds behind a line of acts. -/
theorem act_end {sb base : Nat} {w w7 : World} {s : Rd} {ca aa : Option Addr} {cc ac : Nat} {v2 : Value} {lvs : List Value} {la : List Ac} (hph : 2 ≤ s.ph) (hB : w.heap.size ≤ base) (hlb : sb < w.heap.size)
    (hcv : SlN (sb < ·) w (.slice ca s.x.clients.length cc) s.x.clients.length (clVals s.x.clients lvs))
    (hlv : ∀ (i : Nat) (c : Cl) (lv : Value), s.x.clients[i]? = some c → lvs[i]? = some lv → SlN (sb < ·) w lv c.lines.length (svals c.lines)) (hlen : lvs.length = s.x.clients.length)
    (S7 : StM (· = sb) w w7 [(sb, #[.int .i64 (rHead s.ph), .bool (rOpen s), .int .i64 s.x.lines, .int .i64 s.x.most, .int .i64 s.x.room, .int .i64 s.x.delay, .int .i64 s.x.buckets, .slice ca s.x.clients.length cc, .slice aa s.x.acts.length ac], 62)])
    (RX : w7.ownsRow base 67 4 v2 (s.x.acts ++ la).length (acVals (s.x.acts ++ la))) :
    RefRes sb w (.ok { s with ph := 3, x := { s.x with acts := s.x.acts ++ la } }) (.returned (.int .i64 0)) ((w7.setCell ⟨sb, 8, none⟩ v2).setCell ⟨sb, 1, none⟩ (.bool false)) := by
  have S8 := StM.set 0 (o := 1) (v := .bool false) (StM.set 0 (o := 8) (v := v2) S7 rfl) rfl
  have RX8 : ((w7.setCell ⟨sb, 8, none⟩ v2).setCell ⟨sb, 1, none⟩ (.bool false)).ownsRow base 67 4 v2 (s.x.acts ++ la).length (acVals (s.x.acts ++ la)) :=
    World.ownsRow.same RX (fun g hg => by
      have := (World.ownsRow.lt RX g hg).1
      have e1 : g ≠ sb := by omega
      rw [Below.heap_setCell _ _ _ _ e1, Below.heap_setCell _ _ _ _ e1])
  have hop : rOpen { s with ph := 3, x := { s.x with acts := s.x.acts ++ la } } = false := by simp [rOpen]
  have hrh : rHead s.ph = 2 := by unfold rHead; rw [if_neg (by omega), if_neg (by omega)]
  refine ⟨rfl, ⟨.slice ca s.x.clients.length cc, v2, ?_, World.ownsRow.slN RX8 (by omega), lvs, hlen, hcv.turned S8.turn (fun b hb e => by omega) (fun h => clVals_ne h hlen), fun i d lv hd hv => (hlv i d lv hd hv).turned S8.turn (fun b hb e => by omega) svals_ne⟩, S8.turn⟩
  have := S8.blk 0 rfl
  unfold refCells
  rw [hop]
  rw [hrh] at this
  exact this
theorem actRest_one {hv k n : Nat} {ps : List Bytes} (hn : formN k = n) (h : ps.length = n) : actRest hv k ps = match nums ps with | none => .error eNumber | some l => if 2000 < 1 + hv then .error eLimit else .ok (List.replicate 1 ⟨k, ((l ++ [0, 0, 0]).getD 0 0 : Nat), ((l ++ [0, 0, 0]).getD 1 0 : Nat), ((l ++ [0, 0, 0]).getD 2 0 : Nat)⟩) := by
  rw [actRest_q (many := false) (qs := ps) (tm := [49]) hn (by symm; apply decide_eq_false; omega) rfl rfl, actQ_go h, nums_snoc, show num [49] = some 1 by decide +kernel]
  cases hn2 : nums ps with
  | none => rfl
  | some l =>
    have hl : l.length = n := by rw [nums_length hn2, h]
    simp only
    have h1 : 1 = (l ++ [1]).getD n 0 := by rw [List.getD_eq_getElem?_getD, List.getElem?_append_right (by omega), hl, Nat.sub_self]; rfl
    have ht : (l ++ [1]).take n = l := by rw [List.take_append_of_le_length (by omega), List.take_of_length_le (by omega)]
    by_cases hb : 2000 < 1 + hv
    · rw [if_pos hb, actN_big h1 (by omega) hb]
    · rw [if_neg hb, actN_ok h1 (by omega) hb, ht]
theorem actRest_many {hv k n : Nat} {ps : List Bytes} {tm : Bytes} (hn : formN k = n) (h : ps.length = n + 2) (hs : ps.getD n [] = [42]) (ht : ps[n + 1]? = some tm) : actRest hv k ps = match nums (ps.take n) with
    | none => .error eNumber
    | some l => match num tm with
      | none => .error eNumber
      | some m => if m = 0 then .error eNumber else if 2000 < m + hv then .error eLimit else .ok (List.replicate m ⟨k, ((l ++ [0, 0, 0]).getD 0 0 : Nat), ((l ++ [0, 0, 0]).getD 1 0 : Nat), ((l ++ [0, 0, 0]).getD 2 0 : Nat)⟩) := by
  rw [actRest_q (many := true) (qs := ps.take n) (tm := tm) hn (by symm; exact decide_eq_true ⟨h, hs⟩) rfl (by rw [List.getD_eq_getElem?_getD, ht]; rfl), actQ_go (by simp; omega), nums_snoc]
  cases hn2 : nums (ps.take n) with
  | none => rfl
  | some l =>
    have hl : l.length = n := by rw [nums_length hn2]; simp; omega
    cases hm : num tm with
    | none => rfl
    | some m =>
      simp only
      have h1 : m = (l ++ [m]).getD n 0 := by rw [List.getD_eq_getElem?_getD, List.getElem?_append_right (by omega), hl, Nat.sub_self]; rfl
      have ht : (l ++ [m]).take n = l := by rw [List.take_append_of_le_length (by omega), List.take_of_length_le (by omega)]
      by_cases h0 : m = 0
      · rw [if_pos h0, actN_zero (by rw [← h1, h0])]
      · rw [if_neg h0]
        by_cases hb : 2000 < m + hv
        · rw [if_pos hb, actN_big h1 h0 hb]
        · rw [if_neg hb, actN_ok h1 h0 hb, ht]
theorem actRest_no {hv k n : Nat} {ps : List Bytes} (hn : formN k = n) (h1 : ¬ ps.length = n) (h2 : ¬ (ps.length = n + 2 ∧ ps.getD n [] = [42])) : actRest hv k ps = .error eSyntax := by
  rw [actRest_q (many := false) (qs := ps) (tm := [49]) hn (by symm; exact decide_eq_false h2) rfl rfl, actQ_no h1]
end Go.Proofs.YtialgdnkkjmpbaaGreatDoor
