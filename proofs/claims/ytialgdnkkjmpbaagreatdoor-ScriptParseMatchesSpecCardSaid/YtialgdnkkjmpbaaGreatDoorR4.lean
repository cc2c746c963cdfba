/-
  Walks: the reference's reading of the first line of a client. Of what was there only the state's block turns.
-/
import Derived.Test.YtialgdnkkjmpbaaGreatDoorR3
namespace Go.Proofs.YtialgdnkkjmpbaaGreatDoor
open Go.RowKit Go.Sort

def clientRes (s : Rd) (parts : List Bytes) : Except Int Rd := if 0 < s.x.acts.length then .error eSyntax else rdClient s parts
theorem slAt_grown {w w' : World} {b : Nat} {k : Option Nat} {n c : Nat} {cs : List Value} (h : SlAt w (.slice (some ⟨b, 0, none⟩) n c) n cs) (hg : w.grownBy w' k) (hne : some b ≠ k) : SlAt w' (.slice (some ⟨b, 0, none⟩) n c) n cs := by
  obtain ⟨a, cap, e, hc, hcl⟩ := h
  refine ⟨a, cap, e, hc, fun hn => ?_⟩
  obtain ⟨b', o, e2, hat⟩ := hcl hn
  refine ⟨b', o, e2, ?_⟩
  simp only [Value.slice.injEq] at e
  rw [← e.1] at e2
  simp only [Option.some.injEq, Addr.mk.injEq, and_true] at e2
  obtain ⟨rfl, rfl⟩ := e2
  intro j u hu
  have hx := hat j u hu
  rw [World.cell?_of_block (a := ⟨b, 0 + j, none⟩) (hg.block b (block_lt_of_cell hx) hne)]
  exact hx
/-- What the state holds behind a new client. -/
theorem client_end {sb base : Nat} {w w7 : World} {s : Rd} {ca aa : Option Addr} {cc ac n : Nat} {v2 : Value} {lvs : List Value} (hph : s.ph = 2) (hB : w.heap.size ≤ base) (hlb : sb < w.heap.size)
    (hav : SlN (sb < ·) w (.slice aa s.x.acts.length ac) s.x.acts.length (acVals s.x.acts))
    (hlv : ∀ (i : Nat) (c : Cl) (lv : Value), s.x.clients[i]? = some c → lvs[i]? = some lv → SlN (sb < ·) w lv c.lines.length (svals c.lines)) (hlen : lvs.length = s.x.clients.length)
    (S7 : StM (· = sb) w w7 [(sb, #[.int .i64 (rHead s.ph), .bool (rOpen s), .int .i64 s.x.lines, .int .i64 s.x.most, .int .i64 s.x.room, .int .i64 s.x.delay, .int .i64 s.x.buckets, .slice ca s.x.clients.length cc, .slice aa s.x.acts.length ac], 62)])
    (RX : w7.ownsRow base 48 2 v2 (s.x.clients.length + 1) (clVals s.x.clients lvs ++ [.int .i64 (n : Int), .slice none 0 0])) :
    RefRes sb w (.ok { s with opn := true, x := { s.x with clients := s.x.clients ++ [⟨n, []⟩] } }) (.returned (.int .i64 0)) ((w7.setCell ⟨sb, 7, none⟩ v2).setCell ⟨sb, 1, none⟩ (.bool true)) := by
  have S8 := StM.set 0 (o := 1) (v := .bool true) (StM.set 0 (o := 7) (v := v2) S7 rfl) rfl
  have RX8 : ((w7.setCell ⟨sb, 7, none⟩ v2).setCell ⟨sb, 1, none⟩ (.bool true)).ownsRow base 48 2 v2 (s.x.clients.length + 1) (clVals s.x.clients lvs ++ [.int .i64 (n : Int), .slice none 0 0]) :=
    World.ownsRow.same RX (fun g hg => by
      have := (World.ownsRow.lt RX g hg).1
      have e1 : g ≠ sb := by omega
      rw [Below.heap_setCell _ _ _ _ e1, Below.heap_setCell _ _ _ _ e1])
  have hop : rOpen { s with opn := true, x := { s.x with clients := s.x.clients ++ [⟨n, []⟩] } } = true := by simp [rOpen, hph]
  refine ⟨rfl, ⟨v2, .slice aa s.x.acts.length ac, ?_, hav.turned S8.turn (fun b hb e => by omega) acVals_ne, lvs ++ [.slice none 0 0], by simp [hlen], ?_, ?_⟩, S8.turn⟩
  · have := S8.blk 0 rfl
    unfold refCells
    rw [hop]
    exact this
  · have := World.ownsRow.slN RX8 (sb := sb) (by omega)
    rw [clVals_snoc _ lvs _ _ hlen, List.length_append]
    exact this
  · intro i d lv hd hv
    simp only at hd
    rcases Nat.lt_or_ge i s.x.clients.length with hi | hi
    · rw [List.getElem?_append_left hi] at hd
      rw [List.getElem?_append_left (by omega)] at hv
      exact (hlv i d lv hd hv).turned S8.turn (fun b hb e => by omega) svals_ne
    · rw [List.getElem?_append_right hi] at hd
      rw [List.getElem?_append_right (by omega), hlen] at hv
      have hi0 : i - s.x.clients.length = 0 := by
        have := (List.getElem?_eq_some_iff.1 hd).1
        simp at this; omega
      rw [hi0] at hd hv
      simp only [List.getElem?_cons_zero, Option.some.injEq] at hd hv
      subst hd hv
      exact slN_nil _ _
set_option maxRecDepth 100000 in
set_option maxHeartbeats 8000000 in
theorem client_ref (sb : Nat) (w : World) (s : Rd) (v : Value) (parts : List Bytes) (hr : RefAt sb w s) (hph : s.x.acts.length = 0 → s.ph = 2) (hcm : s.x.clients.length ≤ 8) (hv : SlAt w v parts.length (svals parts)) (hne : parts ≠ []) (hl : parts.length ≤ 1000000) (hs : ∀ p ∈ parts, p.length ≤ 1000000) :
    Calls Tryz.prog 45 #[.pointer (some ⟨sb, 0, none⟩), v] w (RefRes sb w (clientRes s parts)) := by
  obtain ⟨p, ps, rfl⟩ : ∃ p ps, parts = p :: ps := by cases parts with | nil => exact absurd rfl hne | cons p ps => exact ⟨p, ps, rfl⟩
  obtain ⟨cv, av, hblk, hsc⟩ := hr
  obtain ⟨hav, lvs, hlen, hcv, hlv⟩ := hsc
  obtain ⟨⟨aa, ac, rfl, hac, _⟩, _⟩ := id hav
  obtain ⟨⟨ca, cc, rfl, hcc, _⟩, _⟩ := id hcv
  obtain ⟨a, cap, rfl, hcap, hcells⟩ := hv
  obtain ⟨b, o, rfl, hat⟩ := hcells (by simp)
  have hlt : b < w.heap.size := hat.lt (by simp [svals])
  have hlb : sb < w.heap.size := (Array.getElem?_eq_some_iff.1 hblk).1
  have S0 : Hid (StM (· = sb) w w [(sb, refCells s (.slice ca s.x.clients.length cc) (.slice aa s.x.acts.length ac), 62)]) := StM.one rfl hblk
  have F0 := S0.out.facts
  simp only [refCells, St.Facts, cellFacts, apartFacts, and_true] at F0
  simp only [List.length_cons] at hcap hl
  by_cases ha : 0 < s.x.acts.length
  · have HF : Hid (clientRes s (p :: ps) = .error eSyntax) := by show _ = _; unfold clientRes; rw [if_pos ha]
    have t1 : decide (0 < (s.x.acts.length : Int)) = true := by simp; omega
    have t2 : (0 : Int) < (s.x.acts.length : Int) := by omega
    clear hav hcv hlv hblk hat hs hcells hph
    simp only [List.length_cons]
    go_enter Tryz.func45, Tryz.ntmps45
    go_wp2_with fail
    go_returns
    rw [HF.out]
    exact ⟨rfl, Turn.refl _ _⟩
  · have t2 : ¬ (0 : Int) < (s.x.acts.length : Int) := by omega
    have t3 : decide (0 < s.x.acts.length) = false := decide_eq_false ha
    by_cases h2 : ps.length = 1
    · obtain ⟨q, rfl⟩ : ∃ q, ps = [q] := by
        match ps, h2 with
        | [q], _ => exact ⟨q, rfl⟩
      have HT : Hid (SlAt w (.slice (some ⟨b, o + 1, none⟩) 1 (cap - 1)) 1 (svals [q])) := slAt_tail (n := 1) (by simpa using hcap) hat
      have C := Lib.hid (fun w h => all_ref (.slice (some ⟨b, o + 1, none⟩) 1 (cap - 1)) [q] w h (by simp) (fun p hp => hs p (by simp at hp; simp [hp])))
      have hc1 : 1 < cap := by simp at hcap; omega
      have HF : Hid (clientRes s [p, q] = match nums [q] with | none => .error eNumber | some l => if s.x.clients.length = 8 then .error eLimit else .ok { s with opn := true, x := { s.x with clients := s.x.clients ++ [⟨l.getD 0 0, []⟩] } }) := by
        show _ = _
        unfold clientRes rdClient
        rw [if_neg ha, if_neg (by simp)]
        rfl
      have HPH : Hid (s.ph = 2) := hph (by omega)
      have HOC : Hid (∀ u ∈ clVals s.x.clients lvs, u.oneCell' = true) := by
        show ∀ u ∈ _, _
        intro u hu
        refine clVals_one _ lvs (fun v hv => ?_) u hu
        obtain ⟨i, hi⟩ := List.mem_iff_getElem?.1 hv
        have hil := (List.getElem?_eq_some_iff.1 hi).1
        have := (hlv i (s.x.clients[i]'(by omega)) v (by simp) hi).1
        obtain ⟨a, cp, rfl, _⟩ := this
        rfl
      have HVL : Hid ((clVals s.x.clients lvs).length = s.x.clients.length * 2) := clVals_len _ _ hlen
      have HCN := Lib.hid hcv.2
      have HCV := Lib.hid hcv.1.slAt
      have HAV := Lib.hid hav
      have HLA := Lib.hid hlv
      have HLL := Lib.hid hlen
      clear hav hcv hlv hblk hat hs hcells hph ha h2 hlen
      simp only [List.length_cons, List.length_nil]
      go_enter Tryz.func45, Tryz.ntmps45
      go_wp2_with fail
      refine Calls.mono (C.out _ HT.out) ?_
      intro e w1 hres
      unfold NumsRes at hres
      cases hn : nums [q] with
      | none =>
        rw [hn] at hres HF
        obtain ⟨rfl, hb1⟩ := hres
        have S1 := Lib.hid (S0.out.kept hb1)
        clear hb1 hn
        go_wp2_with fail
        go_returns
        rw [HF.out]
        exact ⟨rfl, S1.out.turn⟩
      | some l =>
        rw [hn] at hres HF
        have hln := nums_length hn
        obtain ⟨n, rfl⟩ : ∃ n, l = [n] := by
          match l, hln with
          | [n], _ => exact ⟨n, rfl⟩
        obtain ⟨v1, rfl, hown, hb1⟩ := hres
        obtain ⟨a1, cap1, rfl, hc2, hcl⟩ := hown.slAt
        obtain ⟨b1, o1, rfl, hat1⟩ := hcl (by simp)
        have S1 := Lib.hid (S0.out.kept hb1)
        have HB1 := Lib.hid hb1
        clear hb1 hn hcl hown F0 hln
        simp only [refCells] at S1
        have F1 := S1.out.facts
        simp only [St.Facts, cellFacts, apartFacts, and_true] at F1
        by_cases h8 : s.x.clients.length = 8
        · have HF8 : Hid (clientRes s [p, q] = .error eLimit) := by show _ = _; rw [HF.out]; simp only [h8, if_true]
          have u1 : ((s.x.clients.length : Int) == 8) = true := by simp; omega
          have u2 : (s.x.clients.length == 8) = true := by simp; omega
          clear h8
          go_wp2_with fail
          go_returns
          rw [HF8.out]
          exact ⟨rfl, S1.out.turn⟩
        · have HF9 : Hid (clientRes s [p, q] = .ok { s with opn := true, x := { s.x with clients := s.x.clients ++ [⟨n, []⟩] } }) := by show _ = _; rw [HF.out]; simp only [if_neg h8]; rfl
          have u1 : ((s.x.clients.length : Int) == 8) = false := by simp; omega
          have u2 : (s.x.clients.length == 8) = false := by simp; omega
          have y0 : ∀ (d : Nat) (os : Array Obj), (grow (redrawn w1 d) os).cell? ⟨b1, o1, none⟩ = some (.int .i64 (n : Int)) := fun d os => (hat1.kept (below_regrown w1 d os)) 0 _ rfl
          have y5 : ∀ (d : Nat) (os : Array Obj), (grow (redrawn w1 d) os).cell? ⟨sb, 7, none⟩ = some (.slice ca s.x.clients.length cc) := fun d os => (below_regrown w1 d os).cell_kept F1.2.2.2.2.2.2.2.2.1.1
          clear h8 hat1
          simp only [List.length_cons, List.length_nil] at hc2 ⊢
          go_wp2_with fail
          clear F1
          refine wp_region_plan 17 (.mild 0 (.mild 2 (.mild 3 (.mild 4 (.mild 5 (.mild 6 (.mild 8 (.mild 9 (.mild 10 (.mild 11 (.two 1 (.two 7 (.eff 12 (.eff 13 (.mild 14 (.mild 15 (.mild 16 .stop))))) 12 (.eff 7 (.eff 13 (.mild 14 (.mild 15 (.mild 16 .stop)))))) 12 (.eff 1 (.eff 7 (.eff 13 (.mild 14 (.mild 15 (.mild 16 .stop))))))))))))))))) (by kernel_rfl) (by kernel_rfl) ?_
          repeat (refine wpP_mild rfl (fun K hK => ?_); go_simp; first | (refine hK _ ?_; clear hK K) | (apply Exists.intro; refine ⟨fun _ => ?_, hK _ ?_⟩; (fail); clear hK K))
          refine wpP_two ?_ ?_
          · refine wpP_eff rfl ?_
            intro wa hba hba0
            have HA0 := Lib.hid hba0
            have HAS : Hid (w1.heap.size ≤ wa.heap.size) := hba0.size
            clear hba hba0
            go_wp2_with fail
            refine ⟨HA0.out.alloc HA0.out.size _, ?_⟩
            refine wpP_two ?_ ?_
            · refine wpP_eff rfl ?_
              intro wb hbb hbb0
              have HB0 := Lib.hid hbb0
              have HBS : Hid (wa.heap.size ≤ wb.heap.size) := by have := hbb.size; simp at this; show _ ≤ _; omega
              have RE := Lib.hid (World.ownsRow.later (ownsRow_empty wa 48 2) hbb)
              clear hbb hbb0
              refine wpList_append_any rfl (.tmp 35) (.tmp 40) 25 rfl 48 (.agg #[.int .i64 0, .slice none 0 0]) 2 32 Tryz.underlying25 info48 rfl (by decide) wa.heap.size (.slice (some ⟨wa.heap.size, 0, none⟩) 0 0) 0 [] rfl RE.out (.slice ca s.x.clients.length cc) s.x.clients.length (clVals s.x.clients lvs) rfl HCN.out ((HCV.out.kept HB1.out).kept HB0.out) HVL.out HOC.out (by omega) (by unfold maxLen; omega) HBS.out ?_
              intro v1 wc hown1 hg1
              have hown1' : wc.ownsRow wa.heap.size 48 2 v1 s.x.clients.length (clVals s.x.clients lvs) := by simpa using hown1
              have HC0 : Hid (Below w1.heap.size w1 wc) := HB0.out.grown hg1 HB0.out.size (fun k hk => by simp only [Value.ownBlock, Option.some.injEq] at hk; have := HAS.out; omega)
              have HCS : Hid (wa.heap.size ≤ wc.heap.size) := Nat.le_trans HBS.out hg1.size
              have RC := Lib.hid hown1'
              clear hown1 hown1' hg1
              go_wp2_with fail
              refine ⟨HC0.out, ?_⟩
              refine wpP_eff rfl ?_
              intro wd hbd hbd0
              have HD0 := Lib.hid hbd0
              have RC1 := Lib.hid (World.ownsRow.later RC.out hbd)
              have HDS : Hid (wa.heap.size ≤ wd.heap.size) := Nat.le_trans HCS.out hbd.size
              clear hbd hbd0
              go_wp2_with fail
              refine ⟨HD0.out.alloc HD0.out.size _, ?_⟩
              refine wpP_eff rfl ?_
              intro we hbe hbe0
              have HE0 := Lib.hid hbe0
              have RC2 := Lib.hid (World.ownsRow.later (RC1.out.alloc _) hbe)
              have SD2 := Lib.hid ((slAt_new wd #[.int .i64 (n : Int), .slice none 0 0] 48 1 1 (by decide)).kept hbe)
              have HES : Hid (wa.heap.size ≤ we.heap.size) := by have := hbe.size; simp at this; have := HDS.out; show _ ≤ _; omega
              clear hbe hbe0
              refine wpList_append_any rfl (.tmp 41) (.tmp 46) 25 rfl 48 (.agg #[.int .i64 0, .slice none 0 0]) 2 32 Tryz.underlying25 info48 rfl (by decide) wa.heap.size v1 s.x.clients.length (clVals s.x.clients lvs) rfl RC2.out (.slice (some ⟨wd.heap.size, 0, none⟩) 1 1) 1 [.int .i64 (n : Int), .slice none 0 0] rfl (.inl ⟨_, _, _, rfl⟩) SD2.out rfl (by simp [Value.oneCell']) (by omega) (by unfold maxLen; omega) HES.out ?_
              intro v2 w6 hown2 hg2
              have H6 : Hid (Below w1.heap.size w1 w6) := HE0.out.grown hg2 HE0.out.size (fun k hk => by have := (World.ownsRow.lt RC2.out k hk).1; have := HAS.out; omega)
              obtain ⟨g2, c2, rfl⟩ : ∃ g2 c2, v2 = .slice (some ⟨g2, 0, none⟩) (s.x.clients.length + 1) c2 := by
                obtain ⟨_, ⟨_, h0⟩ | ⟨g, cp, cur, e, _⟩⟩ := hown2
                · omega
                · exact ⟨g, cp, e⟩
              have RX := Lib.hid hown2
              clear hown2 hg2
              go_wp2_with fail
              refine ⟨H6.out, ?_⟩
              repeat (refine wpP_mild rfl (fun K hK => ?_); go_simp; first | (refine hK _ ?_; clear hK K) | (apply Exists.intro; refine ⟨fun _ => ?_, hK _ ?_⟩; (fail); clear hK K))
              refine wpP_tail ?_
              intro w7 hb7 _
              have S7 := Lib.hid ((S1.out.kept H6.out).kept hb7)
              have RX7 := Lib.hid (World.ownsRow.later RX.out hb7)
              clear hb7 y0 y5
              have F7 := S7.out.facts
              simp only [St.Facts, cellFacts, apartFacts, and_true] at F7
              try simp only [List.drop_succ_cons, List.drop_zero]
              go_wp2_with fail
              go_returns
              rw [HF9.out]
              exact client_end HPH.out (by have := HAS.out; have := HB1.out.size; omega) hlb HAV.out HLA.out HLL.out S7.out RX7.out
            · refine wpP_eff rfl ?_
              intro wd hbd hbd0
              have HD0 := Lib.hid hbd0
              have RE1 := Lib.hid (World.ownsRow.later (ownsRow_empty wa 48 2) hbd)
              have HDS : Hid (wa.heap.size < wd.heap.size) := by have := hbd.size; simp at this; show _ < _; omega
              clear hbd hbd0
              go_wp2_with fail
              refine ⟨HD0.out.alloc HD0.out.size _, ?_⟩
              refine wpP_eff rfl ?_
              intro wb hbb hbb0
              have HB0 := Lib.hid hbb0
              have HBS : Hid (wa.heap.size ≤ wb.heap.size) := by have := hbb.size; simp at this; show _ ≤ _; have := HDS.out; omega
              have RE := Lib.hid (World.ownsRow.later (RE1.out.alloc _) hbb)
              have SD0 := Lib.hid ((slAt_new wd #[.int .i64 (n : Int), .slice none 0 0] 48 1 1 (by decide)).kept hbb)
              clear hbb hbb0
              refine wpList_append_any rfl (.tmp 35) (.tmp 40) 25 rfl 48 (.agg #[.int .i64 0, .slice none 0 0]) 2 32 Tryz.underlying25 info48 rfl (by decide) wa.heap.size (.slice (some ⟨wa.heap.size, 0, none⟩) 0 0) 0 [] rfl RE.out (.slice ca s.x.clients.length cc) s.x.clients.length (clVals s.x.clients lvs) rfl HCN.out ((HCV.out.kept HB1.out).kept HB0.out) HVL.out HOC.out (by omega) (by unfold maxLen; omega) HBS.out ?_
              intro v1 wc hown1 hg1
              have hown1' : wc.ownsRow wa.heap.size 48 2 v1 s.x.clients.length (clVals s.x.clients lvs) := by simpa using hown1
              have HC0 : Hid (Below w1.heap.size w1 wc) := HB0.out.grown hg1 HB0.out.size (fun k hk => by simp only [Value.ownBlock, Option.some.injEq] at hk; have := HAS.out; omega)
              have HCS : Hid (wa.heap.size ≤ wc.heap.size) := Nat.le_trans HBS.out hg1.size
              have RC := Lib.hid hown1'
              have SD1 := Lib.hid (slAt_grown SD0.out hg1 (by simp only [Value.ownBlock, ne_eq, Option.some.injEq]; have := HDS.out; omega))
              clear hown1 hown1' hg1
              go_wp2_with fail
              refine ⟨HC0.out, ?_⟩
              refine wpP_eff rfl ?_
              intro we hbe hbe0
              have HE0 := Lib.hid hbe0
              have RC2 := Lib.hid (World.ownsRow.later RC.out hbe)
              have SD2 := Lib.hid (SD1.out.kept hbe)
              have HES : Hid (wa.heap.size ≤ we.heap.size) := Nat.le_trans HCS.out hbe.size
              clear hbe hbe0
              refine wpList_append_any rfl (.tmp 41) (.tmp 46) 25 rfl 48 (.agg #[.int .i64 0, .slice none 0 0]) 2 32 Tryz.underlying25 info48 rfl (by decide) wa.heap.size v1 s.x.clients.length (clVals s.x.clients lvs) rfl RC2.out (.slice (some ⟨wd.heap.size, 0, none⟩) 1 1) 1 [.int .i64 (n : Int), .slice none 0 0] rfl (.inl ⟨_, _, _, rfl⟩) SD2.out rfl (by simp [Value.oneCell']) (by omega) (by unfold maxLen; omega) HES.out ?_
              intro v2 w6 hown2 hg2
              have H6 : Hid (Below w1.heap.size w1 w6) := HE0.out.grown hg2 HE0.out.size (fun k hk => by have := (World.ownsRow.lt RC2.out k hk).1; have := HAS.out; omega)
              obtain ⟨g2, c2, rfl⟩ : ∃ g2 c2, v2 = .slice (some ⟨g2, 0, none⟩) (s.x.clients.length + 1) c2 := by
                obtain ⟨_, ⟨_, h0⟩ | ⟨g, cp, cur, e, _⟩⟩ := hown2
                · omega
                · exact ⟨g, cp, e⟩
              have RX := Lib.hid hown2
              clear hown2 hg2
              go_wp2_with fail
              refine ⟨H6.out, ?_⟩
              repeat (refine wpP_mild rfl (fun K hK => ?_); go_simp; first | (refine hK _ ?_; clear hK K) | (apply Exists.intro; refine ⟨fun _ => ?_, hK _ ?_⟩; (fail); clear hK K))
              refine wpP_tail ?_
              intro w7 hb7 _
              have S7 := Lib.hid ((S1.out.kept H6.out).kept hb7)
              have RX7 := Lib.hid (World.ownsRow.later RX.out hb7)
              clear hb7 y0 y5
              have F7 := S7.out.facts
              simp only [St.Facts, cellFacts, apartFacts, and_true] at F7
              try simp only [List.drop_succ_cons, List.drop_zero]
              go_wp2_with fail
              go_returns
              rw [HF9.out]
              exact client_end HPH.out (by have := HAS.out; have := HB1.out.size; omega) hlb HAV.out HLA.out HLL.out S7.out RX7.out
          · refine wpP_eff rfl ?_
            intro wd hbd hbd0
            have HD0 := Lib.hid hbd0
            clear hbd hbd0
            go_wp2_with fail
            refine ⟨HD0.out.alloc HD0.out.size _, ?_⟩
            refine wpP_eff rfl ?_
            intro wa hba hba0
            have HA0 := Lib.hid hba0
            have HAS : Hid (w1.heap.size ≤ wa.heap.size) := hba0.size
            have HDS : Hid (wd.heap.size < wa.heap.size) := by have := hba.size; simp at this; show _ < _; omega
            have SD0 := Lib.hid ((slAt_new wd #[.int .i64 (n : Int), .slice none 0 0] 48 1 1 (by decide)).kept hba)
            clear hba hba0
            go_wp2_with fail
            refine ⟨HA0.out.alloc HA0.out.size _, ?_⟩
            refine wpP_eff rfl ?_
            intro wb hbb hbb0
            have HB0 := Lib.hid hbb0
            have HBS : Hid (wa.heap.size ≤ wb.heap.size) := by have := hbb.size; simp at this; show _ ≤ _; omega
            have RE := Lib.hid (World.ownsRow.later (ownsRow_empty wa 48 2) hbb)
            have SD0b := Lib.hid ((SD0.out.kept ((Below.refl wa.heap.size wa).alloc (Nat.le_refl _) (.cells #[] 48))).kept hbb)
            clear hbb hbb0
            refine wpList_append_any rfl (.tmp 35) (.tmp 40) 25 rfl 48 (.agg #[.int .i64 0, .slice none 0 0]) 2 32 Tryz.underlying25 info48 rfl (by decide) wa.heap.size (.slice (some ⟨wa.heap.size, 0, none⟩) 0 0) 0 [] rfl RE.out (.slice ca s.x.clients.length cc) s.x.clients.length (clVals s.x.clients lvs) rfl HCN.out ((HCV.out.kept HB1.out).kept HB0.out) HVL.out HOC.out (by omega) (by unfold maxLen; omega) HBS.out ?_
            intro v1 wc hown1 hg1
            have hown1' : wc.ownsRow wa.heap.size 48 2 v1 s.x.clients.length (clVals s.x.clients lvs) := by simpa using hown1
            have HC0 : Hid (Below w1.heap.size w1 wc) := HB0.out.grown hg1 HB0.out.size (fun k hk => by simp only [Value.ownBlock, Option.some.injEq] at hk; have := HAS.out; omega)
            have HCS : Hid (wa.heap.size ≤ wc.heap.size) := Nat.le_trans HBS.out hg1.size
            have RC := Lib.hid hown1'
            have SD1 := Lib.hid (slAt_grown SD0b.out hg1 (by simp only [Value.ownBlock, ne_eq, Option.some.injEq]; have := HDS.out; omega))
            clear hown1 hown1' hg1
            go_wp2_with fail
            refine ⟨HC0.out, ?_⟩
            refine wpP_eff rfl ?_
            intro we hbe hbe0
            have HE0 := Lib.hid hbe0
            have RC2 := Lib.hid (World.ownsRow.later RC.out hbe)
            have SD2 := Lib.hid (SD1.out.kept hbe)
            have HES : Hid (wa.heap.size ≤ we.heap.size) := Nat.le_trans HCS.out hbe.size
            clear hbe hbe0
            refine wpList_append_any rfl (.tmp 41) (.tmp 46) 25 rfl 48 (.agg #[.int .i64 0, .slice none 0 0]) 2 32 Tryz.underlying25 info48 rfl (by decide) wa.heap.size v1 s.x.clients.length (clVals s.x.clients lvs) rfl RC2.out (.slice (some ⟨wd.heap.size, 0, none⟩) 1 1) 1 [.int .i64 (n : Int), .slice none 0 0] rfl (.inl ⟨_, _, _, rfl⟩) SD2.out rfl (by simp [Value.oneCell']) (by omega) (by unfold maxLen; omega) HES.out ?_
            intro v2 w6 hown2 hg2
            have H6 : Hid (Below w1.heap.size w1 w6) := HE0.out.grown hg2 HE0.out.size (fun k hk => by have := (World.ownsRow.lt RC2.out k hk).1; have := HAS.out; omega)
            obtain ⟨g2, c2, rfl⟩ : ∃ g2 c2, v2 = .slice (some ⟨g2, 0, none⟩) (s.x.clients.length + 1) c2 := by
              obtain ⟨_, ⟨_, h0⟩ | ⟨g, cp, cur, e, _⟩⟩ := hown2
              · omega
              · exact ⟨g, cp, e⟩
            have RX := Lib.hid hown2
            clear hown2 hg2
            go_wp2_with fail
            refine ⟨H6.out, ?_⟩
            repeat (refine wpP_mild rfl (fun K hK => ?_); go_simp; first | (refine hK _ ?_; clear hK K) | (apply Exists.intro; refine ⟨fun _ => ?_, hK _ ?_⟩; (fail); clear hK K))
            refine wpP_tail ?_
            intro w7 hb7 _
            have S7 := Lib.hid ((S1.out.kept H6.out).kept hb7)
            have RX7 := Lib.hid (World.ownsRow.later RX.out hb7)
            clear hb7 y0 y5
            have F7 := S7.out.facts
            simp only [St.Facts, cellFacts, apartFacts, and_true] at F7
            try simp only [List.drop_succ_cons, List.drop_zero]
            go_wp2_with fail
            go_returns
            rw [HF9.out]
            exact client_end HPH.out (by have := HAS.out; have := HB1.out.size; omega) hlb HAV.out HLA.out HLL.out S7.out RX7.out
    · have HF : Hid (clientRes s (p :: ps) = .error eSyntax) := by
        show _ = _
        unfold clientRes rdClient
        rw [if_neg ha, if_pos (by simpa using h2)]
      have h3 : ((ps.length : Int) + 1 != 2) = true := by simp; omega
      have h4 : (ps.length + 1 != 2) = true := by simp; omega
      have h5 : (((ps.length + 1 : Nat) : Int) != 2) = true := by simp; omega
      clear hav hcv hlv hblk hat hs hcells h2 ha hph
      simp only [List.length_cons]
      go_enter Tryz.func45, Tryz.ntmps45
      go_wp2_with fail
      go_returns
      rw [HF.out]
      exact ⟨rfl, Turn.refl _ _⟩
end Go.Proofs.YtialgdnkkjmpbaaGreatDoor
