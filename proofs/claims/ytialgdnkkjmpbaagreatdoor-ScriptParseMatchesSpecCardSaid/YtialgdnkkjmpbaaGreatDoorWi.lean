/-
  Walks: the reader of clients of the package script: a new client; all ways together. Conditions: the variables of the program's text are there. Of what was there only the reader and its rows turn.
-/
import Derived.Test.YtialgdnkkjmpbaaGreatDoorWh
namespace Go.Proofs.YtialgdnkkjmpbaaGreatDoor
open Go.RowKit Go.Sort

set_option maxRecDepth 100000 in
set_option maxHeartbeats 2000000 in
/-- The way of a new client. -/
theorem clients_new (base rb : Nat) (w : World) (s : Rd) (line : ByteArray) (v : Value) (parts : List Bytes) (he : Env w) (hr : Rdr base rb w s) (hv : SlAt w v parts.length (svals parts)) (hne : parts ≠ []) (hl : parts.length ≤ 1000000) (hs : ∀ p ∈ parts, p.length ≤ 1000000)
    (h1 : ¬ (line.data.toList.take 2 = [124, 32] ∧ s.opn = true)) (h2 : parts.headD [] = wClient) (hcm : s.x.clients.length ≤ 8) :
    Calls Tryz.prog 61 #[.pointer (some ⟨rb, 0, none⟩), .string line, v] w (RdRes base rb w (rdClients s line.data.toList parts)) := by
  have HF : Hid (rdClients s line.data.toList parts = rdClient s parts) := by
    show _ = _
    unfold rdClients
    rw [if_neg h1, if_neg (not_not_intro h2)]
  obtain ⟨p, ps, rfl⟩ : ∃ p ps, parts = p :: ps := by cases parts with | nil => exact absurd rfl hne | cons p ps => exact ⟨p, ps, rfl⟩
  obtain ⟨cv, av, lvs, hR⟩ := hr
  obtain ⟨a, cap, rfl, hcap, hcells⟩ := hv
  obtain ⟨b, o, rfl, hat⟩ := hcells (by simp)
  have hlt : b < w.heap.size := hat.lt (by simp [svals])
  have hrb : rb < w.heap.size := (Array.getElem?_eq_some_iff.1 hR.blk).1
  have x0 : w.cell? ⟨b, o, none⟩ = some (.string ⟨p.toArray⟩) := hat 0 _ rfl
  have x1 : w.cell? ⟨rb, 8, none⟩ = some (.bool s.opn) := by simp only [World.cell?, hR.blk]; rfl
  obtain ⟨t1, t2, t3, t4⟩ := str_lit p [99, 108, 105, 101, 110, 116] true (decide_eq_true (by simpa [wClient] using h2))
  obtain ⟨pr, hpr⟩ : ∃ pr, decide (line.data.toList.take 2 = [124, 32]) = pr := ⟨_, rfl⟩
  have C1 := Lib.hid (cutPrefix_any line pr hpr w)
  have hpo : pr = false ∨ (pr = true ∧ s.opn = false) := by
    rw [← hpr]
    by_cases e : line.data.toList.take 2 = [124, 32]
    · right; exact ⟨decide_eq_true e, by cases ho : s.opn with | false => rfl | true => exact absurd ⟨e, ho⟩ h1⟩
    · left; exact decide_eq_false e
  have HR := Lib.hid hR
  have HE := Lib.hid he
  obtain ⟨ca, cc, rfl⟩ : ∃ ca cc, cv = .slice ca s.x.clients.length cc := by
    obtain ⟨aa, ac, e, _⟩ := (hR.rows.own ⟨48, 2, cv, s.x.clients.length, clVals s.x.clients lvs⟩ (by simp [rdRows])).slAt
    exact ⟨aa, ac, e⟩
  clear h1 h2 hpr hne he
  by_cases h2 : ps.length = 1
  · obtain ⟨q, rfl⟩ : ∃ q, ps = [q] := by
      match ps, h2 with
      | [q], _ => exact ⟨q, rfl⟩
    have HT : Hid (SlAt w (.slice (some ⟨b, o + 1, none⟩) 1 (cap - 1)) 1 (svals [q])) := slAt_tail (n := 1) (by simpa using hcap) hat
    have C := Lib.hid (fun w he h => numbers_any (.slice (some ⟨b, o + 1, none⟩) 1 (cap - 1)) [q] w he h (by simp) (fun p hp => hs p (by simp at hp; simp [hp])))
    have hc1 : 1 < cap := by simp at hcap; omega
    have HC : Hid (rdClient s [p, q] = match nums [q] with | none => .error eNumber | some l => if s.x.clients.length = 8 then .error eLimit else .ok { s with opn := true, x := { s.x with clients := s.x.clients ++ [⟨l.getD 0 0, []⟩] } }) := by
      show _ = _
      unfold rdClient
      rw [if_neg (by simp)]
      rfl
    rw [HC.out] at HF
    clear hR hat hs hcells h2 HC
    simp only [List.length_cons, List.length_nil]
    have C2 := Lib.hid (C.out w HE.out HT.out)
    rcases hpo with rfl | ⟨rfl, ho⟩
    all_goals
      (try rw [ho] at x1)
      (try clear ho)
      go_enter Tryz.func61, Tryz.ntmps61
      go_wp2_with fail
      refine Calls.mono C1.out ?_
      rintro e w1 ⟨rfl, rfl⟩
      go_wp2_with fail
      refine Calls.mono C2.out ?_
      intro e w1 hres
      unfold NumsRes at hres
      cases hn : nums [q] with
      | none =>
        rw [hn] at hres HF
        obtain ⟨rfl, hb1⟩ := hres
        have HB1 := Lib.hid hb1
        clear hb1 hn
        go_wp2_with fail
        go_returns
        rw [HF.out]
        exact ⟨rfl, Turn.of_below HB1.out⟩
      | some l =>
        rw [hn] at hres HF
        have hln := nums_length hn
        obtain ⟨n, rfl⟩ : ∃ n, l = [n] := by
          match l, hln with
          | [n], _ => exact ⟨n, rfl⟩
        obtain ⟨v1, rfl, hown, hb1⟩ := hres
        have S1 : Hid (St w w1 []) := (St.start w).kept hb1
        have r5 : w1.cell? ⟨rb, 5, none⟩ = some (.slice ca s.x.clients.length cc) := by
          have := S1.out.below.blk_kept HR.out.blk
          simp only [World.cell?, this]; rfl
        have HO1 := Lib.hid hown
        obtain ⟨a1, cap1, rfl, hc2, hcl⟩ := hown.slAt
        obtain ⟨b1, o1, rfl, hat1⟩ := hcl (by simp)
        clear hb1 hn hcl hown x0 x1 hln
        by_cases h8 : s.x.clients.length = 8
        · have HF8 : Hid (rdClients s line.data.toList [p, q] = .error eLimit) := by show _ = _; rw [HF.out]; simp only [h8, if_true]
          have u1 : ((s.x.clients.length : Int) == 8) = true := by simp; omega
          have u2 : (s.x.clients.length == 8) = true := by simp; omega
          clear h8
          go_wp2_with fail
          go_returns
          rw [HF8.out]
          exact ⟨rfl, Turn.of_below S1.out.below⟩
        · have HF9 : Hid (rdClients s line.data.toList [p, q] = .ok { s with opn := true, x := { s.x with clients := s.x.clients ++ [⟨n, []⟩] } }) := by show _ = _; rw [HF.out]; simp only [if_neg h8]; rfl
          have u1 : ((s.x.clients.length : Int) == 8) = false := by simp; omega
          have u2 : (s.x.clients.length == 8) = false := by simp; omega
          obtain ⟨M, HMM⟩ : ∃ M : Nat → Prop, Hid (M = fun k => (Value.slice ca s.x.clients.length cc).ownBlock = some k) := ⟨_, rfl⟩
          have hMb : ∀ k, M k → base ≤ k ∧ k < w.heap.size := fun k hk => by
            rw [HMM.out] at hk
            exact World.ownsRow.lt (HR.out.rows.own ⟨48, 2, .slice ca s.x.clients.length cc, s.x.clients.length, clVals s.x.clients lvs⟩ (by simp [rdRows])) k hk
          have hb1w : w.heap.size ≤ b1 := (World.ownsRow.lt HO1.out b1 rfl).1
          have hb1l : b1 < w1.heap.size := (World.ownsRow.lt HO1.out b1 rfl).2
          have hnb : ¬ M b1 := fun h => by have := (hMb b1 h).2; omega
          have hnr : ¬ M rb := fun h => by have := (hMb rb h).1; have := HR.out.lt; omega
          have y0 : ∀ p : TurnW M w1, p.w.cell? ⟨b1, o1, none⟩ = some (.int .i64 (n : Int)) := fun p => (hat1.same (p.h.block b1 hb1l hnb)) 0 _ rfl
          have hrb1 : rb < w1.heap.size := Nat.lt_of_lt_of_le hrb S1.out.below.size
          have y5 : ∀ p : TurnW M w1, p.w.cell? ⟨rb, 5, none⟩ = some (.slice ca s.x.clients.length cc) := fun p => by
            rw [World.cell?_of_block (a := ⟨rb, 5, none⟩) (p.h.block rb hrb1 hnr)]; exact r5
          have HMb := Lib.hid hMb
          clear h8 hMb hat1
          simp only [List.length_cons, List.length_nil] at hc2 ⊢
          go_wp2_with fail
          refine wp_region_mixedT (M) 12 [(0, false), (1, false), (2, false), (3, false), (4, false), (5, false), (6, false), (7, false), (8, false), (9, false), (10, true), (11, true)] (by kernel_rfl) (by kernel_rfl) ?_
          repeat (refine wpM_mildT rfl (fun K hK => ?_); go_simp; first | (refine hK _ ?_; clear hK K) | (apply Exists.intro; refine ⟨fun _ => ?_, hK _ ?_⟩; (fail); clear hK K))
          refine wpM_effT rfl ?_
          intro w8 hb8 ht8
          have S8 := Lib.hid (S1.out.kept hb8)
          clear y0 y5
          go_wp2_with fail
          refine ⟨ht8.step ((Below.refl _ _).alloc (Nat.le_refl _) _), wpM_effT rfl ?_⟩
          intro w9 hb9 ht9
          have S9 := Lib.hid (S8.out.laid.kept hb9)
          have HSL9 : Hid (SlAt w9 (.slice (some ⟨w8.heap.size, 0, none⟩) 1 1) 1 [.int .i64 (n : Int), .slice none 0 0]) := (slAt_new w8 #[.int .i64 (n : Int), .slice none 0 0] 48 1 1 (by decide)).kept hb9
          have hsz9 : base ≤ w9.heap.size := Nat.le_trans HR.out.size S9.out.below.size
          clear hb9 ht8 hb8 S8
          refine wpList_append_rows rfl (.tmp 97) (.tmp 102) 25 rfl 48 (.agg #[.int .i64 0, .slice none 0 0]) 2 32 Tryz.underlying25 info48 rfl (by decide) base (rdRows s.x (.slice ca s.x.clients.length cc) av lvs) (HR.out.rows.kept S9.out.below) 0 (.slice ca s.x.clients.length cc) s.x.clients.length (clVals s.x.clients lvs) rfl rfl (.slice (some ⟨w8.heap.size, 0, none⟩) 1 1) 1 [.int .i64 (n : Int), .slice none 0 0] rfl (by decide) HSL9.out rfl (by simp [Value.oneCell']) (by omega) (by unfold maxLen; omega) hsz9 ?_
          intro v12 w12 hrows ht12 hv12
          obtain ⟨g12, c12, rfl⟩ := hv12
          have ht12M : Turn M w9 w12 := by rw [HMM.out]; exact ht12
          have HT12 : Hid (Turn M w1 w12) := ht9.trans ht12M (fun i _ h => h)
          have S12 : Hid (StM (RdM base rb) w w12 [(rb, rdCells rb s (.slice ca s.x.clients.length cc) av, 53)]) := by
            have h11 := S9.out.below.blk_kept HR.out.blk
            exact (show StM (RdM base rb) w w9 [(rb, rdCells rb s (.slice ca s.x.clients.length cc) av, 53)] from ⟨Turn.of_below S9.out.below, by simp [RdM, h11], by simp⟩).turned ht12M (fun i _ h => .inr (HMb.out i h).1) (by simp [hnr])
          have HRW := Lib.hid hrows
          clear hrows ht12 ht12M ht9
          go_wp2_with fail
          refine ⟨HT12.out, wpM_tailT ?_⟩
          intro w13 hb13 _
          have HRW13 := Lib.hid (HRW.out.kept hb13)
          have hsz13 : base ≤ w13.heap.size := Nat.le_trans HR.out.size (S12.out.kept hb13).turn.size
          refine StM.call (S12.out) hb13 ?_
          intro S13
          clear hb13
          try (simp only [List.set_cons_zero, List.set_cons_succ, List.setIfInBounds_toArray, World.size_alloc] at S13)
          have F13 := S13.out.facts
          simp only [St.Facts, apartFacts, and_true] at F13
          simp only [rdCells, cellFacts, and_true] at F13
          simp only [List.drop_succ_cons, List.drop_zero]
          go_wp2_with fail
          go_returns
          rw [HF9.out]
          have S14 := StM.set 0 (o := 8) (v := .bool true) (StM.set 0 (o := 5) (v := .slice (some ⟨g12, 0, none⟩) (s.x.clients.length + 1) c12) S13.out rfl) rfl
          refine ⟨rfl, ⟨.slice (some ⟨g12, 0, none⟩) (s.x.clients.length + 1) c12, av, lvs ++ [.slice none 0 0], ?_⟩, S14.turn⟩
          refine ⟨HR.out.lt, by simpa using hsz13, HR.out.low, S14.blk 0 rfl, by simp [HR.out.len], ?_⟩
          have hrw := ((HRW13.out.setCell (o := 5) (u := .slice (some ⟨g12, 0, none⟩) (s.x.clients.length + 1) c12) HR.out.lt).setCell (o := 8) (u := .bool true) HR.out.lt).snoc 9 1
          unfold rdRows
          rw [clRows_snoc _ _ _ _ HR.out.len, clVals_snoc _ _ _ _ HR.out.len]
          simp only [List.length_append, List.length_cons, List.length_nil, Nat.zero_add]
          exact hrw
  · have HF2 : Hid (rdClients s line.data.toList (p :: ps) = .error eSyntax) := by
      show _ = _
      rw [HF.out]
      unfold rdClient
      rw [if_pos (by simpa using h2)]
    have h3 : ((ps.length : Int) + 1 != 2) = true := by simp; omega
    have h4 : (ps.length + 1 != 2) = true := by simp; omega
    have h5 : (((ps.length + 1 : Nat) : Int) != 2) = true := by simp; omega
    clear hR hat hs hcells h2
    simp only [List.length_cons]
    rcases hpo with rfl | ⟨rfl, ho⟩
    all_goals
      (try rw [ho] at x1)
      (try clear ho)
      go_enter Tryz.func61, Tryz.ntmps61
      go_wp2_with fail
      refine Calls.mono C1.out ?_
      rintro e w1 ⟨rfl, rfl⟩
      go_wp2_with fail
      go_returns
      rw [HF2.out]
      exact ⟨rfl, Turn.refl _ _⟩

theorem clients_any (base rb : Nat) (w : World) (s : Rd) (line : ByteArray) (v : Value) (parts : List Bytes) (he : Env w) (hr : Rdr base rb w s) (hph : s.ph = 2) (hv : SlAt w v parts.length (svals parts)) (hne : parts ≠ []) (hl : parts.length ≤ 1000000) (hs : ∀ p ∈ parts, p.length ≤ 1000000) (ha : s.x.acts.length ≤ 2000)
    (hcm : s.x.clients.length ≤ 8) (hll : ∀ c ∈ s.x.clients, c.lines.length ≤ 100) (hop : s.opn = true → s.x.clients ≠ []) :
    Calls Tryz.prog 61 #[.pointer (some ⟨rb, 0, none⟩), .string line, v] w (RdRes base rb w (rdClients s line.data.toList parts)) := by
  by_cases h1 : line.data.toList.take 2 = [124, 32] ∧ s.opn = true
  · exact clients_text base rb w s line v parts hr (hop h1.2) hcm hll h1.1 h1.2
  · by_cases h2 : parts.headD [] = wClient
    · exact clients_new base rb w s line v parts he hr hv hne hl hs h1 h2 hcm
    · exact clients_acts base rb w s line v parts he hr hph hv hne hl hs ha h1 h2
end Go.Proofs.YtialgdnkkjmpbaaGreatDoor
