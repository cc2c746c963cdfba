/-
  Walks: the reference's reading of a line. Of what was there only the state's block turns.
-/
import Derived.Test.YtialgdnkkjmpbaaGreatDoorR6
import Derived.Test.YtialgdnkkjmpbaaGreatDoorWo
namespace Go.Proofs.YtialgdnkkjmpbaaGreatDoor
open Go.RowKit Go.Sort

/-- What holds of a state that has been reached by reading. -/
structure RefInv (s : Rd) : Prop where
  ph : s.ph ≤ 3
  early : s.ph < 2 → s.opn = false
  mid : s.ph = 2 → s.x.acts = []
  late : s.ph = 3 → s.x.acts ≠ []
  open_ : s.opn = true → s.x.clients ≠ []
  cl : s.x.clients.length ≤ 8
  ln : ∀ c ∈ s.x.clients, c.lines.length ≤ 100
  ac : s.x.acts.length ≤ 2000
theorem RefInv.of {s : Rd} {L : List Bytes} (h : ReadOk s L) (hl : s.ph = 3 → s.x.acts ≠ []) : RefInv s := by
  have f := formedX h.formed
  refine ⟨h.ph3, fun hp => ?_, h.mid, hl, h.open_, f.cn, fun c hc => (f.c c hc).2, f.an⟩
  cases ho : s.opn with
  | false => rfl
  | true => exact absurd (h.early hp).1 (h.open_ ho)
theorem RefAt.kept {sb : Nat} {w w' : World} {s : Rd} (h : RefAt sb w s) (hb : Below w.heap.size w w') : RefAt sb w' s := by
  obtain ⟨cv, av, h1, h2⟩ := h
  exact ⟨cv, av, hb.blk_kept h1, h2.kept hb⟩
theorem RefRes.later {sb : Nat} {w w1 w' : World} {r : Except Int Rd} {e : Ending} (h : RefRes sb w1 r e w') (hb : Below w.heap.size w w1) : RefRes sb w r e w' := by
  have ht : Turn (· = sb) w1 w' → Turn (· = sb) w w' := fun k => (Turn.of_below hb).trans k (fun i _ h => h)
  cases r with
  | error x => exact ⟨h.1, ht h.2⟩
  | ok s' => exact ⟨h.1, h.2.1, ht h.2.2⟩
theorem RefAt.head {sb : Nat} {w : World} {s : Rd} (h : RefAt sb w s) : w.cell? ⟨sb, 0, none⟩ = some (.int .i64 (rHead s.ph)) ∧ w.cell? ⟨sb, 1, none⟩ = some (.bool (rOpen s)) := by
  obtain ⟨cv, av, h1, _⟩ := h
  exact ⟨by simp only [World.cell?, h1, refCells]; rfl, by simp only [World.cell?, h1, refCells]; rfl⟩
theorem readLn_text {s : Rd} {t : Bytes} (hp : s.ph = 2) (ho : s.opn = true) (ht : t.take 2 = [124, 32]) : readLn s t = textRes s (t.drop 2) := by
  unfold readLn
  simp only [hp]
  unfold rdClients
  rw [if_pos ⟨ht, ho⟩]
  rfl
theorem readLn_client {s : Rd} {t : Bytes} (hi : RefInv s) (hp : 2 ≤ s.ph) (hn : ¬ (rOpen s = true ∧ t.take 2 = [124, 32])) (hc : (pts t).headD [] = wClient) : readLn s t = clientRes s (pts t) := by
  unfold readLn clientRes
  by_cases h2 : s.ph = 2
  · simp only [h2]
    have ha := hi.mid h2
    rw [if_neg (by rw [ha]; simp)]
    unfold rdClients
    rw [if_neg (fun h => hn ⟨by simp [rOpen, h.2, h2], h.1⟩), if_neg (not_not_intro hc)]
  · have h3 : s.ph = 3 := by have := hi.ph; omega
    simp only [h3]
    have ha := hi.late h3
    rw [if_pos (List.length_pos_iff.2 ha)]
    unfold rdActs actLine
    rw [hc, show kindOf wClient = none by decide +kernel]
theorem readLn_act {s : Rd} {t : Bytes} (hi : RefInv s) (hp : 2 ≤ s.ph) (hn : ¬ (rOpen s = true ∧ t.take 2 = [124, 32])) (hc : ¬ (pts t).headD [] = wClient) : readLn s t = actRes s (pts t) := by
  unfold readLn actRes
  by_cases h2 : s.ph = 2
  · simp only [h2]
    unfold rdClients
    rw [if_neg (fun h => hn ⟨by simp [rOpen, h.2, h2], h.1⟩), if_pos hc]
    cases hr : rdActs s (pts t) <;> rfl
  · have h3 : s.ph = 3 := by have := hi.ph; omega
    simp only [h3]
    cases hr : rdActs s (pts t) with
    | error e => rfl
    | ok s' =>
      have := rdActs_ph hr
      simp only
      rw [show ({ s' with ph := 3 } : Rd) = s' by cases s'; simp only at this; subst this; rw [h3]]
theorem extract_front (t : Bytes) (b : Bool) (h : decide (t.take 2 = [124, 32]) = b) : ((({ data := t.toArray } : ByteArray).extract 0 2).toList == [124, 32]) = b := by
  rw [ByteArray.toList_eq, ← h, Bool.eq_iff_iff]
  simp
theorem extract_tail (t : Bytes) : ({ data := t.toArray } : ByteArray).extract 2 t.length = { data := (t.drop 2).toArray } := by
  apply ByteArray.ext
  simp
  rw [List.take_of_length_le (by simp)]
set_option maxRecDepth 100000 in
set_option maxHeartbeats 8000000 in
theorem read_ref (sb : Nat) (w : World) (s : Rd) (t : Bytes) (hr : RefAt sb w s) (hi : RefInv s) (ht : t.length ≤ 900000) :
    Calls Tryz.prog 23 #[.pointer (some ⟨sb, 0, none⟩), .string ⟨t.toArray⟩] w (RefRes sb w (readLn s t)) := by
  have CP := Lib.hid (fun w => parts_ref ⟨t.toArray⟩ (by show t.toArray.size ≤ _; simp; omega) w)
  rw [show (⟨t.toArray⟩ : ByteArray).data.toList = t from rfl] at CP
  have HR := Lib.hid hr
  have hpl := pts_length t
  have hps : ∀ p ∈ pts t, p.length ≤ 1000000 := fun p hp => Nat.le_trans (pts_small t p hp) (by omega)
  have HPS := Lib.hid hps
  have hp1 : (pts t).length ≤ 1000000 := by omega
  have hpne := pts_ne t
  clear hps hpl hr
  by_cases h2 : s.ph < 2
  · have HO : Hid (rOpen s = false) := by show _ = _; simp [rOpen, hi.early h2]
    by_cases h0 : s.ph = 0
    · have HF : Hid (readLn s t = rdFirst s (pts t)) := by show _ = _; unfold readLn; simp only [h0]
      have CH := Lib.hid (fun v w hr hv => header0_ref sb w s v (pts t) hr h0 hv hpne hp1 HPS.out)
      have HH : Hid (rHead s.ph = 0) := by show _ = _; rw [h0]; rfl
      clear h0 h2
      go_enter Tryz.func23, Tryz.ntmps23
      go_wp2_with fail
      refine Calls.mono (CP.out _) ?_
      rintro e w1 ⟨v, rfl, hown, hb1⟩
      have HV := Lib.hid hown.slAt
      have HR1 := Lib.hid (HR.out.kept hb1)
      have HB1 := Lib.hid hb1
      obtain ⟨k0, k1⟩ := HR1.out.head
      rw [HH.out] at k0
      rw [HO.out] at k1
      clear hown hb1
      go_wp2_with fail
      refine Calls.mono (CH.out _ _ HR1.out HV.out) ?_
      intro e w2 hres
      cases hq : rdFirst s (pts t) with
      | error x =>
        rw [hq] at hres HF
        obtain ⟨rfl, ht2⟩ := hres
        have HX : Hid (RefRes sb w (readLn s t) (.returned (.int .i64 x)) w2) := by show RefRes _ _ _ _ _; rw [HF.out]; exact RefRes.later (r := .error x) ⟨rfl, ht2⟩ HB1.out
        clear ht2 hq
        go_wp2_with fail
        go_returns
        exact HX.out
      | ok s' =>
        rw [hq] at hres HF
        obtain ⟨rfl, hr2, ht2⟩ := hres
        have HX : Hid (RefRes sb w (readLn s t) (.returned (.int .i64 0)) w2) := by show RefRes _ _ _ _ _; rw [HF.out]; exact RefRes.later (r := .ok s') ⟨rfl, hr2, ht2⟩ HB1.out
        clear hr2 ht2 hq
        go_wp2_with fail
        go_returns
        exact HX.out
    · have h1 : s.ph = 1 := by omega
      have HF : Hid (readLn s t = rdSecond s (pts t)) := by show _ = _; unfold readLn; simp only [h1]
      have ho := hi.early h2
      have CH := Lib.hid (fun v w hr hv => header1_ref sb w s v (pts t) hr h1 ho hv hpne hp1 HPS.out)
      have HH : Hid (rHead s.ph = 1) := by show _ = _; rw [h1]; rfl
      clear h0 h1 h2 ho
      go_enter Tryz.func23, Tryz.ntmps23
      go_wp2_with fail
      refine Calls.mono (CP.out _) ?_
      rintro e w1 ⟨v, rfl, hown, hb1⟩
      have HV := Lib.hid hown.slAt
      have HR1 := Lib.hid (HR.out.kept hb1)
      have HB1 := Lib.hid hb1
      obtain ⟨k0, k1⟩ := HR1.out.head
      rw [HH.out] at k0
      rw [HO.out] at k1
      clear hown hb1
      go_wp2_with fail
      refine Calls.mono (CH.out _ _ HR1.out HV.out) ?_
      intro e w2 hres
      cases hq : rdSecond s (pts t) with
      | error x =>
        rw [hq] at hres HF
        obtain ⟨rfl, ht2⟩ := hres
        have HX : Hid (RefRes sb w (readLn s t) (.returned (.int .i64 x)) w2) := by show RefRes _ _ _ _ _; rw [HF.out]; exact RefRes.later (r := .error x) ⟨rfl, ht2⟩ HB1.out
        clear ht2 hq
        go_wp2_with fail
        go_returns
        exact HX.out
      | ok s' =>
        rw [hq] at hres HF
        obtain ⟨rfl, hr2, ht2⟩ := hres
        have HX : Hid (RefRes sb w (readLn s t) (.returned (.int .i64 0)) w2) := by show RefRes _ _ _ _ _; rw [HF.out]; exact RefRes.later (r := .ok s') ⟨rfl, hr2, ht2⟩ HB1.out
        clear hr2 ht2 hq
        go_wp2_with fail
        go_returns
        exact HX.out
  · have hp2 : 2 ≤ s.ph := by omega
    have HH : Hid (rHead s.ph = 2) := by show _ = _; unfold rHead; rw [if_neg (by omega), if_neg (by omega)]
    obtain ⟨bo, hbo⟩ : ∃ bo, rOpen s = bo := ⟨_, rfl⟩
    have HO := Lib.hid hbo
    obtain ⟨bt, hbt⟩ : ∃ bt, decide (t.take 2 = [124, 32]) = bt := ⟨_, rfl⟩
    have e1 := extract_front t bt hbt
    by_cases hx : bo = true ∧ bt = true
    · obtain ⟨rfl, rfl⟩ := hx
      have hop : s.opn = true := by simp [rOpen] at hbo; exact hbo.1
      have hph : s.ph = 2 := by simp [rOpen] at hbo; exact hbo.2
      have htk : t.take 2 = [124, 32] := of_decide_eq_true hbt
      have HF := Lib.hid (readLn_text hph hop htk)
      have CT := Lib.hid (fun w hr => text_ref sb w s (t.drop 2) hr (hi.open_ hop) hi.cl hi.ln)
      rw [← extract_tail] at CT
      have htl : 2 ≤ t.length := by have := congrArg List.length htk; simp at this; omega
      have htl' : (2 : Int) ≤ (t.length : Int) := by omega
      clear hbo hbt h2 hp2 hop hph htk
      go_enter Tryz.func23, Tryz.ntmps23
      go_wp2_with fail
      refine Calls.mono (CP.out _) ?_
      rintro e w1 ⟨v, rfl, hown, hb1⟩
      have HV := Lib.hid hown.slAt
      have HR1 := Lib.hid (HR.out.kept hb1)
      have HB1 := Lib.hid hb1
      obtain ⟨k0, k1⟩ := HR1.out.head
      rw [HH.out] at k0
      rw [HO.out] at k1
      clear hown hb1
      go_wp2_with fail
      refine Calls.mono (CT.out _ HR1.out) ?_
      intro e w2 hres
      cases hq : textRes s (t.drop 2) with
      | error x =>
        rw [hq] at hres HF
        obtain ⟨rfl, ht2⟩ := hres
        have HX : Hid (RefRes sb w (readLn s t) (.returned (.int .i64 x)) w2) := by show RefRes _ _ _ _ _; rw [HF.out]; exact RefRes.later (r := .error x) ⟨rfl, ht2⟩ HB1.out
        clear ht2 hq
        go_wp2_with fail
        go_returns
        exact HX.out
      | ok s' =>
        rw [hq] at hres HF
        obtain ⟨rfl, hr2, ht2⟩ := hres
        have HX : Hid (RefRes sb w (readLn s t) (.returned (.int .i64 0)) w2) := by show RefRes _ _ _ _ _; rw [HF.out]; exact RefRes.later (r := .ok s') ⟨rfl, hr2, ht2⟩ HB1.out
        clear hr2 ht2 hq
        go_wp2_with fail
        go_returns
        exact HX.out
    · have hn : ¬ (rOpen s = true ∧ t.take 2 = [124, 32]) := fun h => hx ⟨by rw [← hbo]; exact h.1, by rw [← hbt]; exact decide_eq_true h.2⟩
      obtain ⟨p, ps, hpp⟩ : ∃ p ps, pts t = p :: ps := by cases hh : pts t with | nil => exact absurd hh hpne | cons p ps => exact ⟨p, ps, rfl⟩
      have hor : bo = false ∨ (bo = true ∧ ¬ (2 : Int) ≤ (t.length : Int)) ∨ (bo = true ∧ (2 : Int) ≤ (t.length : Int) ∧ bt = false) := by
        cases bo
        · exact .inl rfl
        · cases bt
          · by_cases hl2 : (2 : Int) ≤ (t.length : Int)
            · exact .inr (.inr ⟨rfl, hl2, rfl⟩)
            · exact .inr (.inl ⟨rfl, hl2⟩)
          · exact absurd ⟨rfl, rfl⟩ hx
      by_cases hc : (pts t).headD [] = wClient
      · have HF := Lib.hid (readLn_client hi hp2 hn hc)
        have hcp : p = [99, 108, 105, 101, 110, 116] := by rw [hpp] at hc; simpa [wClient] using hc
        obtain ⟨t1, t2, t3, t4⟩ := str_lit p [99, 108, 105, 101, 110, 116] true (decide_eq_true hcp)
        have CH := Lib.hid (fun v w hr hv => client_ref sb w s v (pts t) hr (fun h => by
          have := hi.ph
          rcases Nat.lt_or_ge s.ph 3 with h3 | h3
          · omega
          · exact absurd (List.eq_nil_of_length_eq_zero h) (hi.late (by omega))) hi.cl hv hpne hp1 HPS.out)
        have HPP := Lib.hid hpp
        clear hbo hbt h2 hp2 hn hc hx hcp hpp
        rcases hor with rfl | ⟨rfl, hl2⟩ | ⟨rfl, hl2, rfl⟩
        all_goals
          go_enter Tryz.func23, Tryz.ntmps23
          go_wp2_with fail
          refine Calls.mono (CP.out _) ?_
          rintro e w1 ⟨v, rfl, hown, hb1⟩
          have HV := Lib.hid hown.slAt
          have HR1 := Lib.hid (HR.out.kept hb1)
          have HB1 := Lib.hid hb1
          obtain ⟨k0, k1⟩ := HR1.out.head
          rw [HH.out] at k0
          rw [HO.out] at k1
          have x0 : ∃ b o n c, v = .slice (some ⟨b, o, none⟩) n c ∧ 0 < n ∧ w1.cell? ⟨b, o, none⟩ = some (.string ⟨p.toArray⟩) := by
            obtain ⟨a, c, rfl, _, hcl⟩ := hown.slAt
            have hlen : 0 < (pts t).length := by rw [HPP.out]; simp
            obtain ⟨b, o, rfl, hat⟩ := hcl hlen
            exact ⟨b, o, _, c, rfl, hlen, hat 0 _ (by rw [HPP.out]; rfl)⟩
          obtain ⟨pb, po, pn, pc, rfl, hpn, x0⟩ := x0
          clear hown hb1
          go_wp2_with fail
          refine Calls.mono (CH.out _ _ HR1.out HV.out) ?_
          intro e w2 hres
          cases hq : clientRes s (pts t) with
          | error x =>
            rw [hq] at hres HF
            obtain ⟨rfl, ht2⟩ := hres
            have HX : Hid (RefRes sb w (readLn s t) (.returned (.int .i64 x)) w2) := by show RefRes _ _ _ _ _; rw [HF.out]; exact RefRes.later (r := .error x) ⟨rfl, ht2⟩ HB1.out
            clear ht2 hq
            go_wp2_with fail
            go_returns
            exact HX.out
          | ok s' =>
            rw [hq] at hres HF
            obtain ⟨rfl, hr2, ht2⟩ := hres
            have HX : Hid (RefRes sb w (readLn s t) (.returned (.int .i64 0)) w2) := by show RefRes _ _ _ _ _; rw [HF.out]; exact RefRes.later (r := .ok s') ⟨rfl, hr2, ht2⟩ HB1.out
            clear hr2 ht2 hq
            go_wp2_with fail
            go_returns
            exact HX.out
      · have HF := Lib.hid (readLn_act hi hp2 hn hc)
        have hcp : ¬ p = [99, 108, 105, 101, 110, 116] := by rw [hpp] at hc; simpa [wClient] using hc
        obtain ⟨t1, t2, t3, t4⟩ := str_lit p [99, 108, 105, 101, 110, 116] false (decide_eq_false hcp)
        have CH := Lib.hid (fun v w hr hv => act_ref sb w s v (pts t) hr hp2 hi.ac hv hpne hp1 HPS.out)
        have HPP := Lib.hid hpp
        clear hbo hbt h2 hp2 hn hc hx hcp hpp
        rcases hor with rfl | ⟨rfl, hl2⟩ | ⟨rfl, hl2, rfl⟩
        all_goals
          go_enter Tryz.func23, Tryz.ntmps23
          go_wp2_with fail
          refine Calls.mono (CP.out _) ?_
          rintro e w1 ⟨v, rfl, hown, hb1⟩
          have HV := Lib.hid hown.slAt
          have HR1 := Lib.hid (HR.out.kept hb1)
          have HB1 := Lib.hid hb1
          obtain ⟨k0, k1⟩ := HR1.out.head
          rw [HH.out] at k0
          rw [HO.out] at k1
          have x0 : ∃ b o n c, v = .slice (some ⟨b, o, none⟩) n c ∧ 0 < n ∧ w1.cell? ⟨b, o, none⟩ = some (.string ⟨p.toArray⟩) := by
            obtain ⟨a, c, rfl, _, hcl⟩ := hown.slAt
            have hlen : 0 < (pts t).length := by rw [HPP.out]; simp
            obtain ⟨b, o, rfl, hat⟩ := hcl hlen
            exact ⟨b, o, _, c, rfl, hlen, hat 0 _ (by rw [HPP.out]; rfl)⟩
          obtain ⟨pb, po, pn, pc, rfl, hpn, x0⟩ := x0
          clear hown hb1
          go_wp2_with fail
          refine Calls.mono (CH.out _ _ HR1.out HV.out) ?_
          intro e w2 hres
          cases hq : actRes s (pts t) with
          | error x =>
            rw [hq] at hres HF
            obtain ⟨rfl, ht2⟩ := hres
            have HX : Hid (RefRes sb w (readLn s t) (.returned (.int .i64 x)) w2) := by show RefRes _ _ _ _ _; rw [HF.out]; exact RefRes.later (r := .error x) ⟨rfl, ht2⟩ HB1.out
            clear ht2 hq
            go_wp2_with fail
            go_returns
            exact HX.out
          | ok s' =>
            rw [hq] at hres HF
            obtain ⟨rfl, hr2, ht2⟩ := hres
            have HX : Hid (RefRes sb w (readLn s t) (.returned (.int .i64 0)) w2) := by show RefRes _ _ _ _ _; rw [HF.out]; exact RefRes.later (r := .ok s') ⟨rfl, hr2, ht2⟩ HB1.out
            clear hr2 ht2 hq
            go_wp2_with fail
            go_returns
            exact HX.out
end Go.Proofs.YtialgdnkkjmpbaaGreatDoor
