/-
  Walks: the reference's Parse. The memory that was there is as it was.
-/
import Derived.Test.YtialgdnkkjmpbaaGreatDoorR8
import Derived.Test.YtialgdnkkjmpbaaGreatDoorXd
namespace Go.Proofs.YtialgdnkkjmpbaaGreatDoor
open Go.RowKit Go.Sort

theorem lns_length : ∀ l : Bytes, (lns l).length ≤ l.length
  | [] => by simp [lns]
  | c :: l => by
    have ih := lns_length l
    simp only [lns]
    split
    · simp; omega
    · split
      · simp
      · rename_i h; rw [h] at ih; simp at ih ⊢; omega
theorem lns_small : ∀ (l : Bytes) (p : Bytes × Bool), p ∈ lns l → p.1.length ≤ l.length
  | [], p, h => by simp [lns] at h
  | c :: l, p, h => by
    simp only [lns] at h
    split at h
    · rcases List.mem_cons.1 h with rfl | h
      · simp
      · have := lns_small l p h; simp; omega
    · split at h
      · simp at h; subst h; simp
      · rename_i a b r e
        rcases List.mem_cons.1 h with rfl | h
        · have := lns_small l (a, b) (by rw [e]; simp); simp at this ⊢; omega
        · have := lns_small l p (by rw [e]; simp [h]); simp; omega
theorem lnVals_length : ∀ (L : List (Bytes × Bool)) (n : Nat), (lnVals n L).length = L.length * 3
  | [], _ => rfl
  | p :: L, n => by simp only [lnVals, List.length_cons, lnVals_length L]; omega
/-- The end: the two results are read. -/
theorem ref_end {w W : World} {r : Sc × Int × Int} {cv av : Value} {tmps : Array Value} (h2 : tmps[2]? = some (.pointer (some ⟨w.heap.size, 0, none⟩))) (h3 : tmps[3]? = some (.pointer (some ⟨w.heap.size + 1, 0, none⟩)))
    (hs : St w W [(w.heap.size + 1, #[.int .i64 r.2.1, .int .i64 r.2.2], 31), (w.heap.size, #[.int .i64 r.1.lines, .int .i64 r.1.most, .int .i64 r.1.room, .int .i64 r.1.delay, .int .i64 r.1.buckets, cv, av], 28)])
    (hsc : ScAt W cv av r.1) : bodyPost Tryz.prog Tryz.f12 (ParseRes r w) .ret { tmps := tmps, defers := [] } W := by
  have F := hs.facts
  simp only [St.Facts, cellFacts, apartFacts, and_true] at F
  refine bodyPost_ret (v := .tuple #[scVal r.1 cv av, prVal r.2.1 r.2.2]) ?_ rfl ⟨_, _, rfl, hsc, hs.below⟩
  simp [results, Tryz.results12, go_sem, scVal, prVal, h2, h3, F]
theorem st_front {w W : World} {L : List Blk} {b : Nat} {cs : Array Value} {t : TypeId} (h : St w W L) (h1 : W.heap[b]? = some (.cells cs t (0, 0))) (h2 : w.heap.size ≤ b) (h3 : ∀ x ∈ L, x.1 ≠ b) : St w W ((b, cs, t) :: L) := by
  refine ⟨h.below, fun x hx => ?_, ?_⟩
  · rcases List.mem_cons.1 hx with rfl | hx
    · exact ⟨h2, h1⟩
    · exact h.own x hx
  · simp only [List.map_cons, List.nodup_cons]
    refine ⟨fun hm => ?_, h.apart⟩
    obtain ⟨x, hx, e⟩ := List.mem_map.1 hm
    exact h3 x hx e
set_option maxRecDepth 100000 in
set_option maxHeartbeats 2000000 in
theorem parseRef_big (s : ByteArray) (hs : 200000 < s.size) (w : World) : Calls Tryz.prog 12 #[.string s] w (ParseRes (Sc.zero, 0, eLimit) w) := by
  go_enter Tryz.func12, Tryz.ntmps12
  go_wp2_with fail
  exact bodyPost_ret (v := .tuple #[scVal Sc.zero (.slice none 0 0) (.slice none 0 0), prVal 0 eLimit]) (by simp [results, Tryz.results12, go_sem, scVal, prVal, Sc.zero, eLimit]) rfl ⟨_, _, rfl, scAt_zero _, by go_grown⟩
set_option maxRecDepth 100000 in
set_option maxHeartbeats 8000000 in
theorem parseRef_small (s : ByteArray) (hs : s.size ≤ 200000) (w : World) : Calls Tryz.prog 12 #[.string s] w (ParseRes (readAll Rd.start 0 (lns s.data.toList)) w) := by
  have CL := Lib.hid (fun w => lines_ref s (by omega) w)
  obtain ⟨LNS, hL⟩ : ∃ LNS, LNS = lns s.data.toList := ⟨_, rfl⟩
  have hNL : LNS.length ≤ 200000 := by rw [hL]; have := lns_length s.data.toList; simp at this; omega
  have HSM : Hid (∀ p ∈ LNS, p.1.length ≤ 200000) := by
    show ∀ p ∈ LNS, _
    intro p hp
    rw [hL] at hp
    have := lns_small _ p hp
    simp at this; omega
  have HOK : Hid (LnsOk LNS) := by show LnsOk _; rw [hL]; exact lnsOk _
  rw [← hL] at CL ⊢
  obtain ⟨tgt, HTG⟩ : ∃ tgt, Hid (readAll Rd.start 0 LNS = tgt) := ⟨_, rfl⟩
  rw [HTG.out]
  have S0 : Hid (St w w []) := St.start w
  clear hL
  go_enter Tryz.func12, Tryz.ntmps12
  go_wp2_with fail
  have T0 := Lib.hid (St.alloc (St.alloc S0.out (cs := zSc) (t := 28)) (cs := #[.int .i64 0, .int .i64 0]) (t := 31))
  refine Calls.mono (CL.out _) ?_
  rintro e w1 ⟨v, rfl, hown, hb1⟩
  have S1 := Lib.hid (T0.out.kept hb1)
  simp only [World.size_alloc] at S1 hown
  obtain ⟨al, cl, rfl, hcl, _⟩ := hown.slAt
  have hw1 : w.heap.size + 2 ≤ w1.heap.size := by have := hb1.size; simp at this; omega
  have HLN : Hid (SlIn (fun b => b < w1.heap.size) w1 (.slice al LNS.length cl) LNS.length (lnVals 0 LNS)) := by
    show SlIn _ _ _ _ _
    obtain ⟨a', c', e', hc', hcl'⟩ := hown.slAt
    refine ⟨a', c', e', hc', fun hn => ?_⟩
    obtain ⟨b, o, rfl, hat⟩ := hcl' hn
    exact ⟨b, o, rfl, hat.lt (by intro h; have := congrArg List.length h; rw [lnVals_length] at this; simp at this; omega), hat⟩
  clear T0 hown hb1
  go_wp2_with fail
  have S2 := Lib.hid (St.alloc S1.out (cs := #[.int .i64 0, .bool false, .int .i64 0, .int .i64 0, .int .i64 0, .int .i64 0, .int .i64 0, .slice none 0 0, .slice none 0 0]) (t := 62))
  have HLN2 := Lib.hid (HLN.out.kept ((Below.refl w1.heap.size w1).alloc (Nat.le_refl _) (.cells #[.int .i64 0, .bool false, .int .i64 0, .int .i64 0, .int .i64 0, .int .i64 0, .int .i64 0, .slice none 0 0, .slice none 0 0] 62)))
  obtain ⟨sb, hsb⟩ : ∃ sb, w1.heap.size = sb := ⟨_, rfl⟩
  rw [hsb] at S2 HLN2 hw1 ⊢
  go_loopw [6] (fun i wr => ∃ (k : Nat) (rd : Rd) (cv av : Value), k ≤ LNS.length ∧ i = .int .i64 (k : Int) ∧ Hid (refTgt LNS rd k = tgt) ∧ Hid (∃ L, ReadOk rd L) ∧ Hid (rd.ph = 3 → rd.x.acts ≠ []) ∧ Hid (St w wr [(sb, refCells rd cv av, 62), (w.heap.size + 1, #[.int .i64 0, .int .i64 0], 31), (w.heap.size, zSc, 28)]) ∧ Hid (ScIn (sb < ·) wr cv av rd.x) ∧ Hid (SlIn (fun b => b < sb) wr (.slice al LNS.length cl) LNS.length (lnVals 0 LNS))) (fun i _ => LNS.length - (intOf i).toNat)
  case atStart => exact ⟨0, Rd.start, _, _, by omega, rfl, by show _ = _; rw [refTgt_start]; exact HTG.out, ⟨[], ReadOk.start⟩, (by show _ = _ → _; intro h; cases h), S2.out, scIn_zero _ _, HLN2.out⟩
  case round =>
    clear S2 HLN2 S1 HLN
    obtain ⟨k, rd, cv, av, hk, rfl, HT, HOK2, HAL, SR, HSC, HSL⟩ := hrel
    have FR := SR.out.facts
    simp only [refCells, St.Facts, cellFacts, apartFacts, and_true, zSc] at FR
    by_cases hlt : k < LNS.length
    · obtain ⟨p, hp⟩ : ∃ p, LNS[k]? = some p := ⟨LNS[k], by simp [hlt]⟩
      obtain ⟨ll, lz⟩ := p
      have hll : ll.length ≤ 200000 := HSM.out _ (List.mem_of_getElem? hp)
      obtain ⟨a', c', e', hc', hcl'⟩ := HSL.out
      cases e'
      obtain ⟨lb, lo, rfl, hlb, hat⟩ := hcl' (by omega)
      have hv := lnVals_at LNS 0 k _ hp
      have x1 := hat _ _ hv.1
      simp only at x1
      have HP := Lib.hid hp
      have HV := Lib.hid hv
      have hkl : (k : Int) < (LNS.length : Int) := by omega
      clear hat hv hcl' hp
      by_cases hsk : skipped ll = true
      · have HRA : Hid (readAny rd ll = .ok rd) := by show _ = _; unfold readAny; rw [if_pos hsk]
        have hl : ll = [] ∨ ∃ r, ll = 35 :: r := by
          cases ll with
          | nil => exact .inl rfl
          | cons c r => simp only [skipped, beq_iff_eq] at hsk; exact .inr ⟨r, by rw [hsk]⟩
        rcases hl with rfl | ⟨r, rfl⟩
        · go_wp2_with fail
          go_roundw
          case rel => exact ⟨k + 1, rd, cv, av, by omega, by go_num, (refTgt_step HOK.out HP.out HRA.out).symm.trans HT.out, HOK2, HAL, SR.out, HSC.out, HSL⟩
          case measure => simp [intOf]; omega
        · go_wp2_with fail
          go_roundw
          case rel => exact ⟨k + 1, rd, cv, av, by omega, by go_num, (refTgt_step HOK.out HP.out HRA.out).symm.trans HT.out, HOK2, HAL, SR.out, HSC.out, HSL⟩
          case measure => simp [intOf]; omega
      · obtain ⟨c, r, rfl⟩ : ∃ c r, ll = c :: r := by
          cases ll with
          | nil => simp [skipped] at hsk
          | cons c r => exact ⟨c, r, rfl⟩
        have hc35 : c ≠ 35 := by intro e; subst e; simp [skipped] at hsk
        have q0 : 0 < (⟨(c :: r).toArray⟩ : ByteArray).size := by show 0 < (c :: r).toArray.size; simp
        have q1 : ((((⟨(c :: r).toArray⟩ : ByteArray)[0]'q0).toNat : Int) == 35) = false := by
          have h1 : c.toNat ≠ 35 := fun e => hc35 (UInt8.toNat_inj.1 (by rw [e]; rfl))
          have h2 : (⟨(c :: r).toArray⟩ : ByteArray)[0]'q0 = c := rfl
          rw [h2]; simp; omega
        have HRA : Hid (readAny rd (c :: r) = readLn rd (c :: r)) := readAny_ln hc35
        have CR := Lib.hid (fun w hr => HOK2.out.elim fun L hL => read_ref sb w rd (c :: r) hr (RefInv.of hL HAL.out) (by omega))
        clear hsk hc35
        go_wp2_with fail
        refine Calls.mono (CR.out _ ⟨cv, av, SR.out.blk 0 rfl, HSC.out⟩) ?_
        intro e w2 hres
        cases hq : readLn rd (c :: r) with
        | error x =>
          rw [hq] at hres HRA
          obtain ⟨rfl, ht2⟩ := hres
          have hx0 : x ≠ 0 := fun e => readAny_err (s := rd) (a := c :: r) (by rw [HRA.out, e])
          have q2 : (x == 0) = false := by simpa using hx0
          have q3 : (x != 0) = true := by simpa using hx0
          have ST2 : Hid (St w w2 [(w.heap.size + 1, #[.int .i64 0, .int .i64 0], 31), (w.heap.size, zSc, 28)]) := (St.tail SR.out).turned ht2 (fun i hi => by subst hi; omega) (by simp; omega)
          have HX : Hid (tgt = (Sc.zero, (k : Int), x)) := HT.out.symm.trans (refTgt_err HP.out HRA.out)
          clear hx0 ht2 hq FR SR
          have F2 := ST2.out.facts
          simp only [St.Facts, cellFacts, apartFacts, and_true, zSc] at F2
          go_wp2_with fail
          rw [HX.out]
          exact ref_end rfl rfl (St.set 0 (o := 1) (St.set 0 (o := 0) (St.set 1 (o := 6) (St.set 1 (o := 5) (St.set 1 (o := 4) (St.set 1 (o := 3) (St.set 1 (o := 2) (St.set 1 (o := 1) (St.set 1 (o := 0) ST2.out rfl) rfl) rfl) rfl) rfl) rfl) rfl) rfl) rfl) (scAt_zero _)
        | ok rd' =>
          rw [hq] at hres HRA
          obtain ⟨rfl, hr2, ht2⟩ := hres
          obtain ⟨cv', av', hb2, hs2⟩ := hr2
          have ST2 : Hid (St w w2 [(w.heap.size + 1, #[.int .i64 0, .int .i64 0], 31), (w.heap.size, zSc, 28)]) := (St.tail SR.out).turned ht2 (fun i hi => by subst hi; omega) (by simp; omega)
          have SR2 := Lib.hid (st_front ST2.out hb2 (by omega) (by simp; omega))
          have HSC2 := Lib.hid hs2
          have HSL2 := Lib.hid (HSL.out.turned ht2 (fun b hb e => by omega) (fun h e => by have := congrArg List.length e; rw [lnVals_length] at this; simp at this; omega))
          clear hq FR SR hb2 hs2
          go_wp2_with fail
          go_roundw
          case rel => exact ⟨k + 1, rd', cv', av', by omega, by go_num, (refTgt_step HOK.out HP.out HRA.out).symm.trans HT.out, HOK2.out.elim fun L hL => ⟨_, hL.step (HOK.out.plain _ (List.mem_of_getElem? HP.out)) HRA.out⟩, acts_late HRA.out HAL.out, SR2.out, HSC2.out, HSL2.out⟩
          case measure => simp [intOf]; omega
    · obtain rfl : k = LNS.length := by omega
      clear HOK2 HAL CL HSM
      by_cases hcut : LNS.getLast?.map (·.2) = some false
      · obtain ⟨⟨ll, lz⟩, hg, hz⟩ := Option.map_eq_some_iff.1 hcut
        simp only at hz
        subst hz
        have hpos : 0 < LNS.length := by cases LNS with | nil => cases hg | cons _ _ => simp
        have HX : Hid (tgt = (Sc.zero, ((LNS.length - 1 : Nat) : Int), 380)) := HT.out.symm.trans (refTgt_cut hg)
        obtain ⟨a', c', e', hc', hcl'⟩ := HSL.out
        cases e'
        obtain ⟨lb, lo, rfl, hlb, hat⟩ := hcl' hpos
        rw [List.getLast?_eq_getElem?] at hg
        have hv := lnVals_at LNS 0 (LNS.length - 1) _ hg
        rw [Nat.zero_add] at hv
        have x1 := hat _ _ hv.1
        have x2 := hat _ _ hv.2.1
        have x3 := hat _ _ hv.2.2
        simp only at x1 x2 x3
        rw [← Nat.add_assoc] at x2 x3
        clear hat hv hcl' hcut hg
        have S4 := Lib.hid (St.alloc (St.tail SR.out) (cs := #[.string { data := List.toArray ll }, .int .i64 ((LNS.length - 1 : Nat) : Int), .bool false]) (t := 64))
        go_wp2_with fail
        obtain ⟨qb, hqb⟩ : ∃ qb, wr.heap.size = qb := ⟨_, rfl⟩
        rw [hqb] at S4 ⊢
        generalize wr.alloc (.cells #[.string { data := List.toArray ll }, .int .i64 ((LNS.length - 1 : Nat) : Int), .bool false] 64) = W4 at S4 ⊢
        have F4 := S4.out.facts
        simp only [St.Facts, cellFacts, apartFacts, and_true, zSc] at F4
        have hq0 : ¬ (qb = w.heap.size ∨ qb = w.heap.size + 1) := by omega
        have y0 : ∀ p : TurnW (fun k => k = w.heap.size ∨ k = w.heap.size + 1) W4, p.w.cell? ⟨qb, 1, none⟩ = some (.int .i64 ((LNS.length - 1 : Nat) : Int)) := fun p => turnW_cellR p F4.2.1.2.1.1 hq0
        clear FR x1 x2 x3 hq0 HSC SR
        refine wp_region_mixedT (fun k => k = w.heap.size ∨ k = w.heap.size + 1) 6 [(0, false), (1, false), (2, false), (3, false), (4, true), (5, true)] (by kernel_rfl) (by kernel_rfl) ?_
        repeat (refine wpM_mildT rfl (fun K hK => ?_); go_simp; first | (refine hK _ ?_; clear hK K) | (apply Exists.intro; refine ⟨fun _ => ?_, hK _ ?_⟩; (fail); clear hK K))
        refine wpM_effT rfl ?_
        intro w5 hb5 ht5
        have S5 := Lib.hid (S4.out.kept hb5)
        have F5 := S5.out.facts
        simp only [St.Facts, cellFacts, apartFacts, and_true, zSc] at F5
        clear F4
        go_wp2_with fail
        refine ⟨zero_turn ht5 (.inl rfl), wpM_effT rfl ?_⟩
        intro w6 hb6 ht6
        have S6 : Hid (St w w6 [(qb, #[.string { data := List.toArray ll }, .int .i64 ((LNS.length - 1 : Nat) : Int), .bool false], 64), (w.heap.size + 1, #[.int .i64 0, .int .i64 0], 31), (w.heap.size, zSc, 28)]) := ((St.set 2 (o := 6) (v := .slice none 0 0) (St.set 2 (o := 5) (v := .slice none 0 0) (St.set 2 (o := 4) (v := .int .i64 0) (St.set 2 (o := 3) (v := .int .i64 0) (St.set 2 (o := 2) (v := .int .i64 0) (St.set 2 (o := 1) (v := .int .i64 0) (St.set 2 (o := 0) (v := .int .i64 0) S5.out rfl) rfl) rfl) rfl) rfl) rfl) rfl).kept hb6)
        clear F5 hb5 ht5 hb6
        have F6 := S6.out.facts
        simp only [St.Facts, cellFacts, apartFacts, and_true, zSc] at F6
        go_wp2_with fail
        refine ⟨(ht6.setCell (.inl (.inr rfl))).setCell (.inl (.inr rfl)), ?_⟩
        repeat (refine wpM_mildT rfl (fun K hK => ?_); go_simp; first | (refine hK _ ?_; clear hK K) | (apply Exists.intro; refine ⟨fun _ => ?_, hK _ ?_⟩; (fail); clear hK K))
        refine wpM_endT ?_
        intro w7 hb7 _
        have S7 : Hid (St w w7 [(w.heap.size + 1, #[.int .i64 ((LNS.length - 1 : Nat) : Int), .int .i64 380], 31), (w.heap.size, zSc, 28)]) := ((St.tail (St.set 1 (o := 1) (v := .int .i64 380) (St.set 1 (o := 0) (v := .int .i64 ((LNS.length - 1 : Nat) : Int)) S6.out rfl) rfl)).kept hb7)
        clear F6 hb7 ht6
        go_wp2_with fail
        rw [HX.out]
        exact ref_end rfl rfl S7.out (scAt_zero _)
      · have HX := Lib.hid (HT.out.symm.trans (refTgt_end hcut))
        have hpc : LNS.length = 0 ∨ ∃ lb lo ll, al = some ⟨lb, lo, none⟩ ∧ 0 < LNS.length ∧ wr.cell? ⟨lb, lo + (LNS.length - 1) * 3, none⟩ = some (.string ⟨ll⟩) ∧ wr.cell? ⟨lb, lo + (LNS.length - 1) * 3 + 1, none⟩ = some (.int .i64 ((LNS.length - 1 : Nat) : Int)) ∧ wr.cell? ⟨lb, lo + (LNS.length - 1) * 3 + 2, none⟩ = some (.bool true) := by
          rcases Nat.eq_zero_or_pos LNS.length with h0 | h0
          · exact .inl h0
          · obtain ⟨a', c', e', hc', hcl'⟩ := HSL.out
            cases e'
            obtain ⟨lb, lo, rfl, hlb, hat⟩ := hcl' h0
            obtain ⟨p, hg⟩ : ∃ p, LNS[LNS.length - 1]? = some p := ⟨LNS[LNS.length - 1]'(by omega), List.getElem?_eq_getElem (by omega)⟩
            have hv := lnVals_at LNS 0 (LNS.length - 1) _ hg
            rw [Nat.zero_add] at hv
            obtain ⟨ll, lz⟩ := p
            have hz : lz = true := by
              cases lz with
              | true => rfl
              | false => exact absurd (by rw [List.getLast?_eq_getElem?, hg]; rfl) hcut
            subst hz
            exact .inr ⟨lb, lo, _, rfl, h0, hat _ _ hv.1, hat _ _ hv.2.1, hat _ _ hv.2.2⟩
        clear HSL hcut
        by_cases hph : rd.ph < 2
        · have hh : rHead rd.ph < 2 := by unfold rHead; split <;> (try split) <;> omega
          rw [if_pos hph] at HX
          have HX2 : Hid (tgt = (Sc.zero, (LNS.length : Int), 380)) := HX.out
          rcases hpc with h0 | ⟨lb, lo, ll, rfl, h0, x1, x2, x3⟩
          · have HX3 : Hid (tgt = (Sc.zero, 0, 380)) := by show _ = _; rw [HX2.out, h0]; rfl
            go_wp2_with fail
            rw [HX3.out]
            exact ref_end rfl rfl (St.set 0 (o := 1) (St.set 0 (o := 0) (St.set 1 (o := 6) (St.set 1 (o := 5) (St.set 1 (o := 4) (St.set 1 (o := 3) (St.set 1 (o := 2) (St.set 1 (o := 1) (St.set 1 (o := 0) (St.tail SR.out) rfl) rfl) rfl) rfl) rfl) rfl) rfl) rfl) rfl) (scAt_zero _)
          · have S4 := Lib.hid (St.alloc SR.out (cs := #[.string ⟨ll⟩, .int .i64 ((LNS.length - 1 : Nat) : Int), .bool true]) (t := 64))
            clear SR HSC FR
            have F4 := S4.out.facts
            simp only [refCells, St.Facts, cellFacts, apartFacts, and_true, zSc] at F4
            go_wp2_with fail
            rw [HX2.out]
            exact ref_end rfl rfl (St.set 0 (o := 1) (St.set 0 (o := 0) (St.set 1 (o := 6) (St.set 1 (o := 5) (St.set 1 (o := 4) (St.set 1 (o := 3) (St.set 1 (o := 2) (St.set 1 (o := 1) (St.set 1 (o := 0) (St.tail (St.tail S4.out)) rfl) rfl) rfl) rfl) rfl) rfl) rfl) rfl) rfl) (scAt_zero _)
        · have hh : ¬ rHead rd.ph < 2 := by unfold rHead; split <;> (try split) <;> omega
          rw [if_neg hph] at HX
          obtain ⟨⟨⟨aa, ac, rfl, _, _⟩, _⟩, lvs, _, ⟨⟨ca, cc, rfl, _, _⟩, _⟩, _⟩ := id HSC.out
          rcases hpc with h0 | ⟨lb, lo, ll, rfl, h0, x1, x2, x3⟩
          · go_wp2_with fail
            rw [HX.out]
            refine ref_end (r := (rd.x, 0, 0)) (cv := .slice ca rd.x.clients.length cc) (av := .slice aa rd.x.acts.length ac) ?_ ?_ ?_ ?_
            · rfl
            · rfl
            · exact (St.set 0 (o := 1) (St.set 0 (o := 0) (St.set 1 (o := 6) (St.set 1 (o := 5) (St.set 1 (o := 4) (St.set 1 (o := 3) (St.set 1 (o := 2) (St.set 1 (o := 1) (St.set 1 (o := 0) (St.tail SR.out) rfl) rfl) rfl) rfl) rfl) rfl) rfl) rfl) rfl)
            · exact ScIn.scAt (HSC.out.turned ((((((((((Turn.refl (· ≤ w.heap.size + 1) _).setCell (.inl (Nat.le_succ _))).setCell (.inl (Nat.le_succ _))).setCell (.inl (Nat.le_succ _))).setCell (.inl (Nat.le_succ _))).setCell (.inl (Nat.le_succ _))).setCell (.inl (Nat.le_succ _))).setCell (.inl (Nat.le_succ _))).setCell (.inl (Nat.le_refl _))).setCell (.inl (Nat.le_refl _))) (fun b hb e => by omega))
          · have S4 := Lib.hid (St.alloc SR.out (cs := #[.string ⟨ll⟩, .int .i64 ((LNS.length - 1 : Nat) : Int), .bool true]) (t := 64))
            have HSC4 := Lib.hid (HSC.out.kept ((Below.refl wr.heap.size wr).alloc (Nat.le_refl _) (.cells #[.string ⟨ll⟩, .int .i64 ((LNS.length - 1 : Nat) : Int), .bool true] 64)))
            clear SR HSC FR
            have F4 := S4.out.facts
            simp only [refCells, St.Facts, cellFacts, apartFacts, and_true, zSc] at F4
            go_wp2_with fail
            rw [HX.out]
            refine ref_end (r := (rd.x, 0, 0)) (cv := .slice ca rd.x.clients.length cc) (av := .slice aa rd.x.acts.length ac) ?_ ?_ ?_ ?_
            · rfl
            · rfl
            · exact (St.set 0 (o := 1) (St.set 0 (o := 0) (St.set 1 (o := 6) (St.set 1 (o := 5) (St.set 1 (o := 4) (St.set 1 (o := 3) (St.set 1 (o := 2) (St.set 1 (o := 1) (St.set 1 (o := 0) (St.tail (St.tail S4.out)) rfl) rfl) rfl) rfl) rfl) rfl) rfl) rfl) rfl)
            · exact ScIn.scAt (HSC4.out.turned ((((((((((Turn.refl (· ≤ w.heap.size + 1) _).setCell (.inl (Nat.le_succ _))).setCell (.inl (Nat.le_succ _))).setCell (.inl (Nat.le_succ _))).setCell (.inl (Nat.le_succ _))).setCell (.inl (Nat.le_succ _))).setCell (.inl (Nat.le_succ _))).setCell (.inl (Nat.le_succ _))).setCell (.inl (Nat.le_refl _))).setCell (.inl (Nat.le_refl _))) (fun b hb e => by omega))
/-- The reference's Parse at any text: what the program's answers. -/
theorem parse_ref (t : Bytes) (w : World) : Calls Tryz.prog 12 #[.string ⟨t.toArray⟩] w (ParseRes (parse t) w) := by
  unfold parse
  by_cases h : t.length > 200000
  · rw [if_pos h]
    exact parseRef_big _ (by show 200000 < t.toArray.size; simpa using h) w
  · rw [if_neg h]
    exact parseRef_small ⟨t.toArray⟩ (by show t.toArray.size ≤ 200000; simp; omega) w
end Go.Proofs.YtialgdnkkjmpbaaGreatDoor
