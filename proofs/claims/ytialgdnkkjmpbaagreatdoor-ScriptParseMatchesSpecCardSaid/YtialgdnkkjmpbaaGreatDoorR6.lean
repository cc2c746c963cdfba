/-
  Walks: the reference's reading of a line of acts. Of what was there only the state's block turns.
-/
import Derived.Test.YtialgdnkkjmpbaaGreatDoorR5
import Derived.Deep.DeepCutAuto
namespace Go.Proofs.YtialgdnkkjmpbaaGreatDoor
open Go.RowKit Go.Sort

/-- Behind the numbers: the slots of the numbers and of whether they are, and the world. -/
def NumsCut (qs : List Bytes) (w0 : World) (l ok : Value) (w : World) : Prop := match nums qs with
  | some xs => ok = .bool true ∧ w.ownsRow w0.heap.size 3 1 l xs.length (ivals xs) ∧ Below w0.heap.size w0 w
  | none => ok = .bool false ∧ l = .slice none 0 0 ∧ Below w0.heap.size w0 w
theorem acVals_length (l : List Ac) : (acVals l).length = l.length * 4 := by
  induction l with
  | nil => rfl
  | cons a l ih => simp only [acVals, List.flatMap_cons, List.length_append, List.length_cons, List.length_nil] at ih ⊢; omega
theorem turnW_cellR {M : Nat → Prop} {W : World} (p : TurnW M W) {b o : Nat} {v : Value} (h : W.cell? ⟨b, o, none⟩ = some v) (hM : ¬ M b) : p.w.cell? ⟨b, o, none⟩ = some v := by
  rw [World.cell?_of_block (a := ⟨b, o, none⟩) (p.h.block b (block_lt_of_cell h) hM)]; exact h
theorem acVals_append (A B : List Ac) : acVals (A ++ B) = acVals A ++ acVals B := by simp [acVals]
theorem acVals_each (l : List Ac) : ∀ u ∈ acVals l, u.oneCell' = true := by
  intro u hu
  obtain ⟨a, _, h⟩ := List.mem_flatMap.1 hu
  simp at h
  rcases h with rfl | rfl | rfl | rfl <;> rfl
set_option maxRecDepth 100000 in
set_option maxHeartbeats 8000000 in
theorem act_ref (sb : Nat) (w : World) (s : Rd) (v : Value) (parts : List Bytes) (hr : RefAt sb w s) (hph : 2 ≤ s.ph) (ha : s.x.acts.length ≤ 2000) (hv : SlAt w v parts.length (svals parts)) (hne : parts ≠ []) (hl : parts.length ≤ 1000000) (hs : ∀ p ∈ parts, p.length ≤ 1000000) :
    Calls Tryz.prog 46 #[.pointer (some ⟨sb, 0, none⟩), v] w (RefRes sb w (actRes s parts)) := by
  obtain ⟨p, ps, rfl⟩ : ∃ p ps, parts = p :: ps := by cases parts with | nil => exact absurd rfl hne | cons p ps => exact ⟨p, ps, rfl⟩
  obtain ⟨cv, av, hblk, hsc⟩ := hr
  obtain ⟨hav, lvs, hlen, hcv, hlv⟩ := hsc
  obtain ⟨⟨aa, ac, rfl, hac, _⟩, _⟩ := id hav
  obtain ⟨⟨ca, cc, rfl, hcc, _⟩, _⟩ := id hcv
  obtain ⟨a, cap, rfl, hcap, hcells⟩ := hv
  obtain ⟨b, o, rfl, hat⟩ := hcells (by simp)
  have hlb : sb < w.heap.size := (Array.getElem?_eq_some_iff.1 hblk).1
  have x0 : w.cell? ⟨b, o, none⟩ = some (.string ⟨p.toArray⟩) := hat 0 _ rfl
  have S0 : Hid (StM (· = sb) w w [(sb, refCells s (.slice ca s.x.clients.length cc) (.slice aa s.x.acts.length ac), 62)]) := StM.one rfl hblk
  have HF := Lib.hid (actRes_eq s p ps)
  have CK := Lib.hid (fun w => kind_ref ⟨p.toArray⟩ w)
  rw [show (⟨p.toArray⟩ : ByteArray).data.toList = p from rfl] at CK
  have HAT := Lib.hid hat
  have HS := Lib.hid hs
  have HPH := Lib.hid hph
  have HAV := Lib.hid hav
  have HCV := Lib.hid hcv
  have HLA := Lib.hid hlv
  have HLL := Lib.hid hlen
  simp only [List.length_cons] at hcap hl ⊢
  clear hav hcv hlv hblk hat hs hcells hph hlen
  cases hk : kindOf p with
  | none =>
    rw [hk] at HF CK
    clear hk
    simp only [Option.getD_none] at CK
    go_enter Tryz.func46, Tryz.ntmps46
    go_wp2_with fail
    refine Calls.mono (CK.out _) ?_
    rintro e w1 ⟨rfl, hb1⟩
    have S1 := Lib.hid (S0.out.kept hb1)
    clear hb1
    go_wp2_with fail
    go_returns
    rw [HF.out]
    exact ⟨rfl, S1.out.turn⟩
  | some k =>
    rw [hk] at HF CK
    obtain ⟨hk1, hk2, _⟩ := kind_back hk
    clear hk
    simp only [Option.getD_some] at CK
    have CC := Lib.hid (fun w => count_ref k hk2 w)
    have hn3 : formN k ≤ 3 := (form_fact k hk1 hk2).2.2.2.2.1
    obtain ⟨n, hnk⟩ : ∃ n, formN k = n := ⟨_, rfl⟩
    rw [hnk] at CC hn3
    have HNK := Lib.hid hnk
    clear hnk
    have hk0 : ((k : Int) == 0) = false := by simp; omega
    have hk0' : (k == 0) = false := by simp; omega
    by_cases hA : ps.length = n
    · have m1 : ((ps.length : Int) + 1 == (n : Int) + 3) = false := by simp; omega
      have m1' : (ps.length + 1 == n + 3) = false := by simp; omega
      have m2 : ((ps.length : Int) + 1 != (n : Int) + 1) = false := by simp; omega
      have m2' : (ps.length + 1 != n + 1) = false := by simp; omega
      have HQ := Lib.hid (actRest_one (hv := s.x.acts.length) HNK.out hA)
      have HLN := Lib.hid hA
      have hpn : ps.length ≤ n := by omega
      have hnp : n ≤ ps.length := by omega
      clear hA
      go_enter Tryz.func46, Tryz.ntmps46
      go_wp2_with fail
      refine Calls.mono (CK.out _) ?_
      rintro e w1 ⟨rfl, hb1⟩
      have S1 := Lib.hid (S0.out.kept hb1)
      have HB1 := Lib.hid hb1
      clear hb1
      go_wp2_with fail
      refine Calls.mono (CC.out _) ?_
      rintro e w1 ⟨rfl, rfl⟩
      go_upto_region 8 with fail
      go_cut [8, 9] (fun l okv wx => Hid (NumsCut ps w1 l okv wx))
      case first =>
        have hps : ∀ q ∈ ps, q.length ≤ 1000000 := fun q hq => HS.out q (by simp [hq])
        have HPS := Lib.hid hps
        clear hps
        by_cases hc1 : cap = 1
        · have hp0 : ps = [] := List.eq_nil_of_length_eq_zero (by omega)
          subst hp0
          simp only [List.length_nil] at hpn hnp hcap hl
          obtain rfl : n = 0 := by omega
          subst hc1
          simp only [List.length_nil]
          go_wp2_with fail
          refine Calls.mono (all_ref _ [] _ (slAt_zero rfl) (by simp) (by simp)) ?_
          intro e w2 hres
          unfold NumsRes at hres
          cases hn : nums [] with
          | none =>
            rw [hn] at hres
            obtain ⟨rfl, hb2⟩ := hres
            have HN : Hid (NumsCut [] w1 (.slice none 0 0) (.bool false) w2) := by show NumsCut _ _ _ _ _; unfold NumsCut; rw [hn]; exact ⟨rfl, rfl, hb2⟩
            clear hb2 hn
            go_wp2_with fail
            go_meet
            case rel => exact HN
          | some xs =>
            rw [hn] at hres
            obtain ⟨v2, rfl, hown, hb2⟩ := hres
            have HN : Hid (NumsCut [] w1 v2 (.bool true) w2) := by show NumsCut _ _ _ _ _; unfold NumsCut; rw [hn]; exact ⟨rfl, hown, hb2⟩
            clear hb2 hn hown
            go_wp2_with fail
            go_meet
            case rel => exact HN
        · have hc2 : 1 < cap := by omega
          have HT : Hid (SlAt w1 (.slice (some ⟨b, o + 1, none⟩) n (cap - 1)) ps.length (svals ps)) := by
            show SlAt _ _ _ _
            have h := slAt_tail (n := ps.length) (by omega) (HAT.out.kept HB1.out)
            rw [HLN.out] at h ⊢
            exact h
          go_wp2_with fail
          refine Calls.mono (all_ref _ ps _ HT.out (by omega) HPS.out) ?_
          intro e w2 hres
          unfold NumsRes at hres
          cases hn : nums ps with
          | none =>
            rw [hn] at hres
            obtain ⟨rfl, hb2⟩ := hres
            have HN : Hid (NumsCut ps w1 (.slice none 0 0) (.bool false) w2) := by show NumsCut _ _ _ _ _; unfold NumsCut; rw [hn]; exact ⟨rfl, rfl, hb2⟩
            clear hb2 hn
            go_wp2_with fail
            go_meet
            case rel => exact HN
          | some xs =>
            rw [hn] at hres
            obtain ⟨v2, rfl, hown, hb2⟩ := hres
            have HN : Hid (NumsCut ps w1 v2 (.bool true) w2) := by show NumsCut _ _ _ _ _; unfold NumsCut; rw [hn]; exact ⟨rfl, hown, hb2⟩
            clear hb2 hn hown
            go_wp2_with fail
            go_meet
            case rel => exact HN
      case rest =>
        have HC : Hid (NumsCut ps w1 u8 u9 wc) := hcut
        clear hcut
        cases hn : nums ps with
        | none =>
          rw [hn] at HQ
          rw [HQ.out] at HF
          obtain ⟨rfl, rfl, hb2⟩ : u9 = .bool false ∧ u8 = .slice none 0 0 ∧ Below w1.heap.size w1 wc := by have h := HC.out; unfold NumsCut at h; rw [hn] at h; exact h
          have S2 := Lib.hid (S1.out.kept hb2)
          clear hb2 hn HC
          go_wp2_with fail
          go_returns
          rw [HF.out]
          exact ⟨rfl, S2.out.turn⟩
        | some xs =>
          rw [hn] at HQ
          rw [HQ.out] at HF
          obtain ⟨rfl, hown, hb2⟩ : u9 = .bool true ∧ wc.ownsRow w1.heap.size 3 1 u8 xs.length (ivals xs) ∧ Below w1.heap.size w1 wc := by have h := HC.out; unfold NumsCut at h; rw [hn] at h; exact h
          have hxl : xs.length = n := by rw [nums_length hn]; exact HLN.out
          have S2 := Lib.hid (S1.out.kept hb2)
          have HB2 := Lib.hid (hb2)
          have HO2 := Lib.hid hown
          have hx3 : xs.length ≤ 3 := by omega
          clear hb2 hn HC hown HQ hxl
          simp only [refCells] at S2
          have F2 := S2.out.facts
          simp only [St.Facts, cellFacts, apartFacts, and_true] at F2
          -- begin TAIL1
          obtain ⟨l0, h0⟩ : ∃ l0 : Nat, (xs ++ [0, 0, 0])[0]? = some l0 := ⟨(xs ++ [0, 0, 0])[0]'(by simp), by simp⟩
          obtain ⟨l1, h1⟩ : ∃ l1 : Nat, (xs ++ [0, 0, 0])[1]? = some l1 := ⟨(xs ++ [0, 0, 0])[1]'(by simp), by simp⟩
          obtain ⟨l2, h2⟩ : ∃ l2 : Nat, (xs ++ [0, 0, 0])[2]? = some l2 := ⟨(xs ++ [0, 0, 0])[2]'(by simp), by simp⟩
          by_cases hb : 2000 < 1 + s.x.acts.length
          · have HF2 : Hid (actRes s (p :: ps) = .error eLimit) := by show _ = _; rw [HF.out]; simp only [if_pos hb]
            have tb : (2000 : Int) - (s.x.acts.length : Int) < 1 := by omega
            clear hb
            go_wp2_with fail
            go_returns
            rw [HF2.out]
            exact ⟨rfl, S2.out.turn⟩
          · have HF2 : Hid (actRes s (p :: ps) = .ok { s with ph := 3, x := { s.x with acts := s.x.acts ++ List.replicate 1 (⟨(k : Int), (l0 : Int), (l1 : Int), (l2 : Int)⟩ : Ac) } }) := by
              show _ = _
              rw [HF.out]
              simp only [if_neg hb, List.getD_eq_getElem?_getD, h0, h1, h2, Option.getD_some]
            have tb : ¬ (2000 : Int) - (s.x.acts.length : Int) < 1 := by omega
            have H0 := Lib.hid h0
            have H1 := Lib.hid h1
            have H2 := Lib.hid h2
            have hs12 := Lib.hid HB2.out.size
            clear h0 h1 h2
            go_wp2_with (at_builtin; go_must (refine wpList_append_new rfl (.tmp 83) (.tmp 84) 71 rfl 3 (.int .i64 0) 8 Tryz.underlying71 info3 rfl w1.heap.size u8 xs.length (ivals xs) rfl HO2.out #[.int .i64 0, .int .i64 0, .int .i64 0] wc.heap.size rfl rfl (by simp [Value.oneCell']) (by simp; omega) (by simp [maxLen]; omega) hs12.out ?_))
            intro v3 w3 hown3 hg3
            have HB3 : Hid (Below w1.heap.size wc w3) := (Below.refl w1.heap.size wc).own HO2.out hg3 (Nat.le_refl _) hs12.out
            have HO3 : Hid (w3.ownsRow w1.heap.size 3 1 v3 (xs.length + 3) (ivals (xs ++ [0, 0, 0]))) := by
              show World.ownsRow _ _ _ _ _ _ _
              simpa [ivals] using hown3
            obtain ⟨q3, hq3⟩ : ∃ q3, q3 = xs.length + 3 := ⟨_, rfl⟩
            rw [← hq3] at HO3
            obtain ⟨g3, c3, rfl⟩ : ∃ g3 c3, v3 = .slice (some ⟨g3, 0, none⟩) q3 c3 := by
              obtain ⟨_, ⟨_, h0⟩ | ⟨g, cp, cur, e, _⟩⟩ := HO3.out
              · omega
              · exact ⟨g, cp, e⟩
            have q0 : 0 < q3 := by omega
            have q1 : 1 < q3 := by omega
            have q2 : 2 < q3 := by omega
            have qi0 : (0 : Int) < (q3 : Int) := by omega
            have qi1 : (1 : Int) < (q3 : Int) := by omega
            have qi2 : (2 : Int) < (q3 : Int) := by omega
            have HQ3 := Lib.hid hq3
            have HSW : Hid (w.heap.size ≤ w1.heap.size) := HB1.out.size
            have HT3 : Hid (Turn (fun k => w1.heap.size ≤ k) wc w3) := ⟨HB3.out.os, HB3.out.tape, HB3.out.output, HB3.out.size, fun k hk hm => HB3.out.block k (by omega)⟩
            have S3 := Lib.hid (S2.out.turned HT3.out (fun i hi h => by have := HSW.out; omega) (fun x hx h => by simp at hx; subst hx; simp at h; have := HSW.out; omega))
            have F3 := S3.out.facts
            simp only [St.Facts, cellFacts, apartFacts, and_true] at F3
            have HLR : Hid (CellsAt w3 g3 0 (ivals (xs ++ [0, 0, 0]))) := by
              obtain ⟨a', cp', e', _, hcl⟩ := HO3.out.slAt
              obtain ⟨b', o', e2, hat'⟩ := hcl q0
              simp only [Value.slice.injEq] at e'
              rw [← e'.1] at e2
              simp only [Option.some.injEq, Addr.mk.injEq, and_true] at e2
              obtain ⟨rfl, rfl⟩ := e2
              exact hat'
            have HBW3 : Hid (Below w.heap.size w w3) := (HB1.out.step HB2.out).trans (HB3.out.mono HSW.out)
            have HAV3 := Lib.hid ((HAV.out.1.slAt.kept HBW3.out).kept ((Below.refl w3.heap.size w3).alloc (Nat.le_refl _) (.cells #[] 67)))
            have HAL := Lib.hid (acVals_length s.x.acts)
            clear hown3 hg3 F2 hq3
            go_wp2_with (at_builtin; go_must (refine wpList_append_any rfl (.tmp 86) (.tmp 91) 26 rfl 67 (.agg #[.int .i64 0, .int .i64 0, .int .i64 0, .int .i64 0]) 4 32 Tryz.underlying26 info67 rfl (by decide) w3.heap.size (.slice (some ⟨w3.heap.size, 0, none⟩) 0 0) 0 [] rfl (ownsRow_empty w3 67 4) (.slice aa s.x.acts.length ac) s.x.acts.length (acVals s.x.acts) rfl HAV.out.2 HAV3.out HAL.out (acVals_each s.x.acts) (by omega) (by unfold maxLen; omega) (by simp) ?_))
            intro v4 w4 hown4 hg4
            have hown4' : w4.ownsRow w3.heap.size 67 4 v4 s.x.acts.length (acVals s.x.acts) := by simpa using hown4
            have HB4 : Hid (Below w3.heap.size w3 w4) := ((Below.refl w3.heap.size w3).alloc (Nat.le_refl _) (.cells #[] 67)).grown hg4 (by simp) (fun k hk => by simp [Value.ownBlock] at hk; omega)
            have HO4 := Lib.hid hown4'
            have HS3 := Lib.hid (show w1.heap.size ≤ w3.heap.size from Nat.le_trans hs12.out HB3.out.size)
            clear hown4 hown4' hg4 F3
            go_wp2_with fail
            go_loopw [11, 12] (fun out i wr => ∃ j : Nat, j ≤ 1 ∧ i = .int .i64 (j : Int) ∧ Hid (wr.ownsRow w3.heap.size 67 4 out (s.x.acts ++ List.replicate j (⟨(k : Int), (l0 : Int), (l1 : Int), (l2 : Int)⟩ : Ac)).length (acVals (s.x.acts ++ List.replicate j (⟨(k : Int), (l0 : Int), (l1 : Int), (l2 : Int)⟩ : Ac)))) ∧ Hid (Below w3.heap.size w3 wr)) (fun _ i _ => 1 - (intOf i).toNat)
            case atStart => exact ⟨0, by omega, rfl, by show World.ownsRow _ _ _ _ _ _ _; simpa using HO4.out, HB4.out⟩
            case round =>
              clear HO4 HB4
              obtain ⟨j, hj, rfl, HO, HB⟩ := hrel
              by_cases hlt : j < 1
              · have hlj : (j : Int) < 1 := by omega
                have c0 : wr.cell? ⟨g3, 0, none⟩ = some (.int .i64 (l0 : Int)) := by
                  have := (HLR.out.kept HB.out) 0 (.int .i64 (l0 : Int)) (by simp only [ivals, List.getElem?_map, H0.out, Option.map_some])
                  simpa using this
                have c1' : wr.cell? ⟨g3, 1, none⟩ = some (.int .i64 (l1 : Int)) := by
                  have := (HLR.out.kept HB.out) 1 (.int .i64 (l1 : Int)) (by simp only [ivals, List.getElem?_map, H1.out, Option.map_some])
                  simpa using this
                have c2' : wr.cell? ⟨g3, 2, none⟩ = some (.int .i64 (l2 : Int)) := by
                  have := (HLR.out.kept HB.out) 2 (.int .i64 (l2 : Int)) (by simp only [ivals, List.getElem?_map, H2.out, Option.map_some])
                  simpa using this
                have hgM : ¬ (w3.heap.size ≤ g3) := by have := (World.ownsRow.lt HO3.out g3 rfl).2; omega
                have y0 : ∀ p : TurnW (fun k => w3.heap.size ≤ k) wr, p.w.cell? ⟨g3, 0, none⟩ = some (.int .i64 (l0 : Int)) := fun p => turnW_cellR p c0 hgM
                have y1 : ∀ p : TurnW (fun k => w3.heap.size ≤ k) wr, p.w.cell? ⟨g3, 1, none⟩ = some (.int .i64 (l1 : Int)) := fun p => turnW_cellR p c1' hgM
                have y2 : ∀ p : TurnW (fun k => w3.heap.size ≤ k) wr, p.w.cell? ⟨g3, 2, none⟩ = some (.int .i64 (l2 : Int)) := fun p => turnW_cellR p c2' hgM
                clear c0 c1' c2' hgM
                go_wp2_with fail
                refine wp_region_mixedT (fun k => w3.heap.size ≤ k) 15 [(0, false), (1, false), (2, false), (3, false), (4, false), (5, false), (6, false), (7, false), (8, false), (9, false), (10, false), (11, false), (12, true), (13, true), (14, false)] (by kernel_rfl) (by kernel_rfl) ?_
                repeat (refine wpM_mildT rfl (fun K hK => ?_); go_simp; first | (refine hK _ ?_; clear hK K) | (apply Exists.intro; refine ⟨fun _ => ?_, hK _ ?_⟩; (fail); clear hK K))
                refine wpM_effT rfl ?_
                intro wd hbd htd
                have HBD := Lib.hid (HB.out.step hbd)
                have RD := Lib.hid (World.ownsRow.later HO.out hbd)
                have HTD := Lib.hid htd
                clear hbd htd
                go_wp2_with fail
                refine ⟨HTD.out.step ((Below.refl _ _).alloc (Nat.le_refl _) _), wpM_effT rfl ?_⟩
                intro we hbe hte
                have HBE := Lib.hid ((HBD.out.step ((Below.refl wd.heap.size wd).alloc (Nat.le_refl _) (.cells #[.int .i64 (k : Int), .int .i64 (l0 : Int), .int .i64 (l1 : Int), .int .i64 (l2 : Int)] 67))).step hbe)
                have RO := Lib.hid (World.ownsRow.later (RD.out.alloc (.cells #[.int .i64 (k : Int), .int .i64 (l0 : Int), .int .i64 (l1 : Int), .int .i64 (l2 : Int)] 67)) hbe)
                have SD := Lib.hid ((slAt_new wd #[.int .i64 (k : Int), .int .i64 (l0 : Int), .int .i64 (l1 : Int), .int .i64 (l2 : Int)] 67 1 1 (by decide)).kept hbe)
                have HTE := Lib.hid hte
                have hla : (s.x.acts ++ List.replicate j (⟨(k : Int), (l0 : Int), (l1 : Int), (l2 : Int)⟩ : Ac)).length ≤ 5000 := by simp; omega
                clear hbe hte
                refine wpList_append_any rfl (.tmp 98) (.tmp 110) 26 rfl 67 (.agg #[.int .i64 0, .int .i64 0, .int .i64 0, .int .i64 0]) 4 32 Tryz.underlying26 info67 rfl (by decide) w3.heap.size _ _ _ rfl RO.out (.slice (some ⟨wd.heap.size, 0, none⟩) 1 1) 1 [.int .i64 (k : Int), .int .i64 (l0 : Int), .int .i64 (l1 : Int), .int .i64 (l2 : Int)] rfl (.inl ⟨_, _, _, rfl⟩) SD.out rfl (by simp [Value.oneCell']) (by omega) (by unfold maxLen; omega) HBE.out.size ?_
                intro v6 w6 hown6 hg6
                have HB6 := Lib.hid (HBE.out.own RO.out hg6 (Nat.le_refl _) HBE.out.size)
                have HT6 : Hid (Turn (fun k => w3.heap.size ≤ k) wr w6) := HTE.out.trans (Turn.of_grown hg6) (fun i _ hi => (World.ownsRow.lt RO.out i hi).1)
                have RX : Hid (w6.ownsRow w3.heap.size 67 4 v6 (s.x.acts ++ List.replicate (j + 1) (⟨(k : Int), (l0 : Int), (l1 : Int), (l2 : Int)⟩ : Ac)).length (acVals (s.x.acts ++ List.replicate (j + 1) (⟨(k : Int), (l0 : Int), (l1 : Int), (l2 : Int)⟩ : Ac)))) := by
                  show World.ownsRow _ _ _ _ _ _ _
                  rw [List.replicate_succ', ← List.append_assoc, List.length_append, acVals_append]
                  exact hown6
                clear hown6 hg6 hla
                go_wp2_with fail
                refine ⟨HT6.out, ?_⟩
                repeat (refine wpM_mildT rfl (fun K hK => ?_); go_simp; first | (refine hK _ ?_; clear hK K) | (apply Exists.intro; refine ⟨fun _ => ?_, hK _ ?_⟩; (fail); clear hK K))
                refine wpM_endT ?_
                intro w7 hb7 _
                have RX7 := Lib.hid (World.ownsRow.later RX.out hb7)
                have HB7 := Lib.hid (HB6.out.step hb7)
                clear hb7 y0 y1 y2
                go_wp2_with fail
                go_roundw
                case rel => exact ⟨j + 1, by omega, by go_num, RX7.out, HB7.out⟩
                case measure => simp [intOf]; omega
              · obtain rfl : j = 1 := by omega
                obtain ⟨g5, n5, c5, rfl⟩ : ∃ g5 n5 c5, u11 = .slice (some ⟨g5, 0, none⟩) n5 c5 := by
                  obtain ⟨_, ⟨_, h0⟩ | ⟨g, cp, cur, e, _⟩⟩ := HO.out
                  · exfalso; simp at h0; try omega
                  · exact ⟨g, _, cp, e⟩
                have S5 := Lib.hid (S3.out.kept HB.out)
                have F5 := S5.out.facts
                simp only [St.Facts, cellFacts, apartFacts, and_true] at F5
                have HSZ := Lib.hid (show w.heap.size ≤ w3.heap.size from HBW3.out.size)
                go_wp2_with fail
                go_returns
                rw [HF2.out]
                exact act_end HPH.out HSZ.out hlb HCV.out HLA.out HLL.out S5.out HO.out
          -- end TAIL1
    · by_cases hM : ps.length = n + 2 ∧ ps.getD n [] = [42]
      · obtain ⟨hM1, hM2⟩ := hM
        obtain ⟨tm, ht⟩ : ∃ tm, ps[n + 1]? = some tm := ⟨ps[n + 1]'(by omega), by simp⟩
        have hst : ps[n]? = some [42] := by
          rw [List.getD_eq_getElem?_getD] at hM2
          rw [List.getElem?_eq_getElem (by omega)] at hM2 ⊢
          exact congrArg some hM2
        have m1 : ((ps.length : Int) + 1 == (n : Int) + 3) = true := by simp; omega
        have m1' : (ps.length + 1 == n + 3) = true := by simp; omega
        have m2 : ((ps.length : Int) + 1 != (n : Int) + 1) = true := by simp; omega
        have m2' : (ps.length + 1 != n + 1) = true := by simp; omega
        have HQ := Lib.hid (actRest_many (hv := s.x.acts.length) HNK.out hM1 hM2 ht)
        have HTM := Lib.hid ht
        have HST := Lib.hid hst
        have hpn : ps.length ≤ n + 2 := by omega
        have hnp : n + 2 ≤ ps.length := by omega
        have htl : tm.length ≤ 1000000 := HS.out tm (List.mem_cons_of_mem _ (List.mem_of_getElem? ht))
        clear hA hM1 hM2 ht hst
        go_enter Tryz.func46, Tryz.ntmps46
        go_wp2_with fail
        refine Calls.mono (CK.out _) ?_
        rintro e w1 ⟨rfl, hb1⟩
        have S1 := Lib.hid (S0.out.kept hb1)
        have HB1 := Lib.hid hb1
        have z1 : w1.cell? ⟨b, o + (n + 1), none⟩ = some (.string ⟨#[42]⟩) := (HAT.out.kept hb1) (n + 1) _ (by simp [svals, HST.out])
        clear hb1
        go_wp2_with fail
        refine Calls.mono (CC.out _) ?_
        rintro e w1 ⟨rfl, rfl⟩
        go_upto_region 8 with fail
        clear z1
        go_cut [8, 9] (fun l okv wx => Hid (NumsCut (ps.take n) w1 l okv wx))
        case first =>
          have hps : ∀ q ∈ ps.take n, q.length ≤ 1000000 := fun q hq => HS.out q (List.mem_cons_of_mem _ (List.mem_of_mem_take hq))
          have HPS := Lib.hid hps
          clear hps
          have hc2 : 1 < cap := by omega
          have hc3 : n + 1 ≤ cap := by omega
          have HT : Hid (SlAt w1 (.slice (some ⟨b, o + 1, none⟩) n (cap - 1)) (ps.take n).length (svals (ps.take n))) := by
            show SlAt _ _ _ _
            have hl2 : (ps.take n).length = n := by simp; omega
            rw [hl2]
            refine ⟨_, cap - 1, rfl, by omega, fun _ => ⟨b, o + 1, rfl, fun j u hu => ?_⟩⟩
            have hu2 : (svals ps)[j]? = some u := by
              unfold svals at hu ⊢
              rw [List.map_take, List.getElem?_take] at hu
              split at hu
              · exact hu
              · cases hu
            have := (HAT.out.kept HB1.out) (j + 1) u (by simpa [svals] using hu2)
            rw [show o + 1 + j = o + (j + 1) by omega]
            exact this
          go_wp2_with fail
          refine Calls.mono (all_ref _ (ps.take n) _ HT.out (by simp; omega) HPS.out) ?_
          intro e w2 hres
          unfold NumsRes at hres
          cases hn : nums (ps.take n) with
          | none =>
            rw [hn] at hres
            obtain ⟨rfl, hb2⟩ := hres
            have HN : Hid (NumsCut (ps.take n) w1 (.slice none 0 0) (.bool false) w2) := by show NumsCut _ _ _ _ _; unfold NumsCut; rw [hn]; exact ⟨rfl, rfl, hb2⟩
            clear hb2 hn
            go_wp2_with fail
            go_meet
            case rel => exact HN
          | some xs =>
            rw [hn] at hres
            obtain ⟨v2, rfl, hown, hb2⟩ := hres
            have HN : Hid (NumsCut (ps.take n) w1 v2 (.bool true) w2) := by show NumsCut _ _ _ _ _; unfold NumsCut; rw [hn]; exact ⟨rfl, hown, hb2⟩
            clear hb2 hn hown
            go_wp2_with fail
            go_meet
            case rel => exact HN
        case rest =>
          have HC : Hid (NumsCut (ps.take n) w1 u8 u9 wc) := hcut
          clear hcut
          cases hn : nums (ps.take n) with
          | none =>
            rw [hn] at HQ
            rw [HQ.out] at HF
            obtain ⟨rfl, rfl, hb2⟩ : u9 = .bool false ∧ u8 = .slice none 0 0 ∧ Below w1.heap.size w1 wc := by have h := HC.out; unfold NumsCut at h; rw [hn] at h; exact h
            have S2 := Lib.hid (S1.out.kept hb2)
            clear hb2 hn HC
            go_wp2_with fail
            go_returns
            rw [HF.out]
            exact ⟨rfl, S2.out.turn⟩
          | some xs =>
            rw [hn] at HQ
            obtain ⟨rfl, hown, hb2⟩ : u9 = .bool true ∧ wc.ownsRow w1.heap.size 3 1 u8 xs.length (ivals xs) ∧ Below w1.heap.size w1 wc := by have h := HC.out; unfold NumsCut at h; rw [hn] at h; exact h
            have hx3 : xs.length ≤ 3 := by rw [nums_length hn]; simp; omega
            have S2 := Lib.hid (S1.out.kept hb2)
            have HB2 := Lib.hid hb2
            have HO2 := Lib.hid hown
            have z2 : wc.cell? ⟨b, o + (n + 2), none⟩ = some (.string ⟨tm.toArray⟩) := ((HAT.out.kept HB1.out).kept hb2) (n + 2) _ (by simp [svals, HTM.out])
            have CN := Lib.hid (fun w => number_ref ⟨tm.toArray⟩ htl w)
            clear hb2 hn HC hown
            simp only [refCells] at S2
            have F2 := S2.out.facts
            simp only [St.Facts, cellFacts, apartFacts, and_true] at F2
            cases hm : num tm with
            | none =>
              rw [hm] at HQ
              rw [HQ.out] at HF
              have HM := Lib.hid hm
              clear hm HQ
              go_wp2_with fail
              refine (CN.out _).mono ?_
              rintro e w9 ⟨hres, rfl⟩
              unfold NumRes at hres
              rw [show num (ByteArray.mk tm.toArray).data.toList = none from HM.out] at hres
              obtain ⟨z, rfl⟩ := hres
              go_wp2_with fail
              go_returns
              rw [HF.out]
              exact ⟨rfl, S2.out.turn⟩
            | some m =>
              rw [hm] at HQ
              have HM := Lib.hid hm
              clear hm
              by_cases h0 : m = 0
              · subst h0
                simp only [if_true] at HQ
                rw [HQ.out] at HF
                clear HQ
                go_wp2_with fail
                refine (CN.out _).mono ?_
                rintro e w9 ⟨hres, rfl⟩
                unfold NumRes at hres
                rw [show num (ByteArray.mk tm.toArray).data.toList = some 0 from HM.out] at hres
                simp only at hres
                subst hres
                go_wp2_with fail
                go_returns
                rw [HF.out]
                exact ⟨rfl, S2.out.turn⟩
              · simp only [if_neg h0] at HQ
                rw [HQ.out] at HF
                have hm0 : (0 : Int) < (m : Int) := by omega
                have hm0' : 0 < m := by omega
                have hmb : m ≤ maxWord := (num_back HM.out).2
                unfold maxWord at hmb
                clear HQ h0
                go_wp2_with fail
                refine (CN.out _).mono ?_
                rintro e w9 ⟨hres, rfl⟩
                unfold NumRes at hres
                rw [show num (ByteArray.mk tm.toArray).data.toList = some m from HM.out] at hres
                simp only at hres
                subst hres
                -- begin TAILM
                obtain ⟨l0, h0⟩ : ∃ l0 : Nat, (xs ++ [0, 0, 0])[0]? = some l0 := ⟨(xs ++ [0, 0, 0])[0]'(by simp), by simp⟩
                obtain ⟨l1, h1⟩ : ∃ l1 : Nat, (xs ++ [0, 0, 0])[1]? = some l1 := ⟨(xs ++ [0, 0, 0])[1]'(by simp), by simp⟩
                obtain ⟨l2, h2⟩ : ∃ l2 : Nat, (xs ++ [0, 0, 0])[2]? = some l2 := ⟨(xs ++ [0, 0, 0])[2]'(by simp), by simp⟩
                by_cases hb : 2000 < m + s.x.acts.length
                · have HF2 : Hid (actRes s (p :: ps) = .error eLimit) := by show _ = _; rw [HF.out]; simp only [if_pos hb]
                  have tb : (2000 : Int) - (s.x.acts.length : Int) < (m : Int) := by omega
                  clear hb
                  go_wp2_with fail
                  go_returns
                  rw [HF2.out]
                  exact ⟨rfl, S2.out.turn⟩
                · have HF2 : Hid (actRes s (p :: ps) = .ok { s with ph := 3, x := { s.x with acts := s.x.acts ++ List.replicate m (⟨(k : Int), (l0 : Int), (l1 : Int), (l2 : Int)⟩ : Ac) } }) := by
                    show _ = _
                    rw [HF.out]
                    simp only [if_neg hb, List.getD_eq_getElem?_getD, h0, h1, h2, Option.getD_some]
                  have tb : ¬ (2000 : Int) - (s.x.acts.length : Int) < (m : Int) := by omega
                  have H0 := Lib.hid h0
                  have H1 := Lib.hid h1
                  have H2 := Lib.hid h2
                  have hs12 := Lib.hid HB2.out.size
                  clear h0 h1 h2
                  go_wp2_with (at_builtin; go_must (refine wpList_append_new rfl (.tmp 83) (.tmp 84) 71 rfl 3 (.int .i64 0) 8 Tryz.underlying71 info3 rfl w1.heap.size u8 xs.length (ivals xs) rfl HO2.out #[.int .i64 0, .int .i64 0, .int .i64 0] wc.heap.size rfl rfl (by simp [Value.oneCell']) (by simp; omega) (by simp [maxLen]; omega) hs12.out ?_))
                  intro v3 w3 hown3 hg3
                  have HB3 : Hid (Below w1.heap.size wc w3) := (Below.refl w1.heap.size wc).own HO2.out hg3 (Nat.le_refl _) hs12.out
                  have HO3 : Hid (w3.ownsRow w1.heap.size 3 1 v3 (xs.length + 3) (ivals (xs ++ [0, 0, 0]))) := by
                    show World.ownsRow _ _ _ _ _ _ _
                    simpa [ivals] using hown3
                  obtain ⟨q3, hq3⟩ : ∃ q3, q3 = xs.length + 3 := ⟨_, rfl⟩
                  rw [← hq3] at HO3
                  obtain ⟨g3, c3, rfl⟩ : ∃ g3 c3, v3 = .slice (some ⟨g3, 0, none⟩) q3 c3 := by
                    obtain ⟨_, ⟨_, h0⟩ | ⟨g, cp, cur, e, _⟩⟩ := HO3.out
                    · omega
                    · exact ⟨g, cp, e⟩
                  have q0 : 0 < q3 := by omega
                  have q1 : 1 < q3 := by omega
                  have q2 : 2 < q3 := by omega
                  have qi0 : (0 : Int) < (q3 : Int) := by omega
                  have qi1 : (1 : Int) < (q3 : Int) := by omega
                  have qi2 : (2 : Int) < (q3 : Int) := by omega
                  have HQ3 := Lib.hid hq3
                  have HSW : Hid (w.heap.size ≤ w1.heap.size) := HB1.out.size
                  have HT3 : Hid (Turn (fun k => w1.heap.size ≤ k) wc w3) := ⟨HB3.out.os, HB3.out.tape, HB3.out.output, HB3.out.size, fun k hk hm => HB3.out.block k (by omega)⟩
                  have S3 := Lib.hid (S2.out.turned HT3.out (fun i hi h => by have := HSW.out; omega) (fun x hx h => by simp at hx; subst hx; simp at h; have := HSW.out; omega))
                  have F3 := S3.out.facts
                  simp only [St.Facts, cellFacts, apartFacts, and_true] at F3
                  have HLR : Hid (CellsAt w3 g3 0 (ivals (xs ++ [0, 0, 0]))) := by
                    obtain ⟨a', cp', e', _, hcl⟩ := HO3.out.slAt
                    obtain ⟨b', o', e2, hat'⟩ := hcl q0
                    simp only [Value.slice.injEq] at e'
                    rw [← e'.1] at e2
                    simp only [Option.some.injEq, Addr.mk.injEq, and_true] at e2
                    obtain ⟨rfl, rfl⟩ := e2
                    exact hat'
                  have HBW3 : Hid (Below w.heap.size w w3) := (HB1.out.step HB2.out).trans (HB3.out.mono HSW.out)
                  have HAV3 := Lib.hid ((HAV.out.1.slAt.kept HBW3.out).kept ((Below.refl w3.heap.size w3).alloc (Nat.le_refl _) (.cells #[] 67)))
                  have HAL := Lib.hid (acVals_length s.x.acts)
                  clear hown3 hg3 F2 hq3
                  go_wp2_with (at_builtin; go_must (refine wpList_append_any rfl (.tmp 86) (.tmp 91) 26 rfl 67 (.agg #[.int .i64 0, .int .i64 0, .int .i64 0, .int .i64 0]) 4 32 Tryz.underlying26 info67 rfl (by decide) w3.heap.size (.slice (some ⟨w3.heap.size, 0, none⟩) 0 0) 0 [] rfl (ownsRow_empty w3 67 4) (.slice aa s.x.acts.length ac) s.x.acts.length (acVals s.x.acts) rfl HAV.out.2 HAV3.out HAL.out (acVals_each s.x.acts) (by omega) (by unfold maxLen; omega) (by simp) ?_))
                  intro v4 w4 hown4 hg4
                  have hown4' : w4.ownsRow w3.heap.size 67 4 v4 s.x.acts.length (acVals s.x.acts) := by simpa using hown4
                  have HB4 : Hid (Below w3.heap.size w3 w4) := ((Below.refl w3.heap.size w3).alloc (Nat.le_refl _) (.cells #[] 67)).grown hg4 (by simp) (fun k hk => by simp [Value.ownBlock] at hk; omega)
                  have HO4 := Lib.hid hown4'
                  have HS3 := Lib.hid (show w1.heap.size ≤ w3.heap.size from Nat.le_trans hs12.out HB3.out.size)
                  clear hown4 hown4' hg4 F3
                  go_wp2_with fail
                  go_loopw [11, 12] (fun out i wr => ∃ j : Nat, j ≤ m ∧ i = .int .i64 (j : Int) ∧ Hid (wr.ownsRow w3.heap.size 67 4 out (s.x.acts ++ List.replicate j (⟨(k : Int), (l0 : Int), (l1 : Int), (l2 : Int)⟩ : Ac)).length (acVals (s.x.acts ++ List.replicate j (⟨(k : Int), (l0 : Int), (l1 : Int), (l2 : Int)⟩ : Ac)))) ∧ Hid (Below w3.heap.size w3 wr)) (fun _ i _ => m - (intOf i).toNat)
                  case atStart => exact ⟨0, by omega, rfl, by show World.ownsRow _ _ _ _ _ _ _; simpa using HO4.out, HB4.out⟩
                  case round =>
                    clear HO4 HB4
                    obtain ⟨j, hj, rfl, HO, HB⟩ := hrel
                    by_cases hlt : j < m
                    · have hlj : (j : Int) < (m : Int) := by omega
                      have c0 : wr.cell? ⟨g3, 0, none⟩ = some (.int .i64 (l0 : Int)) := by
                        have := (HLR.out.kept HB.out) 0 (.int .i64 (l0 : Int)) (by simp only [ivals, List.getElem?_map, H0.out, Option.map_some])
                        simpa using this
                      have c1' : wr.cell? ⟨g3, 1, none⟩ = some (.int .i64 (l1 : Int)) := by
                        have := (HLR.out.kept HB.out) 1 (.int .i64 (l1 : Int)) (by simp only [ivals, List.getElem?_map, H1.out, Option.map_some])
                        simpa using this
                      have c2' : wr.cell? ⟨g3, 2, none⟩ = some (.int .i64 (l2 : Int)) := by
                        have := (HLR.out.kept HB.out) 2 (.int .i64 (l2 : Int)) (by simp only [ivals, List.getElem?_map, H2.out, Option.map_some])
                        simpa using this
                      have hgM : ¬ (w3.heap.size ≤ g3) := by have := (World.ownsRow.lt HO3.out g3 rfl).2; omega
                      have y0 : ∀ p : TurnW (fun k => w3.heap.size ≤ k) wr, p.w.cell? ⟨g3, 0, none⟩ = some (.int .i64 (l0 : Int)) := fun p => turnW_cellR p c0 hgM
                      have y1 : ∀ p : TurnW (fun k => w3.heap.size ≤ k) wr, p.w.cell? ⟨g3, 1, none⟩ = some (.int .i64 (l1 : Int)) := fun p => turnW_cellR p c1' hgM
                      have y2 : ∀ p : TurnW (fun k => w3.heap.size ≤ k) wr, p.w.cell? ⟨g3, 2, none⟩ = some (.int .i64 (l2 : Int)) := fun p => turnW_cellR p c2' hgM
                      clear c0 c1' c2' hgM
                      go_wp2_with fail
                      refine wp_region_mixedT (fun k => w3.heap.size ≤ k) 15 [(0, false), (1, false), (2, false), (3, false), (4, false), (5, false), (6, false), (7, false), (8, false), (9, false), (10, false), (11, false), (12, true), (13, true), (14, false)] (by kernel_rfl) (by kernel_rfl) ?_
                      repeat (refine wpM_mildT rfl (fun K hK => ?_); go_simp; first | (refine hK _ ?_; clear hK K) | (apply Exists.intro; refine ⟨fun _ => ?_, hK _ ?_⟩; (fail); clear hK K))
                      refine wpM_effT rfl ?_
                      intro wd hbd htd
                      have HBD := Lib.hid (HB.out.step hbd)
                      have RD := Lib.hid (World.ownsRow.later HO.out hbd)
                      have HTD := Lib.hid htd
                      clear hbd htd
                      go_wp2_with fail
                      refine ⟨HTD.out.step ((Below.refl _ _).alloc (Nat.le_refl _) _), wpM_effT rfl ?_⟩
                      intro we hbe hte
                      have HBE := Lib.hid ((HBD.out.step ((Below.refl wd.heap.size wd).alloc (Nat.le_refl _) (.cells #[.int .i64 (k : Int), .int .i64 (l0 : Int), .int .i64 (l1 : Int), .int .i64 (l2 : Int)] 67))).step hbe)
                      have RO := Lib.hid (World.ownsRow.later (RD.out.alloc (.cells #[.int .i64 (k : Int), .int .i64 (l0 : Int), .int .i64 (l1 : Int), .int .i64 (l2 : Int)] 67)) hbe)
                      have SD := Lib.hid ((slAt_new wd #[.int .i64 (k : Int), .int .i64 (l0 : Int), .int .i64 (l1 : Int), .int .i64 (l2 : Int)] 67 1 1 (by decide)).kept hbe)
                      have HTE := Lib.hid hte
                      have hla : (s.x.acts ++ List.replicate j (⟨(k : Int), (l0 : Int), (l1 : Int), (l2 : Int)⟩ : Ac)).length ≤ 5000 := by simp; omega
                      clear hbe hte
                      refine wpList_append_any rfl (.tmp 98) (.tmp 110) 26 rfl 67 (.agg #[.int .i64 0, .int .i64 0, .int .i64 0, .int .i64 0]) 4 32 Tryz.underlying26 info67 rfl (by decide) w3.heap.size _ _ _ rfl RO.out (.slice (some ⟨wd.heap.size, 0, none⟩) 1 1) 1 [.int .i64 (k : Int), .int .i64 (l0 : Int), .int .i64 (l1 : Int), .int .i64 (l2 : Int)] rfl (.inl ⟨_, _, _, rfl⟩) SD.out rfl (by simp [Value.oneCell']) (by omega) (by unfold maxLen; omega) HBE.out.size ?_
                      intro v6 w6 hown6 hg6
                      have HB6 := Lib.hid (HBE.out.own RO.out hg6 (Nat.le_refl _) HBE.out.size)
                      have HT6 : Hid (Turn (fun k => w3.heap.size ≤ k) wr w6) := HTE.out.trans (Turn.of_grown hg6) (fun i _ hi => (World.ownsRow.lt RO.out i hi).1)
                      have RX : Hid (w6.ownsRow w3.heap.size 67 4 v6 (s.x.acts ++ List.replicate (j + 1) (⟨(k : Int), (l0 : Int), (l1 : Int), (l2 : Int)⟩ : Ac)).length (acVals (s.x.acts ++ List.replicate (j + 1) (⟨(k : Int), (l0 : Int), (l1 : Int), (l2 : Int)⟩ : Ac)))) := by
                        show World.ownsRow _ _ _ _ _ _ _
                        rw [List.replicate_succ', ← List.append_assoc, List.length_append, acVals_append]
                        exact hown6
                      clear hown6 hg6 hla
                      go_wp2_with fail
                      refine ⟨HT6.out, ?_⟩
                      repeat (refine wpM_mildT rfl (fun K hK => ?_); go_simp; first | (refine hK _ ?_; clear hK K) | (apply Exists.intro; refine ⟨fun _ => ?_, hK _ ?_⟩; (fail); clear hK K))
                      refine wpM_endT ?_
                      intro w7 hb7 _
                      have RX7 := Lib.hid (World.ownsRow.later RX.out hb7)
                      have HB7 := Lib.hid (HB6.out.step hb7)
                      clear hb7 y0 y1 y2
                      go_wp2_with fail
                      go_roundw
                      case rel => exact ⟨j + 1, by omega, by go_num, RX7.out, HB7.out⟩
                      case measure => simp [intOf]; omega
                    · obtain rfl : j = m := by omega
                      obtain ⟨g5, n5, c5, rfl⟩ : ∃ g5 n5 c5, u11 = .slice (some ⟨g5, 0, none⟩) n5 c5 := by
                        obtain ⟨_, ⟨_, h0⟩ | ⟨g, cp, cur, e, _⟩⟩ := HO.out
                        · exfalso; simp at h0; try omega
                        · exact ⟨g, _, cp, e⟩
                      have S5 := Lib.hid (S3.out.kept HB.out)
                      have F5 := S5.out.facts
                      simp only [St.Facts, cellFacts, apartFacts, and_true] at F5
                      have HSZ := Lib.hid (show w.heap.size ≤ w3.heap.size from HBW3.out.size)
                      go_wp2_with fail
                      go_returns
                      rw [HF2.out]
                      exact act_end HPH.out HSZ.out hlb HCV.out HLA.out HLL.out S5.out HO.out
                -- end TAILM
      · have HQ := Lib.hid (actRest_no (hv := s.x.acts.length) HNK.out hA hM)
        simp only [HQ.out] at HF
        by_cases h2 : ps.length = n + 2
        · obtain ⟨q, hq⟩ : ∃ q, ps[n]? = some q := ⟨ps[n]'(by omega), by simp⟩
          have hq42 : ¬ q = [42] := fun e => hM ⟨h2, by rw [List.getD_eq_getElem?_getD, hq, e]; rfl⟩
          obtain ⟨t1, t2, t3, t4⟩ := str_lit q [42] false (decide_eq_false hq42)
          have m1 : ((ps.length : Int) + 1 == (n : Int) + 3) = true := by simp; omega
          have m1' : (ps.length + 1 == n + 3) = true := by simp; omega
          have m2 : ((ps.length : Int) + 1 != (n : Int) + 1) = true := by simp; omega
          have m2' : (ps.length + 1 != n + 1) = true := by simp; omega
          have hnp : n + 2 ≤ ps.length := by omega
          have HST := Lib.hid hq
          clear hA hM h2 hq hq42 HQ
          go_enter Tryz.func46, Tryz.ntmps46
          go_wp2_with fail
          refine Calls.mono (CK.out _) ?_
          rintro e w1 ⟨rfl, hb1⟩
          have S1 := Lib.hid (S0.out.kept hb1)
          have z1 : w1.cell? ⟨b, o + (n + 1), none⟩ = some (.string ⟨q.toArray⟩) := (HAT.out.kept hb1) (n + 1) _ (by simp [svals, HST.out])
          clear hb1
          go_wp2_with fail
          refine Calls.mono (CC.out _) ?_
          rintro e w1 ⟨rfl, rfl⟩
          go_wp2_with fail
          go_returns
          rw [HF.out]
          exact ⟨rfl, S1.out.turn⟩
        · have m1 : ((ps.length : Int) + 1 == (n : Int) + 3) = false := by simp; omega
          have m1' : (ps.length + 1 == n + 3) = false := by simp; omega
          have m2 : ((ps.length : Int) + 1 != (n : Int) + 1) = true := by simp; omega
          have m2' : (ps.length + 1 != n + 1) = true := by simp; omega
          clear hA hM h2 HQ
          go_enter Tryz.func46, Tryz.ntmps46
          go_wp2_with fail
          refine Calls.mono (CK.out _) ?_
          rintro e w1 ⟨rfl, hb1⟩
          have S1 := Lib.hid (S0.out.kept hb1)
          clear hb1
          go_wp2_with fail
          refine Calls.mono (CC.out _) ?_
          rintro e w1 ⟨rfl, rfl⟩
          go_wp2_with fail
          go_returns
          rw [HF.out]
          exact ⟨rfl, S1.out.turn⟩
end Go.Proofs.YtialgdnkkjmpbaaGreatDoor
