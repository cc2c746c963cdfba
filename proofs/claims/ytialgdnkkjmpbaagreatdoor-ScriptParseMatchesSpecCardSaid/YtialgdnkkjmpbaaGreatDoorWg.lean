/-
  Walks: the reader of acts of the package script. Conditions: the variables of the program's text are there. Of what was there only the reader and its rows turn.
-/
import Derived.Test.YtialgdnkkjmpbaaGreatDoorWf
import Derived.Deep.DeepCutAuto
namespace Go.Proofs.YtialgdnkkjmpbaaGreatDoor
open Go.RowKit Go.Sort

theorem kindInt_none {p : Bytes} (h : kindOf p = none) : kindInt p = -1 := by unfold kindInt; rw [h]
theorem kindInt_some {p : Bytes} {k : Nat} (h : kindOf p = some k) : kindInt p = (k : Int) := by unfold kindInt; rw [h]
theorem formN_cell {w : World} (h : Env w) (k : Nat) (hk : k ≤ 12) : w.cell? ⟨0, k * 2 + 1, none⟩ = some (.int .i64 (formN k : Int)) := by
  have hlt : k < forms.length := by simp [forms]; omega
  have := (form_cells h k forms[k] (List.getElem?_eq_getElem hlt)).2
  rw [this]
  unfold formN
  rw [List.getD_eq_getElem?_getD, List.getElem?_eq_getElem hlt]; rfl
theorem slAt_zero {w : World} {a : Option Addr} {n cap : Nat} {cs : List Value} (h : n = 0) : SlAt w (.slice a n cap) n cs := ⟨a, cap, rfl, by omega, fun h0 => by omega⟩

def actN (have_ k n : Nat) (l : List Nat) : Except Int (List Ac) :=
  if l.getD n 0 = 0 then .error eNumber else if 2000 < l.getD n 0 + have_ then .error eLimit else
  .ok (List.replicate (l.getD n 0) ⟨k, (l.take n ++ [0, 0, 0]).getD 0 0, (l.take n ++ [0, 0, 0]).getD 1 0, (l.take n ++ [0, 0, 0]).getD 2 0⟩)
def actQ (have_ k n : Nat) (qs : List Bytes) (tm : Bytes) : Except Int (List Ac) :=
  if qs.length ≠ n then .error eSyntax else match nums (qs ++ [tm]) with | none => .error eNumber | some l => actN have_ k n l
theorem actRest_q {hv k n : Nat} {ps qs : List Bytes} {tm : Bytes} {many : Bool} (hn : formN k = n) (hm : many = decide (ps.length = n + 2 ∧ ps.getD n [] = [42])) (hq : qs = if many = true then ps.take n else ps) (ht : tm = if many = true then ps.getD (n + 1) [] else [49]) :
    actRest hv k ps = actQ hv k n qs tm := by
  unfold actRest actQ actN
  simp only [hn]
  cases many
  · have hm' : ¬ (ps.length = n + 2 ∧ ps.getD n [] = [42]) := by simpa using hm.symm
    rw [hq, ht]
    simp only [if_neg hm', Bool.false_eq_true, if_false]
    cases nums (ps ++ [[49]]) <;> rfl
  · have hm' : ps.length = n + 2 ∧ ps.getD n [] = [42] := by simpa using hm.symm
    rw [hq, ht]
    simp only [if_pos hm', if_true]
    cases nums (ps.take n ++ [ps.getD (n + 1) []]) <;> rfl
theorem actQ_no {hv k n : Nat} {qs : List Bytes} {tm : Bytes} (h : ¬ qs.length = n) : actQ hv k n qs tm = .error eSyntax := if_pos h
theorem actQ_go {hv k n : Nat} {qs : List Bytes} {tm : Bytes} (h : qs.length = n) : actQ hv k n qs tm = match nums (qs ++ [tm]) with | none => .error eNumber | some l => actN hv k n l := by
  unfold actQ; rw [if_neg (by simp [h])]
theorem actN_zero {hv k n : Nat} {l : List Nat} (h : 0 = l.getD n 0) : actN hv k n l = .error eNumber := if_pos h.symm
theorem actN_big {hv k n m : Nat} {l : List Nat} (h : m = l.getD n 0) (h0 : ¬ m = 0) (h1 : 2000 < m + hv) : actN hv k n l = .error eLimit := by
  unfold actN; rw [← h, if_neg h0, if_pos h1]
theorem actN_ok {hv k n m : Nat} {l : List Nat} (h : m = l.getD n 0) (h0 : ¬ m = 0) (h1 : ¬ 2000 < m + hv) : actN hv k n l = .ok (List.replicate m ⟨k, (l.take n ++ [0, 0, 0]).getD 0 0, (l.take n ++ [0, 0, 0]).getD 1 0, (l.take n ++ [0, 0, 0]).getD 2 0⟩) := by
  unfold actN; rw [← h, if_neg h0, if_neg h1]
theorem slAt_clip {w : World} {a : Option Addr} {n c : Nat} {cs : List Value} (h : SlAt w (.slice a n c) n cs) : SlAt w (.slice a n n) n cs := by
  obtain ⟨a', c', e, _, h⟩ := h
  cases e
  exact ⟨a, n, rfl, Nat.le_refl _, h⟩
theorem svals_len (l : List Bytes) : (svals l).length = l.length := by simp [svals]

theorem qs_small {n : Nat} {p : Bytes} {ps qs : List Bytes} {tm : Bytes} {many : Bool} (hs : ∀ q ∈ p :: ps, q.length ≤ 1000000) (hq : qs = if many = true then ps.take n else ps) (ht : tm = if many = true then ps.getD (n + 1) [] else [49]) : ∀ q ∈ qs ++ [tm], q.length ≤ 1000000 := by
  intro q hm
  rcases List.mem_append.1 hm with hm | hm
  · refine hs q (List.mem_cons_of_mem _ ?_)
    subst hq
    split at hm
    · exact List.mem_of_mem_take hm
    · exact hm
  · simp only [List.mem_singleton] at hm
    subst hm ht
    split
    · rw [List.getD_eq_getElem?_getD]
      cases hg : ps[n + 1]? with
      | none => simp
      | some r => exact hs r (List.mem_cons_of_mem _ (List.mem_of_getElem? hg))
    · simp

set_option maxRecDepth 100000 in
set_option maxHeartbeats 2000000 in
theorem acts_any (base rb : Nat) (w : World) (s : Rd) (line : ByteArray) (v : Value) (parts : List Bytes) (he : Env w) (hr : Rdr base rb w s) (hv : SlAt w v parts.length (svals parts)) (hne : parts ≠ []) (hl : parts.length ≤ 1000000) (hs : ∀ p ∈ parts, p.length ≤ 1000000) (ha : s.x.acts.length ≤ 2000) :
    Calls Tryz.prog 85 #[.pointer (some ⟨rb, 0, none⟩), .string line, v] w (RdRes base rb w (rdActs s parts)) := by
  obtain ⟨p, ps, rfl⟩ : ∃ p ps, parts = p :: ps := by cases parts with | nil => exact absurd rfl hne | cons p ps => exact ⟨p, ps, rfl⟩
  obtain ⟨cv, av, lvs, hR⟩ := hr
  obtain ⟨a, cap, rfl, hcap, hcells⟩ := hv
  obtain ⟨b, o, rfl, hat⟩ := hcells (by simp)
  have hlt : b < w.heap.size := hat.lt (by simp [svals])
  have hrb : rb < w.heap.size := (Array.getElem?_eq_some_iff.1 hR.blk).1
  have x0 : w.cell? ⟨b, o, none⟩ = some (.string ⟨p.toArray⟩) := hat 0 _ rfl
  have HF : Hid (rdActs s (p :: ps) = match kindOf p with | none => .error eSyntax | some k => match actRest s.x.acts.length k ps with | .error e => .error e | .ok l => .ok { s with x := { s.x with acts := s.x.acts ++ l } }) := by
    show _ = _
    unfold rdActs actLine
    simp only [List.headD_cons, List.tail_cons]
    cases kindOf p <;> rfl
  have C1 : Hid (Calls Tryz.prog 140 #[.slice (some ⟨0, 0, none⟩) 13 13, .func (.func 141) #[] #[.pointer (some ⟨w.heap.size, 0, none⟩)]] (w.alloc (.cells #[.slice (some ⟨b, o, none⟩) (p :: ps).length cap] 43)) fun e w' => e = .returned (.int .i64 (kindInt p)) ∧ Below (w.alloc (.cells #[.slice (some ⟨b, o, none⟩) (p :: ps).length cap] 43)).heap.size (w.alloc (.cells #[.slice (some ⟨b, o, none⟩) (p :: ps).length cap] 43)) w') := by
    have hb := (Below.refl w.heap.size w).alloc (Nat.le_refl _) (.cells #[.slice (some ⟨b, o, none⟩) (p :: ps).length cap] 43)
    exact findForm_any w.heap.size b o (p :: ps).length cap p _ (he.kept hb) (by rw [World.cell?_alloc_at _ _ _ _ rfl]; rfl) (hb.cell_kept x0) (by simp)
  have HE := Lib.hid he
  have HR := Lib.hid hR
  have HAT := Lib.hid hat
  have HS := Lib.hid hs
  have HA := Lib.hid ha
  have S0 : Hid (St w w []) := St.start w
  obtain ⟨aa, ac, rfl⟩ : ∃ aa ac, av = .slice aa s.x.acts.length ac := by
    obtain ⟨aa, ac, e, _⟩ := (hR.rows.own ⟨67, 4, av, s.x.acts.length, acVals s.x.acts⟩ (by simp [rdRows])).slAt
    exact ⟨aa, ac, e⟩
  clear he hR hat hs hcells ha x0
  simp only [List.length_cons] at C1 hcap hl ⊢
  cases hk : kindOf p with
  | none =>
    rw [kindInt_none hk] at C1
    rw [hk] at HF
    clear hk
    go_enter Tryz.func85, Tryz.ntmps85
    go_wp2_with fail
    refine Calls.mono (C1.out) ?_
    rintro e w1 ⟨rfl, hb1⟩
    refine St.call (St.alloc (S0.out)) hb1 ?_
    intro S1
    clear hb1
    try (simp only [List.set_cons_zero, List.set_cons_succ, List.setIfInBounds_toArray, World.size_alloc] at S1)
    go_wp2_with fail
    go_returns
    rw [HF.out]
    exact ⟨rfl, Turn.of_below S1.out.below⟩
  | some k =>
    have hk12 := kind_back hk
    rw [kindInt_some hk] at C1
    rw [hk] at HF
    clear hk
    obtain ⟨hk1, hk2, _⟩ := hk12
    go_enter Tryz.func85, Tryz.ntmps85
    go_wp2_with fail
    refine Calls.mono (C1.out) ?_
    rintro e w1 ⟨rfl, hb1⟩
    refine St.call (St.alloc (S0.out)) hb1 ?_
    intro S1
    clear hb1
    try (simp only [List.set_cons_zero, List.set_cons_succ, List.setIfInBounds_toArray, World.size_alloc] at S1)
    have F1 := S1.out.facts
    simp only [St.Facts, cellFacts, apartFacts, and_true] at F1
    have g0 : w1.cell? ⟨0, k * 2 + 1, none⟩ = some (.int .i64 (formN k : Int)) := formN_cell (HE.out.kept S1.out.below) k hk2
    have hn3 : formN k ≤ 3 := (form_fact k hk1 hk2).2.2.2.2.1
    generalize hnk : formN k = n at g0 hn3
    have HNK := Lib.hid hnk
    clear hnk
    go_upto_region 4 with fail
    go_cut [] (fun wx => ∃ a2 c2, Hid (St w wx [(w.heap.size, #[.slice a2 ps.length c2], 43)]) ∧ Hid (SlAt w (.slice a2 ps.length c2) ps.length (svals ps)))
    case first =>
      by_cases hc1 : cap = 1
      · go_wp2_with fail
        go_meet
        case rel => exact ⟨_, _, St.set 0 S1.out rfl, slAt_zero (by omega)⟩
      · go_wp2_with fail
        go_meet
        case rel => exact ⟨_, _, St.set 0 S1.out rfl, slAt_tail hcap HAT.out⟩
    case rest =>
      obtain ⟨a2, c2, S2, HSL⟩ := hcut
      clear g0 F1 S1
      have g0 : wc.cell? ⟨0, k * 2 + 1, none⟩ = some (.int .i64 (n : Int)) := by have := formN_cell (HE.out.kept S2.out.below) k hk2; rwa [HNK.out] at this
      have F2 := S2.out.facts
      simp only [St.Facts, cellFacts, apartFacts, and_true] at F2
      obtain ⟨many, HM⟩ : ∃ many : Bool, Hid (many = decide (ps.length = n + 2 ∧ ps.getD n [] = [42])) := ⟨_, rfl⟩
      go_upto_region 7 with fail
      go_cut [35] (fun t wx => t = .bool many ∧ wx = wc)
      case first =>
        by_cases h1 : ps.length = n + 2
        · obtain ⟨a3, c3, e3, hc3, hcl⟩ := HSL.out
          simp only [Value.slice.injEq, true_and] at e3
          obtain ⟨rfl, rfl⟩ := e3
          obtain ⟨b2, o2, rfl, hat2⟩ := hcl (by omega)
          have y0 : wc.cell? ⟨b2, o2 + n, none⟩ = some (.string ⟨(ps.getD n []).toArray⟩) := (hat2.kept S2.out.below) n _ (by simp [svals, List.getElem?_eq_getElem (show n < ps.length by omega)])
          have t1 : ((ps.length : Int) == (n : Int) + 2) = true := by simp; omega
          have t2 : (ps.length == n + 2) = true := by simp; omega
          have hm : many = decide (ps.getD n [] = [42]) := by rw [HM.out]; simp [h1]
          obtain ⟨q1, q2, q3, q4⟩ := str_lit (ps.getD n []) [42] many hm.symm
          have hlt2 : n < ps.length := by omega
          generalize ps.getD n [] = st at *
          clear hm h1 hcl hat2
          cases many
          all_goals
            go_wp2_with fail
            go_meet
            case rel => exact ⟨rfl, rfl⟩
        · have hm : many = false := by rw [HM.out]; simp [h1]
          subst hm
          have t1 : ((ps.length : Int) == (n : Int) + 2) = false := by simp; omega
          have t2 : (ps.length == n + 2) = false := by simp; omega
          clear h1
          go_wp2_with fail
          go_meet
          case rel => exact ⟨rfl, rfl⟩
      case rest =>
        obtain ⟨rfl, rfl⟩ := hcut
        obtain ⟨qs, HQ⟩ : ∃ qs, Hid (qs = if many = true then ps.take n else ps) := ⟨_, rfl⟩
        obtain ⟨tm, HT⟩ : ∃ tm, Hid (tm = if many = true then ps.getD (n + 1) [] else [49]) := ⟨_, rfl⟩
        go_upto_if 35 with fail
        go_cut [9] (fun t wx => ∃ a3 c3, t = .string ⟨tm.toArray⟩ ∧ Hid (St w wx [(w.heap.size, #[.slice a3 qs.length c3], 43)]) ∧ Hid (SlAt w (.slice a3 qs.length c3) qs.length (svals qs)))
        case first =>
          cases many
          · obtain rfl : qs = ps := HQ.out
            obtain rfl : tm = [49] := HT.out
            go_wp2_with fail
            go_meet
            case rel => exact ⟨_, _, rfl, S2.out, HSL.out⟩
          · obtain ⟨hl2, hstar⟩ : ps.length = n + 2 ∧ ps.getD n [] = [42] := by have := HM.out; simpa using this.symm
            obtain ⟨a3, c3, e3, hc3, hcl⟩ := HSL.out
            simp only [Value.slice.injEq, true_and] at e3
            obtain ⟨rfl, rfl⟩ := e3
            obtain ⟨b2, o2, rfl, hat2⟩ := hcl (by omega)
            obtain rfl : tm = ps.getD (n + 1) [] := HT.out
            obtain rfl : qs = ps.take n := HQ.out
            have y0 : ∀ (d : Nat) (os : Array Obj), (grow (redrawn wc d) os).cell? ⟨b2, o2 + (n + 1), none⟩ = some (.string ⟨(ps.getD (n + 1) []).toArray⟩) := fun d os => ((hat2.kept S2.out.below).kept (below_regrown wc d os)) (n + 1) _ (by simp [svals, List.getElem?_eq_getElem (show n + 1 < ps.length by omega)])
            have HAT2 := Lib.hid hat2
            have hlt2 : n + 1 < ps.length := by omega
            have hlt3 : n ≤ c2 := by omega
            have z1 : IntKind.i64.wrap ((n : Int) + 1) = (n : Int) + 1 := IntWalk.i64_in _ (by omega)
            have z2 : (0 : Int) ≤ (n : Int) + 1 := by omega
            have z3 : ((n : Int) + 1).toNat = n + 1 := by omega
            have z4 : (n : Int) + 1 < (ps.length : Int) := by omega
            have hq : (ps.take n).length = n := by simp; omega
            have HQL := Lib.hid hq
            generalize ps.getD (n + 1) [] = tm at *
            clear hl2 hstar hcl hat2 hq F2
            have F2 := S2.out.factsG
            simp only [St.FactsG, cellFactsG, and_true] at F2
            go_wp2_with fail
            refine wp_region_mixed 9 [(0, false), (1, false), (2, false), (3, false), (4, false), (5, false), (6, false), (7, false), (8, false)] (by kernel_rfl) (by kernel_rfl) ?_
            repeat (refine wpM_mild rfl (fun K hK => ?_); go_simp; first | (refine hK _ ?_; clear hK K) | (apply Exists.intro; refine ⟨fun _ => ?_, hK _ ?_⟩; (fail); clear hK K))
            refine wpM_tail ?_
            intro w2 hb2 _
            have HB2 := Lib.hid hb2
            refine St.call (S2.out) hb2 ?_
            intro S4
            clear hb2
            try (simp only [List.set_cons_zero, List.set_cons_succ, List.setIfInBounds_toArray, World.size_alloc] at S4)
            clear y0 F2 z1 z2 z3 z4
            have F4 := S4.out.facts
            simp only [St.Facts, cellFacts, apartFacts, and_true] at F4
            simp only [List.drop_succ_cons, List.drop_zero]
            go_wp2_with fail
            go_meet
            case rel => exact ⟨some ⟨b2, o2, none⟩, c2, rfl, by rw [HQL.out]; exact St.set 0 S4.out rfl, by rw [HQL.out]; exact ⟨_, _, rfl, hlt3, fun _ => ⟨b2, o2, rfl, fun j u hu => HAT2.out j u (by simp only [svals, List.map_take, List.getElem?_take] at hu; split at hu; exact hu; cases hu)⟩⟩⟩
        case rest =>
          obtain ⟨a3, c3, rfl, S3, HSL3⟩ := hcut
          have HAR : Hid (actRest s.x.acts.length k ps = actQ s.x.acts.length k n qs tm) := actRest_q HNK.out HM.out HQ.out HT.out
          clear F2 g0 HSL
          have F3 := S3.out.facts
          simp only [St.Facts, cellFacts, apartFacts, and_true] at F3
          by_cases hq : qs.length = n
          · subst hq
            rw [actQ_go rfl] at HAR
            have hcc : qs.length ≤ c3 := by obtain ⟨a4, c4, e4, h4, _⟩ := HSL3.out; cases e4; exact h4
            go_wp2_with fail
            refine Calls.mono (clip_any a3 qs.length c3 hcc wc) ?_
            rintro e w4 ⟨rfl, rfl⟩
            go_wp2_with (at_builtin; go_must (refine wpList_append_full rfl _ _ 43 rfl 9 (.string ⟨#[]⟩) 1 16 Tryz.underlying43 info9 rfl a3 qs.length (svals qs) rfl ((slAt_clip HSL3.out).kept (S3.out.below.step ((Below.refl _ _).alloc (Nat.le_refl _) _))) (by rw [svals_len]; omega) _ 1 [.string ⟨tm.toArray⟩] rfl (by decide) (slAt_new _ _ _ _ _ (by decide)) rfl ?_ ?_ ?_))
            · omega
            · unfold maxLen; omega
            intro v5 w5 hown5 hb5
            have S5 : Hid (St w w5 []) := (St.tail (St.laid S3.out)).kept (by rw [World.size_alloc]; exact hb5)
            have HSL5 : Hid (SlAt w5 v5 (qs ++ [tm]).length (svals (qs ++ [tm]))) := by
              have := hown5.slAt
              show SlAt _ _ _ _
              simpa [svals] using this
            have C2 := Lib.hid (numbers_any v5 (qs ++ [tm]) w5 (HE.out.kept S5.out.below) HSL5.out (by simp; omega) (qs_small HS.out HQ.out HT.out))
            clear hown5 hb5 F3 S3
            go_wp2_with fail
            refine Calls.mono C2.out ?_
            intro e w6 hres
            unfold NumsRes at hres
            cases hn : nums (qs ++ [tm]) with
            | none =>
              rw [hn] at hres HAR
              obtain ⟨rfl, hb6⟩ := hres
              have S6 : Hid (St w w6 []) := S5.out.kept hb6
              clear hb6 hn
              go_wp2_with fail
              go_returns
              rw [HF.out]
              simp only [HAR.out]
              exact ⟨rfl, Turn.of_below S6.out.below⟩
            | some l =>
              rw [hn] at hres HAR
              have hln := nums_length hn
              obtain ⟨v6, rfl, hown6, hb6⟩ := hres
              have S6 : Hid (St w w6 []) := S5.out.kept hb6
              obtain ⟨a6, c6, rfl, hc6, hcl6⟩ := hown6.slAt
              simp only [List.length_append, List.length_cons, List.length_nil] at hln
              obtain ⟨b6, o6, rfl, hat6⟩ := hcl6 (by omega)
              obtain ⟨m, HMm⟩ : ∃ m, Hid (m = l.getD qs.length 0) := ⟨_, rfl⟩
              have y0 : w6.cell? ⟨b6, o6 + qs.length, none⟩ = some (.int .i64 (m : Int)) := by
                rw [HMm.out]
                exact hat6 qs.length _ (by simp [ivals, List.getElem?_eq_getElem (show qs.length < l.length by omega)])
              have HAT6 := Lib.hid hat6
              have hb6w : w.heap.size ≤ b6 := Nat.le_trans S5.out.below.size (World.ownsRow.lt hown6 b6 rfl).1
              have hl6 : qs.length < l.length := by omega
              have HL6 := Lib.hid hln
              clear hb6 hn hcl6 hown6 hat6 hln
              have r6 : w6.cell? ⟨rb, 6, none⟩ = some (.slice aa s.x.acts.length ac) := by
                have := S6.out.below.blk_kept HR.out.blk
                simp only [World.cell?, this]; rfl
              have HAN : Hid (actRest s.x.acts.length k ps = actN s.x.acts.length k qs.length l) := HAR.out
              clear HAR
              have ha2 : s.x.acts.length ≤ 2000 := HA.out
              by_cases hm0 : m = 0
              · subst hm0
                rw [actN_zero HMm.out] at HAN
                clear r6
                go_wp2_with fail
                go_returns
                rw [HF.out]
                simp only [HAN.out]
                exact ⟨rfl, Turn.of_below S6.out.below⟩
              have u1 : ((m : Int) == 0) = false := by simp; omega
              by_cases hm2 : 2000 < m + s.x.acts.length
              · rw [actN_big HMm.out hm0 hm2] at HAN
                have u2 : (2000 : Int) - (s.x.acts.length : Int) < (m : Int) := by omega
                go_wp2_with fail
                go_returns
                rw [HF.out]
                simp only [HAN.out]
                exact ⟨rfl, Turn.of_below S6.out.below⟩
              rw [actN_ok HMm.out hm0 hm2] at HAN
              have u2 : ¬ (2000 : Int) - (s.x.acts.length : Int) < (m : Int) := by omega
              have hm1 : 1 ≤ m := by omega
              go_wp2_with (at_builtin; go_must (refine wpList_append_full rfl _ _ 71 rfl 3 (.int .i64 0) 1 8 Tryz.underlying71 info3 rfl (some ⟨b6, o6, none⟩) qs.length (ivals (l.take qs.length)) rfl ?_ ?_ _ 3 [.int .i64 0, .int .i64 0, .int .i64 0] rfl (by decide) (slAt_new _ _ _ _ _ (by decide)) rfl ?_ ?_ ?_))
              · exact (show SlAt w6 (.slice (some ⟨b6, o6, none⟩) qs.length qs.length) qs.length (ivals (l.take qs.length)) from ⟨_, _, rfl, Nat.le_refl _, fun _ => ⟨b6, o6, rfl, fun j u hu => HAT6.out j u (by simp only [ivals, List.map_take, List.getElem?_take] at hu; split at hu; exact hu; cases hu)⟩⟩).kept ((Below.refl _ _).alloc (Nat.le_refl _) _)
              · simp [ivals]; omega
              · omega
              · unfold maxLen; omega
              intro v7 w7 hown7 hb7
              have S7 : Hid (St w w7 []) := (St.laid S6.out).kept (by rw [World.size_alloc]; exact hb7)
              obtain ⟨L, HLL⟩ : ∃ L, Hid (L = l.take qs.length ++ [0, 0, 0]) := ⟨l.take qs.length ++ [0, 0, 0], rfl⟩
              obtain ⟨nl, hnl⟩ : ∃ nl, nl = qs.length + 3 := ⟨_, rfl⟩
              have hown7' : w7.ownsRow (w6.heap.size + 1) 3 1 v7 nl (ivals L) := by rw [HLL.out, hnl]; simpa [ivals] using hown7
              have n7a : 0 < nl := by omega
              have n7b : 1 < nl := by omega
              have n7c : 2 < nl := by omega
              have n7d : (0 : Int) < (nl : Int) := by omega
              have n7e : (1 : Int) < (nl : Int) := by omega
              have n7f : (2 : Int) < (nl : Int) := by omega
              have hL3 : 3 ≤ L.length := by rw [HLL.out]; simp
              rw [← HLL.out] at HAN
              obtain ⟨a7, c7, rfl, hc7, hcl7⟩ := hown7'.slAt
              obtain ⟨b7, o7, rfl, hat7⟩ := hcl7 (by omega)
              obtain ⟨M, HMM⟩ : ∃ M : Nat → Prop, Hid (M = fun k => (Value.slice aa s.x.acts.length ac).ownBlock = some k) := ⟨_, rfl⟩
              have hMb : ∀ k, M k → base ≤ k ∧ k < w.heap.size := fun k hk => by
                rw [HMM.out] at hk
                exact World.ownsRow.lt (HR.out.rows.own ⟨67, 4, .slice aa s.x.acts.length ac, s.x.acts.length, acVals s.x.acts⟩ (by simp [rdRows])) k hk
              have hb7w : w.heap.size ≤ b7 := by have := S6.out.below.size; have := (World.ownsRow.lt hown7' b7 rfl).1; omega
              have hb7l : b7 < w7.heap.size := (World.ownsRow.lt hown7' b7 rfl).2
              have hnb : ¬ M b7 := fun h => by have := (hMb b7 h).2; omega
              have hnr : ¬ M rb := fun h => by have := (hMb rb h).1; have := HR.out.lt; omega
              have key : ∀ (p : TurnW M w7) (j n : Nat), L[j]? = some n → p.w.cell? ⟨b7, o7 + j, none⟩ = some (.int .i64 (n : Int)) := fun p j n hj => (hat7.same (p.h.block b7 hb7l hnb)) j _ (by simp [ivals, hj])
              obtain ⟨n0, n1, n2, hn0, hn1, hn2⟩ : ∃ n0 n1 n2, L[0]? = some n0 ∧ L[1]? = some n1 ∧ L[2]? = some n2 := ⟨_, _, _, List.getElem?_eq_getElem (by omega), List.getElem?_eq_getElem (by omega), List.getElem?_eq_getElem (by omega)⟩
              have y1 : ∀ p : TurnW M w7, p.w.cell? ⟨b7, o7, none⟩ = some (.int .i64 (n0 : Int)) := fun p => key p 0 n0 hn0
              have y2 : ∀ p : TurnW M w7, p.w.cell? ⟨b7, o7 + 1, none⟩ = some (.int .i64 (n1 : Int)) := fun p => key p 1 n1 hn1
              have y3 : ∀ p : TurnW M w7, p.w.cell? ⟨b7, o7 + 2, none⟩ = some (.int .i64 (n2 : Int)) := fun p => key p 2 n2 hn2
              have hrb7 : rb < w7.heap.size := Nat.lt_of_lt_of_le hrb S7.out.below.size
              have y4 : ∀ p : TurnW M w7, p.w.cell? ⟨rb, 6, none⟩ = some (.slice aa s.x.acts.length ac) := fun p => by
                rw [World.cell?_of_block (a := ⟨rb, 6, none⟩) (p.h.block rb hrb7 hnr)]
                have := S7.out.below.blk_kept HR.out.blk
                simp only [World.cell?, this]; rfl
              have HN : Hid (L.getD 0 0 = n0 ∧ L.getD 1 0 = n1 ∧ L.getD 2 0 = n2) := by
                show _ ∧ _
                simp only [List.getD_eq_getElem?_getD, hn0, hn1, hn2, Option.getD_some, and_self]
              rw [HN.out.1, HN.out.2.1, HN.out.2.2] at HAN
              have HMb := Lib.hid hMb
              clear hnl hown7 hown7' hb7 hat7 hcl7 key hn0 hn1 hn2 r6 y0 hMb hL3
              go_wp2_with fail
              refine wp_region_mixedT (M) 21 [(0, false), (1, false), (2, false), (3, false), (4, false), (5, false), (6, false), (7, false), (8, false), (9, false), (10, false), (11, false), (12, false), (13, false), (14, false), (15, false), (16, false), (18, false), (17, true), (19, true), (20, true)] (by kernel_rfl) (by kernel_rfl) ?_
              repeat (refine wpM_mildT rfl (fun K hK => ?_); go_simp; first | (refine hK _ ?_; clear hK K) | (apply Exists.intro; refine ⟨fun _ => ?_, hK _ ?_⟩; (fail); clear hK K))
              refine wpM_effT rfl ?_
              intro w8 hb8 ht8
              have S8 : Hid (St w (w8.alloc (.cells (acCells ⟨k, n0, n1, n2⟩).toArray 67)) [(w8.heap.size, (acCells ⟨k, n0, n1, n2⟩).toArray, 67)]) := (S7.out.kept hb8).alloc
              have C3 := Lib.hid (repeat_any ⟨k, n0, n1, n2⟩ m w8.heap.size)
              clear y1 y2 y3 y4
              go_wp2_with fail
              refine ⟨ht8.step ((Below.refl _ _).alloc (Nat.le_refl _) _), wpM_effT rfl ?_⟩
              intro w9 hb9 ht9
              have S9 := Lib.hid (S8.out.kept hb9)
              go_wp2_with fail
              refine Calls.mono (C3.out w9 hm1 (by omega) (S9.out.blk 0 rfl)) ?_
              rintro e w10 ⟨v10, rfl, hown10, hb10⟩
              have S10 := Lib.hid (S9.out.kept hb10)
              go_wp2_with fail
              refine ⟨ht9.step hb10, wpM_effT rfl ?_⟩
              intro w11 hb11 ht11
              have S11 := Lib.hid (S10.out.kept hb11)
              have HO11 := Lib.hid (hown10.later hb11)
              have hsz11 : base ≤ w11.heap.size := Nat.le_trans HR.out.size S11.out.below.size
              clear hown10 hb10 hb11 ht9 hb9 ht8 hb8 C3 S10 S9 S8
              refine wpList_append_rows rfl (.tmp 86) (.tmp 100) 26 rfl 67 (.agg #[.int .i64 0, .int .i64 0, .int .i64 0, .int .i64 0]) 4 32 Tryz.underlying26 info67 rfl (by decide) base (rdRows s.x cv (.slice aa s.x.acts.length ac) lvs) (HR.out.rows.kept S11.out.below) 1 (.slice aa s.x.acts.length ac) s.x.acts.length (acVals s.x.acts) rfl rfl v10 m (acVals (List.replicate m ⟨k, n0, n1, n2⟩)) rfl (by omega) HO11.out.slAt (acVals_rep _ _) (acVals_one _ _) (by omega) (by unfold maxLen; omega) hsz11 ?_
              intro v12 w12 hrows ht12 hv12
              obtain ⟨g12, c12, rfl⟩ := hv12
              have ht12M : Turn M w11 w12 := by rw [HMM.out]; exact ht12
              have HT12 : Hid (Turn M w7 w12) := ht11.trans ht12M (fun i _ h => h)
              have S12 : Hid (StM (RdM base rb) w w12 [(rb, rdCells rb s cv (.slice aa s.x.acts.length ac), 53)]) := by
                have h11 := S11.out.below.blk_kept HR.out.blk
                exact (show StM (RdM base rb) w w11 [(rb, rdCells rb s cv (.slice aa s.x.acts.length ac), 53)] from ⟨Turn.of_below S11.out.below, by simp [RdM, h11], by simp⟩).turned ht12M (fun i _ h => .inr (HMb.out i h).1) (by simp [hnr])
              have HRW := Lib.hid hrows
              clear hrows ht12 ht12M ht11
              go_wp2_with fail
              refine ⟨HT12.out, wpM_tailT ?_⟩
              intro w13 hb13 _
              have HRW13 := Lib.hid (HRW.out.kept hb13)
              have hsz13 : base ≤ w13.heap.size := Nat.le_trans HR.out.size (S12.out.kept hb13).turn.size
              refine StM.call (S12.out) hb13 ?_
              intro S13
              clear hb13
              try (simp only [List.set_cons_zero, List.set_cons_succ, List.setIfInBounds_toArray, World.size_alloc] at S13)
              have F13 := S13.out.facts
              simp only [St.Facts, apartFacts, and_true] at F13
              simp only [rdCells, cellFacts, and_true] at F13
              simp only [List.drop_succ_cons, List.drop_zero]
              go_wp2_with fail
              go_returns
              rw [HF.out]
              simp only [HAN.out]
              have S14 := StM.set 0 (o := 6) (v := .slice (some ⟨g12, 0, none⟩) (s.x.acts.length + m) c12) S13.out rfl
              refine ⟨rfl, ⟨cv, .slice (some ⟨g12, 0, none⟩) (s.x.acts.length + m) c12, lvs, ?_⟩, S14.turn⟩
              refine ⟨HR.out.lt, by simpa using hsz13, HR.out.low, S14.blk 0 rfl, HR.out.len, ?_⟩
              have hrw := (HRW13.out.setCell (o := 6) (u := .slice (some ⟨g12, 0, none⟩) (s.x.acts.length + m) c12) HR.out.lt)
              have e1 : (s.x.acts ++ List.replicate m (⟨k, n0, n1, n2⟩ : Ac)).length = s.x.acts.length + m := by simp
              have e2 : acVals (s.x.acts ++ List.replicate m (⟨k, n0, n1, n2⟩ : Ac)) = acVals s.x.acts ++ acVals (List.replicate m ⟨k, n0, n1, n2⟩) := by unfold acVals; rw [List.flatMap_append]
              unfold rdRows
              simp only [e1, e2]
              exact hrw
          · rw [actQ_no hq] at HAR
            have t1 : ((qs.length : Int) != (n : Int)) = true := by simp; omega
            have t2 : (qs.length != n) = true := by simp; omega
            clear hq
            go_wp2_with fail
            go_returns
            rw [HF.out]
            simp only [HAR.out]
            exact ⟨rfl, Turn.of_below S3.out.below⟩
end Go.Proofs.YtialgdnkkjmpbaaGreatDoor
