/-
  Walks: the reader of clients of the package script. Conditions: the variables of the program's text are there. Of what was there only the reader and its rows turn.
-/
import Derived.Test.YtialgdnkkjmpbaaGreatDoorWg
namespace Go.Proofs.YtialgdnkkjmpbaaGreatDoor
open Go.RowKit Go.Sort

theorem info48 : (Tryz.prog.info? 48).map (fun i => (i.zero, i.size, i.bytes)) = some (some (.agg #[.int .i64 0, .slice none 0 0]), 2, 32) := by kernel_rfl
theorem clRows_snoc : ∀ (cs : List Cl) (ls : List Value) (c : Cl) (lv : Value), ls.length = cs.length → clRows (cs ++ [c]) (ls ++ [lv]) = clRows cs ls ++ [⟨9, 1, lv, c.lines.length, svals c.lines⟩]
  | [], [], _, _, _ => rfl
  | d :: cs, l :: ls, c, lv, h => by simp only [List.cons_append, clRows, clRows_snoc cs ls c lv (by simpa using h)]
theorem clVals_snoc : ∀ (cs : List Cl) (ls : List Value) (c : Cl) (lv : Value), ls.length = cs.length → clVals (cs ++ [c]) (ls ++ [lv]) = clVals cs ls ++ [.int .i64 c.tries, lv]
  | [], [], _, _, _ => rfl
  | d :: cs, l :: ls, c, lv, h => by simp only [List.cons_append, clVals, clVals_snoc cs ls c lv (by simpa using h)]
theorem clRows_len : ∀ (cs : List Cl) (ls : List Value), ls.length = cs.length → (clRows cs ls).length = cs.length
  | [], [], _ => rfl
  | _ :: cs, _ :: ls, h => by simp only [clRows, List.length_cons, clRows_len cs ls (by simpa using h)]
theorem clVals_len : ∀ (cs : List Cl) (ls : List Value), ls.length = cs.length → (clVals cs ls).length = cs.length * 2
  | [], [], _ => rfl
  | _ :: cs, _ :: ls, h => by simp only [clVals, List.length_cons, clVals_len cs ls (by simpa using h)]; omega
theorem prefix_is (l : Bytes) : Lib.hasPrefix l [124, 32] = decide (l.take 2 = [124, 32]) := by
  unfold Lib.hasPrefix
  rcases l with _ | ⟨a, _ | ⟨b, r⟩⟩
  · rfl
  · simp [List.isPrefixOf]
  · rw [Bool.eq_iff_iff]; simp [List.isPrefixOf]; constructor
    · rintro ⟨h1, h2⟩; exact ⟨h1.symm, h2.symm⟩
    · rintro ⟨h1, h2⟩; exact ⟨h1.symm, h2.symm⟩
theorem trim_is (l : Bytes) (h : Lib.hasPrefix l [124, 32] = true) : Lib.trimPrefix l [124, 32] = l.drop 2 := by unfold Lib.trimPrefix; rw [if_pos h]; rfl
theorem cutPrefix_any (s : ByteArray) (b : Bool) (h : decide (s.data.toList.take 2 = [124, 32]) = b) (w : World) :
    Calls Tryz.prog 84 #[.string s, .string ⟨#[124, 32]⟩] w fun e w' => e = .returned (.tuple #[.string ⟨(Lib.trimPrefix s.data.toList [124, 32]).toArray⟩, .bool b]) ∧ w = w' :=
  (Tryz.strings_CutPrefix s ⟨#[124, 32]⟩ w).mono (by
    rintro e w' ⟨rfl, rfl⟩
    refine ⟨?_, rfl⟩
    rw [← h, ← prefix_is])
theorem rdActs_ph {s s' : Rd} {ps : List Bytes} (h : rdActs s ps = .ok s') : s'.ph = s.ph := by
  unfold rdActs at h
  split at h
  · cases h
  · cases h; rfl

set_option maxRecDepth 100000 in
set_option maxHeartbeats 2000000 in
/-- The way of acts. -/
theorem clients_acts (base rb : Nat) (w : World) (s : Rd) (line : ByteArray) (v : Value) (parts : List Bytes) (he : Env w) (hr : Rdr base rb w s) (hph : s.ph = 2) (hv : SlAt w v parts.length (svals parts)) (hne : parts ≠ []) (hl : parts.length ≤ 1000000) (hs : ∀ p ∈ parts, p.length ≤ 1000000) (ha : s.x.acts.length ≤ 2000)
    (h1 : ¬ (line.data.toList.take 2 = [124, 32] ∧ s.opn = true)) (h2 : parts.headD [] ≠ wClient) :
    Calls Tryz.prog 61 #[.pointer (some ⟨rb, 0, none⟩), .string line, v] w (RdRes base rb w (rdClients s line.data.toList parts)) := by
  have HF : Hid (rdClients s line.data.toList parts = match rdActs s parts with | .error e => .error e | .ok s' => .ok { s' with ph := 3 }) := by
    show _ = _
    unfold rdClients
    rw [if_neg h1, if_pos h2]
    cases rdActs s parts <;> rfl
  have C2 := Lib.hid (acts_any base rb w s line v parts he hr hv hne hl hs ha)
  obtain ⟨p, ps, rfl⟩ : ∃ p ps, parts = p :: ps := by cases parts with | nil => exact absurd rfl hne | cons p ps => exact ⟨p, ps, rfl⟩
  obtain ⟨cv, av, lvs, hR⟩ := hr
  obtain ⟨a, cap, rfl, hcap, hcells⟩ := hv
  obtain ⟨b, o, rfl, hat⟩ := hcells (by simp)
  have hlt : b < w.heap.size := hat.lt (by simp [svals])
  have hrb : rb < w.heap.size := (Array.getElem?_eq_some_iff.1 hR.blk).1
  have x0 : w.cell? ⟨b, o, none⟩ = some (.string ⟨p.toArray⟩) := hat 0 _ rfl
  have x1 : w.cell? ⟨rb, 8, none⟩ = some (.bool s.opn) := by simp only [World.cell?, hR.blk]; rfl
  obtain ⟨t1, t2, t3, t4⟩ := str_lit p [99, 108, 105, 101, 110, 116] false (decide_eq_false (by simpa [wClient] using h2))
  have HP := Lib.hid hph
  obtain ⟨pr, hpr⟩ : ∃ pr, decide (line.data.toList.take 2 = [124, 32]) = pr := ⟨_, rfl⟩
  have C1 := Lib.hid (cutPrefix_any line pr hpr w)
  have hpo : pr = false ∨ (pr = true ∧ s.opn = false) := by
    rw [← hpr]
    by_cases e : line.data.toList.take 2 = [124, 32]
    · right; exact ⟨decide_eq_true e, by cases ho : s.opn with | false => rfl | true => exact absurd ⟨e, ho⟩ h1⟩
    · left; exact decide_eq_false e
  have HR := Lib.hid hR
  simp only [List.length_cons] at hcap hl C2 ⊢
  clear he hR hat hs hcells ha h1 h2 hpr hph hne
  rcases hpo with rfl | ⟨rfl, ho⟩
  all_goals
    (try rw [ho] at x1)
    (try clear ho)
    go_enter Tryz.func61, Tryz.ntmps61
    go_wp2_with fail
    refine Calls.mono C1.out ?_
    rintro e w1 ⟨rfl, rfl⟩
    go_wp2_with fail
    refine Calls.mono C2.out ?_
    intro e w2 hres
    unfold RdRes at hres
    cases hact : rdActs s (p :: ps) with
    | error x =>
      rw [hact] at hres HF
      obtain ⟨rfl, ht⟩ := hres
      have HX := Lib.hid (rdActs_err (s := s) (ps := p :: ps))
      have hx0 : (x == 0) = false := by
        rw [hact] at HX
        have := HX.out
        simp only [beq_eq_false_iff_ne]
        exact fun e => this (by rw [e])
      have HT := Lib.hid ht
      clear ht HX hact
      go_wp2_with fail
      go_returns
      rw [HF.out]
      exact ⟨rfl, HT.out⟩
    | ok s' =>
      rw [hact] at hres HF
      obtain ⟨rfl, ⟨cv2, av2, lvs2, hR2⟩, ht⟩ := hres
      have HPH : Hid (s'.ph = 2) := (rdActs_ph hact).trans HP.out
      have S2 : Hid (StM (RdM base rb) w w2 [(rb, rdCells rb s' cv2 av2, 53)]) := ⟨ht, by simp [RdM, hR2.blk], by simp⟩
      have HR2 := Lib.hid hR2
      clear hR2 ht hact
      have F2 := S2.out.facts
      simp only [St.Facts, apartFacts, and_true] at F2
      simp only [rdCells, cellFacts, and_true] at F2
      go_wp2_with fail
      go_returns
      rw [HF.out]
      have S3 := StM.set 0 (o := 7) (v := rdNext rb 3) S2.out rfl
      refine ⟨rfl, ⟨cv2, av2, lvs2, ?_⟩, S3.turn⟩
      refine ⟨HR2.out.lt, by have := HR2.out.size; simpa using this, HR2.out.low, ?_, HR2.out.len, HR2.out.rows.setCell HR2.out.lt⟩
      exact (S3.blk 0 rfl).trans (by simp only [rdCells, HPH.out]; rfl)

set_option maxRecDepth 100000 in
set_option maxHeartbeats 2000000 in
/-- The way of a line of a client. -/
theorem clients_text (base rb : Nat) (w : World) (s : Rd) (line : ByteArray) (v : Value) (parts : List Bytes) (hr : Rdr base rb w s) (hcl : s.x.clients ≠ []) (hcm : s.x.clients.length ≤ 8) (hll : ∀ c ∈ s.x.clients, c.lines.length ≤ 100)
    (h1 : line.data.toList.take 2 = [124, 32]) (h2 : s.opn = true) :
    Calls Tryz.prog 61 #[.pointer (some ⟨rb, 0, none⟩), .string line, v] w (RdRes base rb w (rdClients s line.data.toList parts)) := by
  obtain ⟨cs, c, hcc⟩ := clients_last hcl
  have HF : Hid (rdClients s line.data.toList parts = if c.lines.length = 100 then .error eLimit else .ok { s with x := { s.x with clients := cs ++ [⟨c.tries, c.lines ++ [line.data.toList.drop 2]⟩] } }) := by
    show _ = _
    unfold rdClients
    rw [if_pos ⟨h1, h2⟩, hcc]
    simp only [lastLines, List.getLast?_append, List.getLast?_singleton, Option.some_or, Option.map_some, Option.getD_some, addLine_last]
  obtain ⟨cv, av, lvs, hR⟩ := hr
  have hlen := hR.len
  rw [hcc, List.length_append] at hlen
  obtain ⟨ls, lv, rfl⟩ : ∃ ls lv, lvs = ls ++ [lv] := ⟨lvs.dropLast, lvs.getLast (fun e => by simp [e] at hlen), (List.dropLast_concat_getLast _).symm⟩
  have hls : ls.length = cs.length := by simp at hlen; exact hlen
  have hrows := hR.rows
  unfold rdRows at hrows
  rw [hcc, clRows_snoc cs ls c lv hls, clVals_snoc cs ls c lv hls] at hrows
  simp only [List.length_append, List.length_cons, List.length_nil, Nat.zero_add] at hrows
  have ho1 := hrows.own _ (List.mem_cons_self)
  have ho2 := hrows.own ⟨9, 1, lv, c.lines.length, svals c.lines⟩ (by simp)
  simp only at ho1 ho2
  obtain ⟨bc, cc, rfl⟩ : ∃ bc cc, cv = .slice (some ⟨bc, 0, none⟩) (cs.length + 1) cc := by
    obtain ⟨_, ⟨_, h0⟩ | ⟨g, cp, cur, e, _⟩⟩ := ho1
    · omega
    · exact ⟨g, cp, e⟩
  obtain ⟨al, cpl, rfl⟩ : ∃ al cpl, lv = .slice al c.lines.length cpl := by
    obtain ⟨a, cp, e, _⟩ := ho2.slAt
    exact ⟨a, cp, e⟩
  have hcell : w.cell? ⟨bc, cs.length * 2 + 1, none⟩ = some (.slice al c.lines.length cpl) := by
    obtain ⟨a, cp, e, _, h⟩ := ho1.slAt
    obtain ⟨b, o, e2, hat⟩ := h (by omega)
    cases e
    cases e2
    have := hat (cs.length * 2 + 1) (.slice al c.lines.length cpl) (by rw [List.getElem?_append_right (by rw [clVals_len cs ls hls]; omega), clVals_len cs ls hls]; simp [show cs.length * 2 + 1 - cs.length * 2 = 1 by omega])
    rwa [Nat.zero_add] at this
  have hbc : base ≤ bc ∧ bc < w.heap.size := World.ownsRow.lt ho1 bc rfl
  have hrb : rb < w.heap.size := (Array.getElem?_eq_some_iff.1 hR.blk).1
  have hfr : w.frozen? ⟨bc, cs.length * 2 + 1, none⟩ = false := by
    obtain ⟨_, ⟨e, h0⟩ | ⟨g, cp, cur, e, _, hb, _⟩⟩ := ho1
    · omega
    · cases e; simp only [World.frozen?, hb]; simp
  have x1 : w.cell? ⟨rb, 8, none⟩ = some (.bool true) := by simp only [World.cell?, hR.blk, rdCells, h2]; rfl
  have C1 := Lib.hid (cutPrefix_any line true (decide_eq_true h1) w)
  rw [trim_is _ (by rw [prefix_is]; exact decide_eq_true h1)] at C1
  have HROWS := Lib.hid hrows
  have HR := Lib.hid hR
  have HCC := Lib.hid hcc
  have HLS := Lib.hid hls
  have hl100 : c.lines.length ≤ 100 := hll c (by rw [hcc]; simp)
  have hcs8 : cs.length ≤ 7 := by rw [hcc] at hcm; simp at hcm; omega
  obtain ⟨n1, hn1⟩ : ∃ n1, n1 = cs.length + 1 := ⟨_, rfl⟩
  have y5 : ∀ (d : Nat) (os : Array Obj), (grow (redrawn w d) os).cell? ⟨rb, 5, none⟩ = some (.slice (some ⟨bc, 0, none⟩) n1 cc) := fun d os => by
    have := (below_regrown w d os).blk_kept hR.blk
    simp only [World.cell?, this, hn1]; rfl
  have z1 : IntKind.i64.wrap ((n1 : Int) - 1) = (cs.length : Int) := by rw [IntWalk.i64_in _ (by omega)]; omega
  have z2 : (cs.length : Int) < (n1 : Int) := by omega
  have z3 : cs.length < n1 := by omega
  have HN1 := Lib.hid hn1
  generalize line.data.toList.drop 2 = tx at *
  clear hR hrows ho1 ho2 hcl h1 h2 hcc hls hlen hcm hn1 hll
  go_enter Tryz.func61, Tryz.ntmps61
  go_wp2_with fail
  refine Calls.mono C1.out ?_
  rintro e w1 ⟨rfl, rfl⟩
  go_wp2_with fail
  refine wp_region_mixed 14 [(0, false), (1, false), (2, false), (3, false), (4, false), (5, false), (6, false), (7, false), (8, false), (9, false), (10, false), (11, false), (12, false), (13, false)] (by kernel_rfl) (by kernel_rfl) ?_
  repeat (refine wpM_mild rfl (fun K hK => ?_); go_simp; first | (refine hK _ ?_; clear hK K) | (apply Exists.intro; refine ⟨fun _ => ?_, hK _ ?_⟩; (fail); clear hK K))
  refine wpM_end ?_
  intro w2 _ hb2
  have HB2 := Lib.hid hb2
  have k1 : w2.cell? ⟨bc, cs.length * 2 + 1, none⟩ = some (.slice al c.lines.length cpl) := hb2.cell_kept hcell
  clear hb2 hcell y5 z1 z2 z3 hfr x1
  by_cases h100 : c.lines.length = 100
  · rw [if_pos h100] at HF
    have t1 : ((c.lines.length : Int) == 100) = true := by simp; omega
    have t2 : (c.lines.length == 100) = true := by simp; omega
    clear h100
    go_wp2_with fail
    go_returns
    rw [HF.out]
    exact ⟨rfl, Turn.of_below HB2.out⟩
  · rw [if_neg h100] at HF
    have t1 : ((c.lines.length : Int) == 100) = false := by simp; omega
    have t2 : (c.lines.length == 100) = false := by simp; omega
    have hsz2 : base ≤ w2.heap.size := Nat.le_trans HR.out.size HB2.out.size
    have HRW2 := Lib.hid ((HROWS.out.kept HB2.out).kept ((Below.refl _ _).alloc (Nat.le_refl _) (.cells #[.string ⟨tx.toArray⟩] 9)))
    clear h100
    go_wp2_with (at_builtin; go_must (refine wpList_append_rows rfl (.tmp 48) (.tmp 50) 43 rfl 9 (.string ⟨#[]⟩) 1 16 Tryz.underlying43 info9 rfl (by decide) base _ HRW2.out (2 + cs.length) (.slice al c.lines.length cpl) c.lines.length (svals c.lines) ?_ rfl (.slice (some ⟨w2.heap.size, 0, none⟩) 1 1) 1 [.string ⟨tx.toArray⟩] rfl (by decide) (slAt_new _ _ _ _ _ (by decide)) rfl (by simp [Value.oneCell']) (by omega) (by unfold maxLen; omega) (by simp; omega) ?_))
    · rw [show 2 + cs.length = (cs.length + 1) + 1 by omega, List.getElem?_cons_succ, List.getElem?_cons_succ, List.getElem?_append_right (by rw [clRows_len cs ls HLS.out]; omega), clRows_len cs ls HLS.out, Nat.sub_self]; rfl
    intro v3 w3 hrows3 ht3 g3 c3 hv3
    subst hv3
    rw [show 2 + cs.length = (cs.length + 1) + 1 by omega, List.set_cons_succ, List.set_cons_succ, show cs.length = (clRows cs ls).length from (clRows_len cs ls HLS.out).symm, List.set_append_right _ _ (Nat.le_refl _), Nat.sub_self, List.set_cons_zero, clRows_len cs ls HLS.out] at hrows3
    have ho3 := hrows3.own _ (List.mem_cons_self)
    simp only at ho3
    obtain ⟨k2, k3⟩ : w3.cell? ⟨bc, cs.length * 2 + 1, none⟩ = some (.slice al c.lines.length cpl) ∧ w3.frozen? ⟨bc, cs.length * 2 + 1, none⟩ = false := by
      obtain ⟨hl3, ⟨e, h0⟩ | ⟨g, cp, cur, e, _, hb, _, _, hcs, htk⟩⟩ := ho3
      · omega
      · cases e
        refine ⟨?_, by simp only [World.frozen?, hb]; simp⟩
        have : (clVals cs ls ++ [Value.int .i64 c.tries, .slice al c.lines.length cpl])[cs.length * 2 + 1]? = some (.slice al c.lines.length cpl) := by
          rw [List.getElem?_append_right (by rw [clVals_len cs ls HLS.out]; omega), clVals_len cs ls HLS.out]; simp [show cs.length * 2 + 1 - cs.length * 2 = 1 by omega]
        rw [← htk, List.getElem?_take] at this
        split at this
        · simp only [World.cell?, hb]; simpa using this
        · cases this
    have HRW3 := Lib.hid hrows3
    have HT3 : Hid (Turn (RdM base rb) w w3) := by
      refine ((Turn.of_below HB2.out).step ((Below.refl _ _).alloc (Nat.le_refl _) _)).trans ht3 (fun i _ hi => .inr ?_)
      exact (World.ownsRow.lt (HROWS.out.own ⟨9, 1, .slice al c.lines.length cpl, c.lines.length, svals c.lines⟩ (by simp)) i hi).1
    have HBK : Hid (w3.heap[rb]? = some (.cells (rdCells rb s (.slice (some ⟨bc, 0, none⟩) (cs.length + 1) cc) av) 53 (0, 0))) := by
      have h1 := (HB2.out.step ((Below.refl _ _).alloc (Nat.le_refl _) (.cells #[.string ⟨tx.toArray⟩] 9))).blk_kept HR.out.blk
      exact (ht3.block rb (Array.getElem?_eq_some_iff.1 h1).1 (fun hi => by
        have := (World.ownsRow.lt (HROWS.out.own ⟨9, 1, .slice al c.lines.length cpl, c.lines.length, svals c.lines⟩ (by simp)) rb hi).1
        have := HR.out.lt
        omega)).trans h1
    clear hrows3 ht3 ho3
    go_wp2_with fail
    go_returns
    rw [HF.out]
    have hst := HRW3.out.store (i := 0) (e := 48) (k := 2) (g := bc) (n := cs.length + 1) (cap := cc) (xs := clVals cs ls ++ [Value.int .i64 c.tries, .slice al c.lines.length cpl]) rfl (cs.length * 2 + 1) (.slice (some ⟨g3, 0, none⟩) (c.lines.length + 1) c3)
    have hne : rb ≠ bc := by have := HR.out.lt; omega
    refine ⟨rfl, ⟨.slice (some ⟨bc, 0, none⟩) (cs.length + 1) cc, av, ls ++ [.slice (some ⟨g3, 0, none⟩) (c.lines.length + 1) c3], ?_⟩, HT3.out.setCell (.inl (.inr hbc.1))⟩
    refine ⟨HR.out.lt, by have := HT3.out.size; have := HR.out.size; simp; omega, HR.out.low, ?_, ?_, ?_⟩
    · rw [Below.heap_setCell _ _ _ _ hne]; exact HBK.out
    · simp [HLS.out]
    · unfold rdRows
      rw [clRows_snoc cs ls _ _ HLS.out, clVals_snoc cs ls _ _ HLS.out]
      simp only [List.set_cons_zero] at hst
      rw [List.set_append_right _ _ (by rw [clVals_len cs ls HLS.out]; omega), clVals_len cs ls HLS.out, show cs.length * 2 + 1 - cs.length * 2 = 1 by omega] at hst
      simpa [svals] using hst
end Go.Proofs.YtialgdnkkjmpbaaGreatDoor
