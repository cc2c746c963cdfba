/-
  Walks: the reference's Same at equal scripts, Few; newlines and example of the law's package. The memory that was there is as it was.
-/
import Derived.Test.YtialgdnkkjmpbaaGreatDoorWn
namespace Go.Proofs.YtialgdnkkjmpbaaGreatDoor
open Go.RowKit Go.Sort

theorem example_any (w : World) : Calls Tryz.prog 18 #[] w fun e w' => e = .returned (.string ⟨exText.toArray⟩) ∧ w = w' := by
  go_enter Tryz.func18, Tryz.ntmps18
  go_wp2
  go_returns
  exact ⟨rfl, rfl⟩
/-- How many newlines a text has. -/
def nlc (l : Bytes) : Nat := l.count 10
theorem newlines_any (s : ByteArray) (hs : s.size ≤ 1000000) (w : World) : Calls Tryz.prog 16 #[.string s] w fun e w' => e = .returned (.int .i64 ((nlc s.data.toList : Nat) : Int)) ∧ w = w' := by
  go_enter Tryz.func16, Tryz.ntmps16
  go_wp2
  go_loop [3, 4] (fun n i => ∃ k m : Nat, k ≤ s.size ∧ m ≤ k ∧ i = .int .i64 k ∧ n = .int .i64 m ∧ Hid (m = (s.data.toList.take k).count 10)) (fun _ i => s.size - (intOf i).toNat)
  case atStart => exact ⟨0, 0, by omega, by omega, rfl, rfl, by show _ = _; simp⟩
  case round =>
    obtain ⟨k, m, hk, hm, rfl, rfl, HM⟩ := hrel
    by_cases hlt : k < s.size
    · have hts : s.data.toList.take (k + 1) = s.data.toList.take k ++ [s[k]] := by
        rw [List.take_succ_eq_append_getElem (by simpa using hlt)]; rfl
      have HC : Hid ((s.data.toList.take (k + 1)).count 10 = m + if s[k] = 10 then 1 else 0) := by
        show _ = _
        rw [hts, List.count_append, ← HM.out, List.count_singleton]
        simp
      clear hts HM
      by_cases h10 : s[k] = 10
      · have t1 : ((s[k].toNat : Int) == 10) = true := by rw [h10]; rfl
        have HC2 : Hid (m + 1 = (s.data.toList.take (k + 1)).count 10) := by show _ = _; rw [HC.out, if_pos h10]
        clear h10 HC
        go_wp2
        go_round
        case rel => exact ⟨k + 1, m + 1, by omega, by omega, by go_num, by go_num, HC2.out⟩
        case measure => simp [intOf]; omega
      · have t1 : ((s[k].toNat : Int) == 10) = false := by
          have : s[k].toNat ≠ 10 := fun e => h10 (UInt8.toNat_inj.1 (by rw [e]; rfl))
          simp; omega
        have HC2 : Hid (m = (s.data.toList.take (k + 1)).count 10) := by show _ = _; rw [HC.out, if_neg h10]; rfl
        clear h10 HC
        go_wp2
        go_round
        case rel => exact ⟨k + 1, m, by omega, by omega, by go_num, rfl, HC2.out⟩
        case measure => simp [intOf]; omega
    · obtain rfl : k = s.size := by omega
      have HC : Hid (m = nlc s.data.toList) := by have := HM.out; rwa [List.take_of_length_le (by simp)] at this
      clear HM
      go_wp2
      go_returns
      exact ⟨ret_int (by rw [← HC.out]), rfl⟩

set_option maxRecDepth 100000 in
set_option maxHeartbeats 4000000 in
theorem same_same (x : Sc) (cv av cv' av' : Value) (w : World) (h : ScAt w cv av x) (h' : ScAt w cv' av' x) (hm : Modest x) : Calls Tryz.prog 13 #[scVal x cv av, scVal x cv' av'] w fun e w' => e = .returned (.bool true) ∧ Below w.heap.size w w' := by
  obtain ⟨hav, lvs, hlen, hcv, hlv⟩ := h
  obtain ⟨hav', lvs', hlen', hcv', hlv'⟩ := h'
  obtain ⟨aa, ac, rfl, hac, hacells⟩ := hav
  obtain ⟨ca, cc, rfl, hcc, hcells⟩ := hcv
  obtain ⟨aa', ac', rfl, hac', hacells'⟩ := hav'
  obtain ⟨ca', cc', rfl, hcc', hcells'⟩ := hcv'
  have HC := Lib.hid hcells
  have HC' := Lib.hid hcells'
  have HA := Lib.hid hacells
  have HA' := Lib.hid hacells'
  have HL := Lib.hid hlv
  have HL' := Lib.hid hlv'
  have HN := Lib.hid hlen
  have HN' := Lib.hid hlen'
  have hcl := hm.cl
  have hacl := hm.ac
  have HMO := Lib.hid hm.ln
  have S0 : Hid (St w w []) := St.start w
  unfold scVal
  obtain ⟨xl, xm, xr, xd, xb, cls, acts⟩ := x
  simp only at *
  clear hcells hcells' hacells hacells' hlv hlv' hlen hlen' hm
  go_enter Tryz.func13, Tryz.ntmps13
  go_wp2_with fail
  go_loopw [5, 6, 7, 8] (fun i _ _ _ wr => ∃ k : Nat, k ≤ cls.length ∧ i = .int .i64 k ∧ Hid (St w wr [(w.heap.size + 1, #[.int .i64 xl, .int .i64 xm, .int .i64 xr, .int .i64 xd, .int .i64 xb, .slice ca' cls.length cc', .slice aa' acts.length ac'], 28), (w.heap.size, #[.int .i64 xl, .int .i64 xm, .int .i64 xr, .int .i64 xd, .int .i64 xb, .slice ca cls.length cc, .slice aa acts.length ac], 28)])) (fun i _ _ _ _ => cls.length - (intOf i).toNat)
  case atStart => exact ⟨0, by omega, rfl, by show St _ _ _; have := St.alloc (St.alloc S0.out (cs := #[.int .i64 xl, .int .i64 xm, .int .i64 xr, .int .i64 xd, .int .i64 xb, .slice ca cls.length cc, .slice aa acts.length ac]) (t := 28)) (cs := #[.int .i64 xl, .int .i64 xm, .int .i64 xr, .int .i64 xd, .int .i64 xb, .slice ca' cls.length cc', .slice aa' acts.length ac']) (t := 28); simpa only [World.size_alloc] using this⟩
  case round =>
    obtain ⟨k, hk, rfl, SR⟩ := hrel
    have FR := SR.out.facts
    simp only [St.Facts, cellFacts, apartFacts, and_true] at FR
    by_cases hlt : k < cls.length
    · obtain ⟨b1, o1, rfl, hat1⟩ := HC.out (by omega)
      obtain ⟨b2, o2, rfl, hat2⟩ := HC'.out (by omega)
      obtain ⟨c, hc⟩ : ∃ c, cls[k]? = some c := ⟨cls[k], by simp [hlt]⟩
      obtain ⟨lv, hl⟩ : ∃ lv, lvs[k]? = some lv := ⟨lvs[k]'(by rw [HN.out]; exact hlt), List.getElem?_eq_getElem _⟩
      obtain ⟨lv', hl'⟩ : ∃ lv, lvs'[k]? = some lv := ⟨lvs'[k]'(by rw [HN'.out]; exact hlt), List.getElem?_eq_getElem _⟩
      obtain ⟨x0, x1⟩ := clVals_at (hat1.kept SR.out.below) hc hl
      obtain ⟨y0, y1⟩ := clVals_at (hat2.kept SR.out.below) hc hl'
      have hbl2 := block_lt_of_cell y0
      have hbl1 := block_lt_of_cell x0
      simp only at hbl1 hbl2
      obtain ⟨la, lc, rfl, hlc, hcl1⟩ := HL.out k c lv hc hl
      obtain ⟨la', lc', rfl, hlc', hcl2⟩ := HL'.out k c lv' hc hl'
      have HC1 := Lib.hid hcl1
      have HC2 := Lib.hid hcl2
      have hln : c.lines.length ≤ 1000000 := HMO.out c (List.mem_of_getElem? hc)
      clear hcl1 hcl2 hc hl hl' hat1 hat2
      go_wp2_with fail
      have SX : Hid (St w ((wr.alloc (.cells #[.int .i64 c.tries, .slice la c.lines.length lc] 48)).alloc (.cells #[.int .i64 c.tries, .slice la' c.lines.length lc'] 48)) ((wr.heap.size + 1, #[.int .i64 c.tries, .slice la' c.lines.length lc'], 48) :: (wr.heap.size, #[.int .i64 c.tries, .slice la c.lines.length lc], 48) :: [(w.heap.size + 1, #[.int .i64 xl, .int .i64 xm, .int .i64 xr, .int .i64 xd, .int .i64 xb, .slice (some ⟨b2, o2, none⟩) cls.length cc', .slice aa' acts.length ac'], 28), (w.heap.size, #[.int .i64 xl, .int .i64 xm, .int .i64 xr, .int .i64 xd, .int .i64 xb, .slice (some ⟨b1, o1, none⟩) cls.length cc, .slice aa acts.length ac], 28)])) := by
        show St _ _ _
        have := St.alloc (St.alloc SR.out (cs := #[.int .i64 c.tries, .slice la c.lines.length lc]) (t := 48)) (cs := #[.int .i64 c.tries, .slice la' c.lines.length lc']) (t := 48)
        simpa only [World.size_alloc] using this
      clear FR x0 x1 y0 y1
      generalize wr.heap.size = q at SX ⊢
      go_loopw [8] (fun i wr => ∃ j : Nat, j ≤ c.lines.length ∧ i = .int .i64 j ∧ Hid (St w wr ((q + 1, #[.int .i64 c.tries, .slice la' c.lines.length lc'], 48) :: (q, #[.int .i64 c.tries, .slice la c.lines.length lc], 48) :: [(w.heap.size + 1, #[.int .i64 xl, .int .i64 xm, .int .i64 xr, .int .i64 xd, .int .i64 xb, .slice (some ⟨b2, o2, none⟩) cls.length cc', .slice aa' acts.length ac'], 28), (w.heap.size, #[.int .i64 xl, .int .i64 xm, .int .i64 xr, .int .i64 xd, .int .i64 xb, .slice (some ⟨b1, o1, none⟩) cls.length cc, .slice aa acts.length ac], 28)]))) (fun i _ => c.lines.length - (intOf i).toNat)
      case atStart => exact ⟨0, by omega, rfl, SX.out⟩
      case round =>
        clear SX SR
        obtain ⟨j, hj, rfl, SR⟩ := hrel
        have FR := SR.out.facts
        simp only [St.Facts, cellFacts, apartFacts, and_true] at FR
        by_cases hjl : j < c.lines.length
        · obtain ⟨d1, p1, rfl, hd1⟩ := HC1.out (by omega)
          obtain ⟨d2, p2, rfl, hd2⟩ := HC2.out (by omega)
          obtain ⟨l, hl⟩ : ∃ l, c.lines[j]? = some l := ⟨c.lines[j], by simp [hjl]⟩
          have y0 : ∀ (d : Nat) (os : Array Obj), (grow (redrawn wr d) os).cell? ⟨d1, p1 + j, none⟩ = some (.string ⟨l.toArray⟩) := fun d os => ((hd1.kept SR.out.below).kept (below_regrown wr d os)) j _ (by simp [svals, hl])
          have y1 : ∀ (d : Nat) (os : Array Obj), (grow (redrawn wr d) os).cell? ⟨d2, p2 + j, none⟩ = some (.string ⟨l.toArray⟩) := fun d os => ((hd2.kept SR.out.below).kept (below_regrown wr d os)) j _ (by simp [svals, hl])
          have FG := SR.out.factsG
          simp only [St.FactsG, cellFactsG, and_true] at FG
          have jl : (j : Int) < (c.lines.length : Int) := by omega
          clear hl hd1 hd2
          go_wp2_with fail
          refine wp_region_mixed 11 [(0, false), (1, false), (2, false), (3, false), (4, false), (5, false), (6, false), (7, false), (8, false), (9, false), (10, false)] (by kernel_rfl) (by kernel_rfl) ?_
          repeat (refine wpM_mild rfl (fun K hK => ?_); go_simp; first | (refine hK _ ?_; clear hK K) | (apply Exists.intro; refine ⟨fun _ => ?_, hK _ ?_⟩; (fail); clear hK K))
          refine wpM_end ?_
          intro w6 _ hb6
          have S6 := Lib.hid (SR.out.kept hb6)
          clear hb6 y0 y1 FG FR
          go_wp2_with fail
          go_roundw
          case rel => exact ⟨j + 1, by omega, by go_num, S6.out⟩
          case measure => simp [intOf]; omega
        · obtain rfl : j = c.lines.length := by omega
          go_wp2_with fail
          go_roundw
          case rel => exact ⟨k + 1, by omega, by go_num, St.tail (St.tail SR.out)⟩
          case measure => simp [intOf]; omega
    · obtain rfl : k = cls.length := by omega
      go_wp2_with fail
      clear FR HC HC' HL HL' HN HN'
      go_loopw [9] (fun i wr => ∃ k : Nat, k ≤ acts.length ∧ i = .int .i64 k ∧ Hid (St w wr [(w.heap.size + 1, #[.int .i64 xl, .int .i64 xm, .int .i64 xr, .int .i64 xd, .int .i64 xb, .slice ca' cls.length cc', .slice aa' acts.length ac'], 28), (w.heap.size, #[.int .i64 xl, .int .i64 xm, .int .i64 xr, .int .i64 xd, .int .i64 xb, .slice ca cls.length cc, .slice aa acts.length ac], 28)])) (fun i _ => acts.length - (intOf i).toNat)
      case atStart => exact ⟨0, by omega, rfl, SR.out⟩
      case round =>
        clear SR
        obtain ⟨k, hk, rfl, SR⟩ := hrel
        have FR := SR.out.facts
        simp only [St.Facts, cellFacts, apartFacts, and_true] at FR
        by_cases hlt : k < acts.length
        · obtain ⟨b1, o1, rfl, hat1⟩ := HA.out (by omega)
          obtain ⟨b2, o2, rfl, hat2⟩ := HA'.out (by omega)
          obtain ⟨a, ha⟩ : ∃ a, acts[k]? = some a := ⟨acts[k], by simp [hlt]⟩
          have y0 := fun d os => acVals_at ((hat1.kept SR.out.below).kept (below_regrown wr d os)) ha
          have y1 := fun d os => acVals_at ((hat2.kept SR.out.below).kept (below_regrown wr d os)) ha
          simp only [forall_and] at y0 y1
          have FG := SR.out.factsG
          simp only [St.FactsG, cellFactsG, and_true] at FG
          have jl : (k : Int) < (acts.length : Int) := by omega
          clear ha hat1 hat2
          go_wp2_with fail
          refine wp_region_mixed 11 [(0, false), (1, false), (2, false), (3, false), (4, false), (5, false), (6, false), (7, false), (8, false), (9, false), (10, false)] (by kernel_rfl) (by kernel_rfl) ?_
          repeat (refine wpM_mild rfl (fun K hK => ?_); go_simp; first | (refine hK _ ?_; clear hK K) | (apply Exists.intro; refine ⟨fun _ => ?_, hK _ ?_⟩; (fail); clear hK K))
          refine wpM_end ?_
          intro w6 _ hb6
          have S6 := Lib.hid (SR.out.kept hb6)
          clear hb6 y0 y1 FG FR
          go_wp2_with fail
          go_roundw
          case rel => exact ⟨k + 1, by omega, by go_num, S6.out⟩
          case measure => simp [intOf]; omega
        · obtain rfl : k = acts.length := by omega
          go_wp2_with fail
          go_returns
          exact ⟨rfl, SR.out.below⟩
end Go.Proofs.YtialgdnkkjmpbaaGreatDoor
