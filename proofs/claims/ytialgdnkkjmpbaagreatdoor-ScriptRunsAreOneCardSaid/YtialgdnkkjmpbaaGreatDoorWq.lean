/-
  Walks: the reference's Few. The memory that was there is as it was.
-/
import Derived.Test.YtialgdnkkjmpbaaGreatDoorWn
namespace Go.Proofs.YtialgdnkkjmpbaaGreatDoor
open Go.RowKit Go.Sort

def fewC (c : Cl) : Bool := !(decide (6 < c.lines.length) && decide (c.lines.length ≤ 100)) && (decide (c.lines.length ≤ 102) && c.lines.all fun l => decide (l.length ≤ 100))
def few (x : Sc) : Bool := decide (x.clients.length ≤ 10) && (!(decide (60 < x.acts.length) && decide (x.acts.length ≤ 2000)) && (decide (x.acts.length ≤ 2002) && x.clients.all fewC))
theorem few_modest {x : Sc} (h : few x = true) : Modest x ∧ ∀ c ∈ x.clients, ∀ l ∈ c.lines, l.length ≤ 100 := by
  unfold few at h
  simp only [Bool.and_eq_true, decide_eq_true_eq] at h
  obtain ⟨h1, _, h3, h4⟩ := h
  have key : ∀ c ∈ x.clients, c.lines.length ≤ 102 ∧ ∀ l ∈ c.lines, l.length ≤ 100 := fun c hc => by
    have := List.all_eq_true.1 h4 c hc
    unfold fewC at this
    simp only [Bool.and_eq_true, decide_eq_true_eq] at this
    exact ⟨this.2.1, fun l hl => by have := List.all_eq_true.1 this.2.2 l hl; simpa using this⟩
  exact ⟨⟨by omega, by omega, fun c hc => by have := (key c hc).1; omega⟩, fun c hc => (key c hc).2⟩
set_option maxRecDepth 100000 in
set_option maxHeartbeats 4000000 in
theorem few_any (x : Sc) (cv av : Value) (w : World) (h : ScAt w cv av x) : Calls Tryz.prog 14 #[scVal x cv av] w fun e w' => e = .returned (.bool (few x)) ∧ Below w.heap.size w w' := by
  obtain ⟨hav, lvs, hlen, hcv, hlv⟩ := h
  obtain ⟨aa, ac, rfl, hac, hacells⟩ := hav
  obtain ⟨ca, cc, rfl, hcc, hcells⟩ := hcv
  have HC := Lib.hid hcells
  have HL := Lib.hid hlv
  have HN := Lib.hid hlen
  have S0 : Hid (St w w []) := St.start w
  unfold scVal
  obtain ⟨xl, xm, xr, xd, xb, cls, acts⟩ := x
  obtain ⟨fx, HFX⟩ : ∃ fx, Hid (few ⟨xl, xm, xr, xd, xb, cls, acts⟩ = fx) := ⟨_, rfl⟩
  rw [HFX.out]
  have HF : Hid (fx = (decide (cls.length ≤ 10) && (!(decide (60 < acts.length) && decide (acts.length ≤ 2000)) && (decide (acts.length ≤ 2002) && cls.all fewC)))) := HFX.out.symm
  simp only at HC HL HN hac hcc
  clear hcells hacells hlv hlen HFX
  by_cases h10 : cls.length ≤ 10
  · by_cases ha : 60 < acts.length ∧ acts.length ≤ 2000
    · have hfx : fx = false := by rw [HF.out]; simp [ha.1, ha.2]
      subst hfx
      have t1 : ¬ (10 : Int) < (cls.length : Int) := by omega
      have t2 : (60 : Int) < (acts.length : Int) := by omega
      have t3 : (acts.length : Int) ≤ 2000 := by omega
      go_enter Tryz.func14, Tryz.ntmps14
      go_wp2_with fail
      go_returns
      exact ⟨rfl, by go_grown⟩
    · by_cases hb : acts.length ≤ 2002
      · have hfx : fx = cls.all fewC := by
          rw [HF.out, decide_eq_true h10, decide_eq_true hb]
          have : (decide (60 < acts.length) && decide (acts.length ≤ 2000)) = false := by
            rw [Bool.eq_false_iff]; intro h; simp at h; exact ha h
          rw [this]; simp
        have HFX := Lib.hid hfx
        clear hfx HF
        have t1 : ¬ (10 : Int) < (cls.length : Int) := by omega
        have t4 : ¬ (2002 : Int) < (acts.length : Int) := by omega
        have hor : (¬ (60 : Int) < (acts.length : Int)) ∨ ((60 : Int) < (acts.length : Int) ∧ ¬ (acts.length : Int) ≤ 2000) := by omega
        clear ha
        have SB : Hid (St w (w.alloc (.cells #[.int .i64 xl, .int .i64 xm, .int .i64 xr, .int .i64 xd, .int .i64 xb, .slice ca cls.length cc, .slice aa acts.length ac] 28)) [(w.heap.size, #[.int .i64 xl, .int .i64 xm, .int .i64 xr, .int .i64 xd, .int .i64 xb, .slice ca cls.length cc, .slice aa acts.length ac], 28)]) := St.alloc S0.out
        rcases hor with t2 | ⟨t2, t3⟩
        all_goals
          go_enter Tryz.func14, Tryz.ntmps14
          go_wp2_with fail
          go_loopw [3, 4, 5] (fun i _ _ wr => ∃ k : Nat, k ≤ cls.length ∧ i = .int .i64 k ∧ Hid (fx = (cls.drop k).all fewC) ∧ Hid (St w wr [(w.heap.size, #[.int .i64 xl, .int .i64 xm, .int .i64 xr, .int .i64 xd, .int .i64 xb, .slice ca cls.length cc, .slice aa acts.length ac], 28)])) (fun i _ _ _ => cls.length - (intOf i).toNat)
          case atStart => exact ⟨0, by omega, rfl, HFX.out, SB.out⟩
          case round =>
            obtain ⟨k, hk, rfl, HK, SR⟩ := hrel
            have FR := SR.out.facts
            simp only [St.Facts, cellFacts, apartFacts, and_true] at FR
            by_cases hlt : k < cls.length
            · obtain ⟨b1, o1, rfl, hat⟩ := HC.out (by omega)
              obtain ⟨c, hc⟩ : ∃ c, cls[k]? = some c := ⟨cls[k], by simp [hlt]⟩
              obtain ⟨lv, hl⟩ : ∃ lv, lvs[k]? = some lv := ⟨lvs[k]'(by rw [HN.out]; exact hlt), List.getElem?_eq_getElem _⟩
              obtain ⟨x0, x1⟩ := clVals_at (hat.kept SR.out.below) hc hl
              obtain ⟨la, lc, rfl, hlc, hlcells⟩ := HL.out k c lv hc hl
              have HLC := Lib.hid hlcells
              have HST : Hid (fx = (fewC c && (cls.drop (k + 1)).all fewC)) := by
                show _ = _
                rw [HK.out]
                obtain ⟨h1, rfl⟩ := List.getElem?_eq_some_iff.1 hc
                rw [List.drop_eq_getElem_cons h1, List.all_cons]
              have HAT := Lib.hid hat
              have HCK := Lib.hid hc
              have HLK := Lib.hid hl
              clear hc hl hat HK hlcells
              by_cases h6 : 6 < c.lines.length ∧ c.lines.length ≤ 100
              · have hfx : fx = false := by rw [HST.out]; simp [fewC, h6.1, h6.2]
                subst hfx
                have u1 : (6 : Int) < (c.lines.length : Int) := by omega
                have u2 : (c.lines.length : Int) ≤ 100 := by omega
                go_wp2_with fail
                go_returns
                exact ⟨rfl, SR.out.below⟩
              · by_cases h102 : c.lines.length ≤ 102
                · have HST2 : Hid (fx = ((c.lines.all fun l => decide (l.length ≤ 100)) && (cls.drop (k + 1)).all fewC)) := by
                    show _ = _
                    rw [HST.out, fewC, decide_eq_true h102]
                    have : (decide (6 < c.lines.length) && decide (c.lines.length ≤ 100)) = false := by
                      rw [Bool.eq_false_iff]; intro h; simp at h; exact h6 h
                    rw [this]; simp
                  clear HST
                  have u3 : ¬ (102 : Int) < (c.lines.length : Int) := by omega
                  have hor2 : (¬ (6 : Int) < (c.lines.length : Int)) ∨ ((6 : Int) < (c.lines.length : Int) ∧ ¬ (c.lines.length : Int) ≤ 100) := by omega
                  clear h6
                  rcases hor2 with u1 | ⟨u1, u2⟩
                  all_goals
                    go_wp2_with fail
                    clear FR x0 x1
                    go_loopw [5] (fun i wr => ∃ j : Nat, j ≤ c.lines.length ∧ i = .int .i64 j ∧ Hid (fx = (((c.lines.drop j).all fun l => decide (l.length ≤ 100)) && (cls.drop (k + 1)).all fewC)) ∧ Hid (St w wr [(w.heap.size, #[.int .i64 xl, .int .i64 xm, .int .i64 xr, .int .i64 xd, .int .i64 xb, .slice (some ⟨b1, o1, none⟩) cls.length cc, .slice aa acts.length ac], 28)])) (fun i _ => c.lines.length - (intOf i).toNat)
                    case atStart => exact ⟨0, by omega, rfl, HST2.out, SR.out⟩
                    case round =>
                      clear SR
                      obtain ⟨j, hj, rfl, HJ, SR⟩ := hrel
                      have FR := SR.out.facts
                      simp only [St.Facts, cellFacts, apartFacts, and_true] at FR
                      obtain ⟨x0, x1⟩ := clVals_at (HAT.out.kept SR.out.below) HCK.out HLK.out
                      by_cases hjl : j < c.lines.length
                      · obtain ⟨d1, p1, rfl, hd1⟩ := HLC.out (by omega)
                        obtain ⟨l, hl⟩ : ∃ l, c.lines[j]? = some l := ⟨c.lines[j], by simp [hjl]⟩
                        have y0 : wr.cell? ⟨d1, p1 + j, none⟩ = some (.string ⟨l.toArray⟩) := (hd1.kept SR.out.below) j _ (by simp [svals, hl])
                        have HJ2 : Hid (fx = ((decide (l.length ≤ 100) && (c.lines.drop (j + 1)).all fun l => decide (l.length ≤ 100)) && (cls.drop (k + 1)).all fewC)) := by
                          show _ = _
                          rw [HJ.out]
                          obtain ⟨h1, rfl⟩ := List.getElem?_eq_some_iff.1 hl
                          rw [List.drop_eq_getElem_cons h1, List.all_cons]
                        clear hl hd1 HJ
                        by_cases hl100 : l.length ≤ 100
                        · have v1 : ¬ (100 : Int) < (l.length : Int) := by omega
                          rw [decide_eq_true hl100, Bool.true_and] at HJ2
                          go_wp2_with fail
                          go_roundw
                          case rel => exact ⟨j + 1, by omega, by go_num, HJ2.out, SR.out⟩
                          case measure => simp [intOf]; omega
                        · have v1 : (100 : Int) < (l.length : Int) := by omega
                          rw [decide_eq_false hl100, Bool.false_and, Bool.false_and] at HJ2
                          have hfx : fx = false := HJ2.out
                          subst hfx
                          go_wp2_with fail
                          go_returns
                          exact ⟨rfl, SR.out.below⟩
                      · obtain rfl : j = c.lines.length := by omega
                        have HJ2 : Hid (fx = (cls.drop (k + 1)).all fewC) := by
                          show _ = _
                          rw [HJ.out]; simp
                        clear HJ
                        go_wp2_with fail
                        go_roundw
                        case rel => exact ⟨k + 1, by omega, by go_num, HJ2.out, SR.out⟩
                        case measure => simp [intOf]; omega
                · have hfx : fx = false := by rw [HST.out]; simp [fewC, h102]
                  subst hfx
                  have u1 : (6 : Int) < (c.lines.length : Int) := by omega
                  have u2 : ¬ (c.lines.length : Int) ≤ 100 := by omega
                  have u3 : (102 : Int) < (c.lines.length : Int) := by omega
                  go_wp2_with fail
                  go_returns
                  exact ⟨rfl, SR.out.below⟩
            · obtain rfl : k = cls.length := by omega
              have hfx : fx = true := by rw [HK.out]; simp
              subst hfx
              go_wp2_with fail
              go_returns
              exact ⟨rfl, SR.out.below⟩
      · have hfx : fx = false := by rw [HF.out]; simp [hb]
        subst hfx
        have t1 : ¬ (10 : Int) < (cls.length : Int) := by omega
        have t2 : (60 : Int) < (acts.length : Int) := by omega
        have t3 : ¬ (acts.length : Int) ≤ 2000 := by omega
        have t4 : (2002 : Int) < (acts.length : Int) := by omega
        go_enter Tryz.func14, Tryz.ntmps14
        go_wp2_with fail
        go_returns
        exact ⟨rfl, by go_grown⟩
  · have hfx : fx = false := by rw [HF.out]; simp [h10]
    subst hfx
    have t1 : (10 : Int) < (cls.length : Int) := by omega
    go_enter Tryz.func14, Tryz.ntmps14
    go_wp2_with fail
    go_returns
    exact ⟨rfl, by go_grown⟩
end Go.Proofs.YtialgdnkkjmpbaaGreatDoor
