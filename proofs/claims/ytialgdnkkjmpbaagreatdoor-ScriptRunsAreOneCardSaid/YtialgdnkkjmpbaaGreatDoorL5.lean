/-
  The walk of the law ScriptPrintedIsParsed. Conditions: the variables of the program's text are there, and the script that is read. The memory that was there is as it was.
-/
import Derived.Test.YtialgdnkkjmpbaaGreatDoorL6
import Derived.Test.YtialgdnkkjmpbaaGreatDoorWq
import Derived.Test.YtialgdnkkjmpbaaGreatDoorPlainQ
namespace Go.Proofs.YtialgdnkkjmpbaaGreatDoor
open Go.RowKit Go.Sort

theorem few_printed {x : Sc} (h : few x = true) (hf : x.formed = true) : printed x = (text x, 0) ∧ (text x).length ≤ 200000 := by
  have := text_short hf (few_modest h).2
  exact ⟨printed_ok hf this, this⟩
theorem bad_printed {x : Sc} (hf : x.formed = false) : printed x = ([], eForm) := by
  unfold printed; rw [if_neg (by rw [hf]; exact Bool.false_ne_true)]
set_option maxRecDepth 100000 in
set_option maxHeartbeats 8000000 in
theorem law5 (x : Sc) (cv av : Value) (w : World) (he : Env w) (h : ScAt w cv av x) : Calls Tryz.prog 5 #[scVal x cv av] w fun e w' => e = .returned (.bool true) ∧ Below w.heap.size w w' := by
  have HE := Lib.hid he
  have C0 := Lib.hid (fun w he => sanity_any w he)
  have CF := Lib.hid (fun w h => few_any x cv av w h)
  have HS := Lib.hid h
  have S0 : Hid (St w w []) := St.start w
  obtain ⟨hav, _, _, hcv, _⟩ := h
  obtain ⟨aa, ac, rfl, _, _⟩ := hav
  obtain ⟨ca, cc, rfl, _, _⟩ := hcv
  clear he
  cases hfew : few x with
  | false =>
    rw [hfew] at CF
    clear hfew
    unfold scVal at *
    obtain ⟨xl, xm, xr, xd, xb, cls, acts⟩ := x
    simp only at *
    have SB : Hid (St w (w.alloc (.cells #[.int .i64 xl, .int .i64 xm, .int .i64 xr, .int .i64 xd, .int .i64 xb, .slice ca cls.length cc, .slice aa acts.length ac] 28)) [(w.heap.size, #[.int .i64 xl, .int .i64 xm, .int .i64 xr, .int .i64 xd, .int .i64 xb, .slice ca cls.length cc, .slice aa acts.length ac], 28)]) := St.alloc S0.out
    go_enter Tryz.func5, Tryz.ntmps5
    go_wp2_with fail
    refine Calls.mono (C0.out _ (HE.out.kept SB.out.below)) ?_
    rintro e w1 ⟨rfl, hb1⟩
    refine St.call (SB.out) hb1 ?_
    intro S1
    clear hb1
    try (simp only [List.set_cons_zero, List.set_cons_succ, List.setIfInBounds_toArray, World.size_alloc] at S1)
    have F1 := S1.out.facts
    simp only [St.Facts, cellFacts, apartFacts, and_true] at F1
    go_wp2_with fail
    refine Calls.mono (CF.out _ (HS.out.kept S1.out.below)) ?_
    rintro e w2 ⟨rfl, hb2⟩
    refine St.call (S1.out) hb2 ?_
    intro S2
    clear hb2
    try (simp only [List.set_cons_zero, List.set_cons_succ, List.setIfInBounds_toArray, World.size_alloc] at S2)
    clear F1
    go_wp2_with fail
    go_returns
    exact ⟨rfl, S2.out.below⟩
  | true =>
    rw [hfew] at CF
    have hm := (few_modest hfew).1
    have CP := Lib.hid (fun w he h => print_any x (.slice ca x.clients.length cc) (.slice aa x.acts.length ac) w he h hm (fun hf => by have := (few_printed hfew hf).2; omega))
    cases hf : x.formed with
    | false =>
      rw [bad_printed hf] at CP
      unfold PrintRes at CP
      clear hfew hf hm
      unfold scVal at *
      simp only [eForm] at CP
      obtain ⟨xl, xm, xr, xd, xb, cls, acts⟩ := x
      simp only at *
      have SB : Hid (St w (w.alloc (.cells #[.int .i64 xl, .int .i64 xm, .int .i64 xr, .int .i64 xd, .int .i64 xb, .slice ca cls.length cc, .slice aa acts.length ac] 28)) [(w.heap.size, #[.int .i64 xl, .int .i64 xm, .int .i64 xr, .int .i64 xd, .int .i64 xb, .slice ca cls.length cc, .slice aa acts.length ac], 28)]) := St.alloc S0.out
      go_enter Tryz.func5, Tryz.ntmps5
      go_wp2_with fail
      refine Calls.mono (C0.out _ (HE.out.kept SB.out.below)) ?_
      rintro e w1 ⟨rfl, hb1⟩
      refine St.call (SB.out) hb1 ?_
      intro S1
      clear hb1
      try (simp only [List.set_cons_zero, List.set_cons_succ, List.setIfInBounds_toArray, World.size_alloc] at S1)
      have F1 := S1.out.facts
      simp only [St.Facts, cellFacts, apartFacts, and_true] at F1
      go_wp2_with fail
      refine Calls.mono (CF.out _ (HS.out.kept S1.out.below)) ?_
      rintro e w2 ⟨rfl, hb2⟩
      refine St.call (S1.out) hb2 ?_
      intro S2
      clear hb2
      try (simp only [List.set_cons_zero, List.set_cons_succ, List.setIfInBounds_toArray, World.size_alloc] at S2)
      clear F1
      have F2 := S2.out.facts
      simp only [St.Facts, cellFacts, apartFacts, and_true] at F2
      go_wp2_with fail
      refine Calls.mono (CP.out _ (HE.out.kept S2.out.below) (HS.out.kept S2.out.below)) ?_
      rintro e w3 ⟨rfl, hb3⟩
      refine St.call (S2.out) hb3 ?_
      intro S3
      clear hb3
      try (simp only [List.set_cons_zero, List.set_cons_succ, List.setIfInBounds_toArray, World.size_alloc] at S3)
      clear F2
      go_wp2_with fail
      go_returns
      exact ⟨rfl, S3.out.below⟩
    | true =>
      have hl := (few_printed hfew hf).2
      rw [(few_printed hfew hf).1] at CP
      unfold PrintRes at CP
      have P := Lib.hid (fun w he => parse_at (text x) _ (parse_text x hf hl) w he)
      have CS := Lib.hid (fun cv' av' w h h' => same_same x (.slice ca x.clients.length cc) (.slice aa x.acts.length ac) cv' av' w h h' hm)
      clear hfew hf hm hl
      unfold scVal at *
      obtain ⟨xl, xm, xr, xd, xb, cls, acts⟩ := x
      simp only at *
      generalize text ⟨xl, xm, xr, xd, xb, cls, acts⟩ = tx at *
      have SB : Hid (St w (w.alloc (.cells #[.int .i64 xl, .int .i64 xm, .int .i64 xr, .int .i64 xd, .int .i64 xb, .slice ca cls.length cc, .slice aa acts.length ac] 28)) [(w.heap.size, #[.int .i64 xl, .int .i64 xm, .int .i64 xr, .int .i64 xd, .int .i64 xb, .slice ca cls.length cc, .slice aa acts.length ac], 28)]) := St.alloc S0.out
      go_enter Tryz.func5, Tryz.ntmps5
      go_wp2_with fail
      refine Calls.mono (C0.out _ (HE.out.kept SB.out.below)) ?_
      rintro e w1 ⟨rfl, hb1⟩
      refine St.call (SB.out) hb1 ?_
      intro S1
      clear hb1
      try (simp only [List.set_cons_zero, List.set_cons_succ, List.setIfInBounds_toArray, World.size_alloc] at S1)
      have F1 := S1.out.facts
      simp only [St.Facts, cellFacts, apartFacts, and_true] at F1
      go_wp2_with fail
      refine Calls.mono (CF.out _ (HS.out.kept S1.out.below)) ?_
      rintro e w2 ⟨rfl, hb2⟩
      refine St.call (S1.out) hb2 ?_
      intro S2
      clear hb2
      try (simp only [List.set_cons_zero, List.set_cons_succ, List.setIfInBounds_toArray, World.size_alloc] at S2)
      clear F1
      have F2 := S2.out.facts
      simp only [St.Facts, cellFacts, apartFacts, and_true] at F2
      go_wp2_with fail
      refine Calls.mono (CP.out _ (HE.out.kept S2.out.below) (HS.out.kept S2.out.below)) ?_
      rintro e w3 ⟨rfl, hb3⟩
      refine St.call (S2.out) hb3 ?_
      intro S3
      clear hb3
      try (simp only [List.set_cons_zero, List.set_cons_succ, List.setIfInBounds_toArray, World.size_alloc] at S3)
      clear F2
      have F3 := S3.out.facts
      simp only [St.Facts, cellFacts, apartFacts, and_true] at F3
      go_wp2_with fail
      refine Calls.mono (P.out _ (HE.out.kept S3.out.below)) ?_
      rintro e w4 ⟨a2, c2, b2, d2, rfl, hsc, hb4⟩
      have T4 := Lib.hid (St.alloc (St.alloc (S3.out.kept hb4) (cs := #[.int .i64 xl, .int .i64 xm, .int .i64 xr, .int .i64 xd, .int .i64 xb, .slice a2 cls.length c2, .slice b2 acts.length d2]) (t := 28)) (cs := #[.int .i64 0, .int .i64 0]) (t := 31))
      simp only [World.size_alloc] at T4
      have hba := ((Below.refl w4.heap.size w4).alloc (Nat.le_refl _) (.cells #[.int .i64 xl, .int .i64 xm, .int .i64 xr, .int .i64 xd, .int .i64 xb, .slice a2 cls.length c2, .slice b2 acts.length d2] 28)).alloc (by simp) (.cells #[.int .i64 0, .int .i64 0] 31)
      have Y4 := Lib.hid (hsc.kept hba)
      have F4 := (S3.out.kept hb4).facts
      simp only [St.Facts, cellFacts, apartFacts, and_true] at F4
      clear hb4 hsc hba F3
      go_wp2_with fail
      refine Calls.mono (CS.out _ _ _ (HS.out.kept T4.out.below) Y4.out) ?_
      rintro e w6 ⟨rfl, hb6⟩
      have S6 := Lib.hid (T4.out.kept hb6)
      clear hb6 F4
      go_wp2_with fail
      go_returns
      exact ⟨rfl, S6.out.below⟩
end Go.Proofs.YtialgdnkkjmpbaaGreatDoor
