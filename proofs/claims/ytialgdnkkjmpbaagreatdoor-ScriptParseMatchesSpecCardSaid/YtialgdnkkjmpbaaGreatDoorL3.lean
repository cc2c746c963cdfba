/-
  The walk of the law ScriptParseMatchesSpec. Conditions: the variables of the program's text are there. The memory that was there is as it was.
-/
import Derived.Test.YtialgdnkkjmpbaaGreatDoorR9
namespace Go.Proofs.YtialgdnkkjmpbaaGreatDoor
open Go.RowKit Go.Sort

theorem parsed_modest (t : Bytes) : Modest (parse t).1 := by
  rcases parse_back t with ⟨e0, he0, k, hk, hp⟩ | ⟨x, hp, hf, hlen, hl2, hnl⟩
  · rw [hp]; exact ⟨by simp [Sc.zero], by simp [Sc.zero], by simp [Sc.zero]⟩
  · rw [hp]
    have f := formedX hf
    exact ⟨by have := f.cn; simp only; omega, by have := f.an; simp only; omega, fun c hc => by have := (f.c c hc).2; omega⟩
theorem parse_refAt (t : Bytes) (r : Sc × Int × Int) (hr : parse t = r) (w : World) : Calls Tryz.prog 12 #[.string ⟨t.toArray⟩] w fun e w' => ∃ a1 c1 a2 c2,
    e = .returned (.tuple #[.agg #[.int .i64 r.1.lines, .int .i64 r.1.most, .int .i64 r.1.room, .int .i64 r.1.delay, .int .i64 r.1.buckets, .slice a1 r.1.clients.length c1, .slice a2 r.1.acts.length c2], .agg #[.int .i64 r.2.1, .int .i64 r.2.2]]) ∧ ScAt w' (.slice a1 r.1.clients.length c1) (.slice a2 r.1.acts.length c2) r.1 ∧ Below w.heap.size w w' := by
  refine (parse_ref t w).mono ?_
  rw [hr]
  rintro e w' ⟨cv, av, rfl, hsc, hb⟩
  obtain ⟨h1, lvs, h2, h3, h4⟩ := hsc
  obtain ⟨a2, c2, rfl, h5⟩ := id h1
  obtain ⟨a1, c1, rfl, h6⟩ := id h3
  exact ⟨a1, c1, a2, c2, rfl, ⟨h1, lvs, h2, h3, h4⟩, hb⟩
set_option maxRecDepth 100000 in
set_option maxHeartbeats 8000000 in
theorem law3 (t : Bytes) (w : World) (he : Env w) : Calls Tryz.prog 3 #[.string ⟨t.toArray⟩] w fun e w' => e = .returned (.bool true) ∧ Below w.heap.size w w' := by
  have HE := Lib.hid he
  have C0 := Lib.hid (fun w he => sanity_any w he)
  have S0 : Hid (St w w []) := St.start w
  clear he
  by_cases hbig : 3000 < t.length
  · have g1 : (3000 : Int) < (t.length : Int) := by omega
    go_enter Tryz.func3, Tryz.ntmps3
    go_wp2_with fail
    refine Calls.mono (C0.out _ HE.out) ?_
    rintro e w1 ⟨rfl, hb1⟩
    refine St.call (S0.out) hb1 ?_
    intro S1
    clear hb1
    try (simp only [List.set_cons_zero, List.set_cons_succ, List.setIfInBounds_toArray, World.size_alloc] at S1)
    go_wp2_with fail
    go_returns
    exact ⟨rfl, S1.out.below⟩
  · have g1 : ¬ (3000 : Int) < (t.length : Int) := by omega
    have hm := parsed_modest t
    obtain ⟨⟨⟨xl, xm, xr, xd, xb, cls, acts⟩, pa, pe⟩, hr⟩ : ∃ r, parse t = r := ⟨_, rfl⟩
    rw [hr] at hm
    simp only at hm
    have P := Lib.hid (fun w he => parse_at t _ hr w he)
    have Q := Lib.hid (fun w => parse_refAt t _ hr w)
    simp only at P Q
    have CS := Lib.hid (fun cv av cv' av' w h h' => same_same ⟨xl, xm, xr, xd, xb, cls, acts⟩ cv av cv' av' w h h' hm)
    simp only [scVal] at CS
    clear hbig hm hr
    go_enter Tryz.func3, Tryz.ntmps3
    go_wp2_with fail
    refine Calls.mono (C0.out _ HE.out) ?_
    rintro e w1 ⟨rfl, hb1⟩
    refine St.call (S0.out) hb1 ?_
    intro S1
    clear hb1
    try (simp only [List.set_cons_zero, List.set_cons_succ, List.setIfInBounds_toArray, World.size_alloc] at S1)
    go_wp2_with fail
    refine Calls.mono (P.out _ (HE.out.kept S1.out.below)) ?_
    rintro e w2 ⟨a1, c1, b1, d1, rfl, hsc, hb2⟩
    have T2 := Lib.hid (St.alloc (St.alloc (S1.out.kept hb2) (cs := #[.int .i64 xl, .int .i64 xm, .int .i64 xr, .int .i64 xd, .int .i64 xb, .slice a1 cls.length c1, .slice b1 acts.length d1]) (t := 28)) (cs := #[.int .i64 pa, .int .i64 pe]) (t := 31))
    simp only [World.size_alloc] at T2
    have V2 := Lib.hid (hsc.kept (((Below.refl w2.heap.size w2).alloc (Nat.le_refl _) (.cells #[.int .i64 xl, .int .i64 xm, .int .i64 xr, .int .i64 xd, .int .i64 xb, .slice a1 cls.length c1, .slice b1 acts.length d1] 28)).alloc (by simp) (.cells #[.int .i64 pa, .int .i64 pe] 31)))
    clear hb2 hsc S1
    go_wp2_with fail
    refine Calls.mono (Q.out _) ?_
    rintro e w3 ⟨a2, c2, b2, d2, rfl, hsc, hb3⟩
    have T3 := Lib.hid (St.alloc (St.alloc (T2.out.kept hb3) (cs := #[.int .i64 xl, .int .i64 xm, .int .i64 xr, .int .i64 xd, .int .i64 xb, .slice a2 cls.length c2, .slice b2 acts.length d2]) (t := 28)) (cs := #[.int .i64 pa, .int .i64 pe]) (t := 31))
    simp only [World.size_alloc] at T3
    have hba := ((Below.refl w3.heap.size w3).alloc (Nat.le_refl _) (.cells #[.int .i64 xl, .int .i64 xm, .int .i64 xr, .int .i64 xd, .int .i64 xb, .slice a2 cls.length c2, .slice b2 acts.length d2] 28)).alloc (by simp) (.cells #[.int .i64 pa, .int .i64 pe] 31)
    have X3 := Lib.hid ((V2.out.kept hb3).kept hba)
    have Y3 := Lib.hid (hsc.kept hba)
    have F3 := (T2.out.kept hb3).facts
    simp only [St.Facts, cellFacts, apartFacts, and_true] at F3
    clear hb3 hsc hba T2 V2
    go_wp2_with fail
    refine Calls.mono (CS.out _ _ _ _ _ X3.out Y3.out) ?_
    rintro e w4 ⟨rfl, hb4⟩
    have S4 := Lib.hid (T3.out.kept hb4)
    have F4 := S4.out.facts
    simp only [St.Facts, cellFacts, apartFacts, and_true] at F4
    clear hb4 T3 X3 Y3 F3
    go_wp2_with fail
    go_returns
    exact ⟨rfl, S4.out.below⟩
end Go.Proofs.YtialgdnkkjmpbaaGreatDoor
