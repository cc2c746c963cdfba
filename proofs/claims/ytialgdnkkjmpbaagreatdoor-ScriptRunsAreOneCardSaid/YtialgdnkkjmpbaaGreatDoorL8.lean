/-
  The walk of the law ScriptRunsAreOne. Conditions: the variables of the program's text are there, and the script that is read. The memory that was there is as it was.
-/
import Derived.Test.YtialgdnkkjmpbaaGreatDoorL5
namespace Go.Proofs.YtialgdnkkjmpbaaGreatDoor
open Go.RowKit Go.Sort

theorem one_at {w : World} {b o c : Nat} {l : List Ac} {k : Nat} {a : Ac} (h : CellsAt w b o (acVals l)) (hk : l[k]? = some a) (hc : 1 ≤ c) : ScAt w (.slice none 0 0) (.slice (some ⟨b, o + k * 4, none⟩) 1 c) (oneAct a) := by
  obtain ⟨h0, h1, h2, h3⟩ := acVals_at h hk
  refine ⟨⟨_, c, rfl, hc, fun _ => ⟨b, _, rfl, ?_⟩⟩, [], rfl, slAt_zero rfl, fun i d lv hd => by simp [oneAct, Sc.zero] at hd⟩
  intro j u hu
  have hu' : ([.int .i64 a.k, .int .i64 a.a, .int .i64 a.b, .int .i64 a.c] : List Value)[j]? = some u := by simpa [oneAct, acVals] using hu
  rcases j with _ | _ | _ | _ | j
  · simp only [List.getElem?_cons_zero, Option.some.injEq] at hu'; subst hu'; exact h0
  · simp only [List.getElem?_cons_succ, List.getElem?_cons_zero, Option.some.injEq] at hu'; subst hu'; exact h1
  · simp only [List.getElem?_cons_succ, List.getElem?_cons_zero, Option.some.injEq] at hu'; subst hu'; exact h2
  · simp only [List.getElem?_cons_succ, List.getElem?_cons_zero, Option.some.injEq] at hu'; subst hu'; exact h3
  · simp at hu'
theorem bare_at {w : World} {cv av : Value} {x : Sc} (h : ScAt w cv av x) : ScAt w cv (.slice none 0 0) (bare x) := by
  obtain ⟨_, lvs, h2, h3, h4⟩ := h
  exact ⟨slAt_zero rfl, lvs, h2, h3, h4⟩
theorem one_modest (a : Ac) : Modest (oneAct a) := ⟨by simp [oneAct, Sc.zero], by simp [oneAct], by simp [oneAct, Sc.zero]⟩
theorem bare_modest {x : Sc} (h : Modest x) : Modest (bare x) := ⟨h.cl, by simp [bare], h.ln⟩
theorem zero_formed : Sc.zero.formed = true := by decide +kernel
theorem zero_printed : printed Sc.zero = (text Sc.zero, 0) := printed_ok zero_formed (by rw [zero_len]; omega)
theorem one_printed {a : Ac} (h : a.right = true) : printed (oneAct a) = (text Sc.zero ++ (pAct a 1 ++ [10]), 0) := by
  rw [← text_one]
  refine printed_ok (by rw [oneAct_formed]; exact h) ?_
  rw [text_one, List.length_append, zero_len]
  have := pAct_short (m := 1) h (by omega)
  simp; omega
theorem bare_printed {x : Sc} (hfew : few x = true) (hf : (bare x).formed = true) : printed (bare x) = (text (bare x), 0) :=
  printed_ok hf (text_short hf (few_modest hfew).2)
theorem cut_front (T A : Bytes) : ((({ data := (T ++ A).toArray } : ByteArray).extract 0 T.length).toList == T) = true := by
  rw [ByteArray.toList_eq]
  simp
theorem cut_back (Z T A : Bytes) : ({ data := Z.toArray } ++ ({ data := (T ++ A).toArray } : ByteArray).extract T.length (T.length + A.length) : ByteArray) = { data := (Z ++ A).toArray } := by
  apply ByteArray.ext
  simp
theorem actsOut_len : ∀ l : List Ac, l.all Ac.right = true → (actsOut l).length ≤ 57 * l.length
  | [], _ => by simp [actsOut]
  | a :: l, h => by
    simp only [List.all_cons, Bool.and_eq_true] at h
    have h1 := actsOut_len l h.2
    have h2 := pAct_short (m := 1) h.1 (by omega)
    have e : actsOut (a :: l) = (pAct a 1 ++ [10]) ++ actsOut l := by simp [actsOut]
    rw [e]
    simp only [List.length_append, List.length_cons, List.length_nil, Nat.mul_add]
    omega
theorem print_one (a : Ac) (av : Value) (w : World) (he : Env w) (h : ScAt w (.slice none 0 0) av (oneAct a)) (hr : a.right = true) : Calls Tryz.prog 15 #[.agg #[.int .i64 0, .int .i64 0, .int .i64 0, .int .i64 0, .int .i64 0, .slice none 0 0, av]] w fun e w' =>
    e = .returned (.tuple #[.string ⟨(text Sc.zero ++ (pAct a 1 ++ [10])).toArray⟩, .int .i64 0]) ∧ Below w.heap.size w w' := by
  have := print_any (oneAct a) _ _ w he h (one_modest a) (fun _ => by have := pAct_short (m := 1) hr (by omega); rw [text_one, List.length_append, zero_len]; simp; omega)
  rw [one_printed hr] at this
  exact this
theorem print_one_bad (a : Ac) (av : Value) (w : World) (he : Env w) (h : ScAt w (.slice none 0 0) av (oneAct a)) (hr : a.right = false) : Calls Tryz.prog 15 #[.agg #[.int .i64 0, .int .i64 0, .int .i64 0, .int .i64 0, .int .i64 0, .slice none 0 0, av]] w fun e w' =>
    e = .returned (.tuple #[.string ⟨#[]⟩, .int .i64 3]) ∧ Below w.heap.size w w' := by
  have hf : (oneAct a).formed = false := by rw [oneAct_formed]; exact hr
  have := print_any (oneAct a) _ _ w he h (one_modest a) (fun h => by rw [hf] at h; cases h)
  rw [bad_printed hf] at this
  exact this
theorem print_zero (w : World) (he : Env w) : Calls Tryz.prog 15 #[.agg #[.int .i64 0, .int .i64 0, .int .i64 0, .int .i64 0, .int .i64 0, .slice none 0 0, .slice none 0 0]] w fun e w' =>
    e = .returned (.tuple #[.string ⟨(text Sc.zero).toArray⟩, .int .i64 0]) ∧ Below w.heap.size w w' := by
  have := print_any Sc.zero _ _ w he (scAt_zero w) zero_modest (fun _ => by rw [zero_len]; omega)
  rw [zero_printed] at this
  exact this
set_option maxRecDepth 100000 in
set_option maxHeartbeats 8000000 in
theorem law8 (x : Sc) (cv av : Value) (w : World) (he : Env w) (h : ScAt w cv av x) : Calls Tryz.prog 8 #[scVal x cv av] w fun e w' => e = .returned (.bool true) ∧ Below w.heap.size w w' := by
  have HE := Lib.hid he
  have C0 := Lib.hid (fun w he => sanity_any w he)
  have CF := Lib.hid (fun w h => few_any x cv av w h)
  have HS := Lib.hid h
  have HB := Lib.hid (bare_at h)
  have S0 : Hid (St w w []) := St.start w
  obtain ⟨hav, _, _, hcv, _⟩ := h
  obtain ⟨aa, ac, rfl, hac, hacells⟩ := hav
  obtain ⟨ca, cc, rfl, _, _⟩ := hcv
  have HA := Lib.hid hacells
  clear he hacells
  cases hfew : few x with
  | false =>
    rw [hfew] at CF
    clear hfew
    unfold scVal at *
    obtain ⟨xl, xm, xr, xd, xb, cls, acts⟩ := x
    simp only at *
    have SB : Hid (St w (w.alloc (.cells #[.int .i64 xl, .int .i64 xm, .int .i64 xr, .int .i64 xd, .int .i64 xb, .slice ca cls.length cc, .slice aa acts.length ac] 28)) [(w.heap.size, #[.int .i64 xl, .int .i64 xm, .int .i64 xr, .int .i64 xd, .int .i64 xb, .slice ca cls.length cc, .slice aa acts.length ac], 28)]) := St.alloc S0.out
    go_enter Tryz.func8, Tryz.ntmps8
    go_wp2_with fail
    refine Calls.mono (C0.out _ (HE.out.kept SB.out.below)) ?_
    rintro e w1 ⟨rfl, hb1⟩
    refine St.call (SB.out) hb1 ?_
    intro S1
    clear hb1
    try (simp only [List.set_cons_zero, List.set_cons_succ, List.setIfInBounds_toArray, World.size_alloc] at S1)
    have F1 := S1.out.facts
    simp only [St.Facts, cellFacts, apartFacts, and_true] at F1
    go_wp2_with fail
    refine Calls.mono (CF.out _ (HS.out.kept S1.out.below)) ?_
    rintro e w2 ⟨rfl, hb2⟩
    refine St.call (S1.out) hb2 ?_
    intro S2
    clear hb2
    try (simp only [List.set_cons_zero, List.set_cons_succ, List.setIfInBounds_toArray, World.size_alloc] at S2)
    clear F1
    have F2 := S2.out.facts
    simp only [St.Facts, cellFacts, apartFacts, and_true] at F2
    go_wp2_with fail
    go_returns
    exact ⟨rfl, S2.out.below⟩
  | true =>
    rw [hfew] at CF
    by_cases h60 : 60 < x.acts.length
    · have h60' : (60 : Int) < (x.acts.length : Int) := by omega
      clear hfew h60
      unfold scVal at *
      obtain ⟨xl, xm, xr, xd, xb, cls, acts⟩ := x
      simp only at *
      have SB : Hid (St w (w.alloc (.cells #[.int .i64 xl, .int .i64 xm, .int .i64 xr, .int .i64 xd, .int .i64 xb, .slice ca cls.length cc, .slice aa acts.length ac] 28)) [(w.heap.size, #[.int .i64 xl, .int .i64 xm, .int .i64 xr, .int .i64 xd, .int .i64 xb, .slice ca cls.length cc, .slice aa acts.length ac], 28)]) := St.alloc S0.out
      go_enter Tryz.func8, Tryz.ntmps8
      go_wp2_with fail
      refine Calls.mono (C0.out _ (HE.out.kept SB.out.below)) ?_
      rintro e w1 ⟨rfl, hb1⟩
      refine St.call (SB.out) hb1 ?_
      intro S1
      clear hb1
      try (simp only [List.set_cons_zero, List.set_cons_succ, List.setIfInBounds_toArray, World.size_alloc] at S1)
      have F1 := S1.out.facts
      simp only [St.Facts, cellFacts, apartFacts, and_true] at F1
      go_wp2_with fail
      refine Calls.mono (CF.out _ (HS.out.kept S1.out.below)) ?_
      rintro e w2 ⟨rfl, hb2⟩
      refine St.call (S1.out) hb2 ?_
      intro S2
      clear hb2
      try (simp only [List.set_cons_zero, List.set_cons_succ, List.setIfInBounds_toArray, World.size_alloc] at S2)
      clear F1
      have F2 := S2.out.facts
      simp only [St.Facts, cellFacts, apartFacts, and_true] at F2
      go_wp2_with fail
      go_returns
      exact ⟨rfl, S2.out.below⟩
    · have h60' : ¬ (60 : Int) < (x.acts.length : Int) := by omega
      have hm := (few_modest hfew).1
      have CB := Lib.hid (fun w he h => print_any (bare x) (.slice ca x.clients.length cc) (.slice none 0 0) w he h (bare_modest hm) (fun hf => by have := text_short hf (few_modest hfew).2; omega))
      cases hbf : (bare x).formed with
      | false =>
        rw [bad_printed hbf] at CB
        unfold PrintRes at CB
        clear hfew hbf hm h60
        simp only [eForm, scVal, bare] at CB
        unfold scVal at *
        obtain ⟨xl, xm, xr, xd, xb, cls, acts⟩ := x
        simp only at *
        have SB : Hid (St w (w.alloc (.cells #[.int .i64 xl, .int .i64 xm, .int .i64 xr, .int .i64 xd, .int .i64 xb, .slice ca cls.length cc, .slice aa acts.length ac] 28)) [(w.heap.size, #[.int .i64 xl, .int .i64 xm, .int .i64 xr, .int .i64 xd, .int .i64 xb, .slice ca cls.length cc, .slice aa acts.length ac], 28)]) := St.alloc S0.out
        go_enter Tryz.func8, Tryz.ntmps8
        go_wp2_with fail
        refine Calls.mono (C0.out _ (HE.out.kept SB.out.below)) ?_
        rintro e w1 ⟨rfl, hb1⟩
        refine St.call (SB.out) hb1 ?_
        intro S1
        clear hb1
        try (simp only [List.set_cons_zero, List.set_cons_succ, List.setIfInBounds_toArray, World.size_alloc] at S1)
        have F1 := S1.out.facts
        simp only [St.Facts, cellFacts, apartFacts, and_true] at F1
        go_wp2_with fail
        refine Calls.mono (CF.out _ (HS.out.kept S1.out.below)) ?_
        rintro e w2 ⟨rfl, hb2⟩
        refine St.call (S1.out) hb2 ?_
        intro S2
        clear hb2
        try (simp only [List.set_cons_zero, List.set_cons_succ, List.setIfInBounds_toArray, World.size_alloc] at S2)
        clear F1
        have F2 := S2.out.facts
        simp only [St.Facts, cellFacts, apartFacts, and_true] at F2
        go_upto_region 6 with (fail)
        refine St.gen (St.alloc (S2.out)) ?_
        intro w3 S3
        try (simp only [List.set_cons_zero, List.set_cons_succ, List.setIfInBounds_toArray, World.size_alloc] at S3)
        clear F2 S2
        have F3 := S3.out.facts
        simp only [St.Facts, cellFacts, apartFacts, and_true] at F3
        go_wp2_with fail
        refine Calls.mono (CB.out _ (HE.out.kept S3.out.below) (HB.out.kept S3.out.below)) ?_
        rintro e w4 ⟨rfl, hb4⟩
        refine St.call (S3.out) hb4 ?_
        intro S4
        clear hb4
        try (simp only [List.set_cons_zero, List.set_cons_succ, List.setIfInBounds_toArray, World.size_alloc] at S4)
        clear F3
        go_wp2_with fail
        go_returns
        exact ⟨rfl, S4.out.below⟩
      | true =>
        rw [bare_printed hfew hbf] at CB
        unfold PrintRes at CB
        have hT0 : (text (bare x)).length ≤ 200000 := text_short hbf (few_modest hfew).2
        have PX : Hid (x.acts.all Ac.right = true → parse (text (bare x) ++ actsOut x.acts) = (x, 0, 0)) := fun h => parse_ones x (bare_formed hbf h (by omega)) (by omega) (few_modest hfew).2
        have CS := Lib.hid (fun cv' av' w h h' => same_same x (.slice ca x.clients.length cc) (.slice aa x.acts.length ac) cv' av' w h h' hm)
        have CO := Lib.hid (fun a av w he h hr => print_one a av w he h hr)
        have CX := Lib.hid (fun a av w he h hr => print_one_bad a av w he h hr)
        have CZ := Lib.hid (fun w he => print_zero w he)
        have h61 : x.acts.length ≤ 60 := by omega
        clear hfew hbf hm h60
        generalize text (bare x) = T0 at *
        have hzl := zero_len
        obtain ⟨TZ, HTZ⟩ : ∃ TZ, Hid (TZ = text Sc.zero) := ⟨_, rfl⟩
        rw [← HTZ.out] at CO CZ hzl
        have hzl1 : 20 ≤ TZ.length := by omega
        have hzl2 : TZ.length ≤ 20 := by omega
        clear hzl HTZ
        simp only [scVal, bare] at CB
        unfold scVal at *
        obtain ⟨xl, xm, xr, xd, xb, cls, acts⟩ := x
        simp only at *
        have SB : Hid (St w (w.alloc (.cells #[.int .i64 xl, .int .i64 xm, .int .i64 xr, .int .i64 xd, .int .i64 xb, .slice ca cls.length cc, .slice aa acts.length ac] 28)) [(w.heap.size, #[.int .i64 xl, .int .i64 xm, .int .i64 xr, .int .i64 xd, .int .i64 xb, .slice ca cls.length cc, .slice aa acts.length ac], 28)]) := St.alloc S0.out
        go_enter Tryz.func8, Tryz.ntmps8
        go_wp2_with fail
        refine Calls.mono (C0.out _ (HE.out.kept SB.out.below)) ?_
        rintro e w1 ⟨rfl, hb1⟩
        refine St.call (SB.out) hb1 ?_
        intro S1
        clear hb1
        try (simp only [List.set_cons_zero, List.set_cons_succ, List.setIfInBounds_toArray, World.size_alloc] at S1)
        have F1 := S1.out.facts
        simp only [St.Facts, cellFacts, apartFacts, and_true] at F1
        go_wp2_with fail
        refine Calls.mono (CF.out _ (HS.out.kept S1.out.below)) ?_
        rintro e w2 ⟨rfl, hb2⟩
        refine St.call (S1.out) hb2 ?_
        intro S2
        clear hb2
        try (simp only [List.set_cons_zero, List.set_cons_succ, List.setIfInBounds_toArray, World.size_alloc] at S2)
        clear F1
        have F2 := S2.out.facts
        simp only [St.Facts, cellFacts, apartFacts, and_true] at F2
        go_upto_region 6 with (fail)
        refine St.gen (St.alloc (S2.out)) ?_
        intro w3 S3
        try (simp only [List.set_cons_zero, List.set_cons_succ, List.setIfInBounds_toArray, World.size_alloc] at S3)
        clear F2 S2
        have F3 := S3.out.facts
        simp only [St.Facts, cellFacts, apartFacts, and_true] at F3
        go_wp2_with fail
        refine Calls.mono (CB.out _ (HE.out.kept S3.out.below) (HB.out.kept S3.out.below)) ?_
        rintro e w4 ⟨rfl, hb4⟩
        refine St.call (S3.out) hb4 ?_
        intro S4
        clear hb4
        try (simp only [List.set_cons_zero, List.set_cons_succ, List.setIfInBounds_toArray, World.size_alloc] at S4)
        clear F3 CB
        generalize w2.heap.size = q at *
        go_wp2_with fail
        go_loopw [5, 7] (fun o i wr => ∃ (k : Nat) (Z : Bytes), k ≤ acts.length ∧ i = .int .i64 (k : Int) ∧ o = .string ⟨Z.toArray⟩ ∧ Hid (Z = T0 ++ actsOut (acts.take k)) ∧ Hid ((acts.take k).all Ac.right = true) ∧ Z.length ≤ 210000 ∧ Hid (St w wr [(q, #[.int .i64 xl, .int .i64 xm, .int .i64 xr, .int .i64 xd, .int .i64 xb, .slice ca cls.length cc, .slice none 0 0], 28), (w.heap.size, #[.int .i64 xl, .int .i64 xm, .int .i64 xr, .int .i64 xd, .int .i64 xb, .slice ca cls.length cc, .slice aa acts.length ac], 28)])) (fun _ i _ => acts.length - (intOf i).toNat)
        case atStart => exact ⟨0, T0, by omega, rfl, rfl, by show _ = _; simp [actsOut], by show _ = _; simp, by omega, S4.out⟩
        case round =>
          clear S4
          obtain ⟨k, Z, hk, rfl, rfl, HZ, HR, hz, SR⟩ := hrel
          have FR := SR.out.facts
          simp only [St.Facts, cellFacts, apartFacts, and_true] at FR
          by_cases hlt : k < acts.length
          · have hkl : (k : Int) < (acts.length : Int) := by omega
            have hkc : k < ac := by omega
            obtain ⟨b, o, rfl, hat⟩ := HA.out (by omega)
            obtain ⟨a, ha⟩ : ∃ a, acts[k]? = some a := ⟨acts[k], by simp [hlt]⟩
            have HAT := Lib.hid (hat.kept SR.out.below)
            have HAA := Lib.hid ha
            clear hat ha
            have T5 := Lib.hid (St.alloc SR.out (cs := #[.int .i64 0, .int .i64 0, .int .i64 0, .int .i64 0, .int .i64 0, .slice none 0 0, .slice (some ⟨b, o + k * 4, none⟩) 1 (ac - k)]) (t := 28))
            have HO := Lib.hid (one_at (HAT.out.kept ((Below.refl wr.heap.size wr).alloc (Nat.le_refl _) (.cells #[.int .i64 0, .int .i64 0, .int .i64 0, .int .i64 0, .int .i64 0, .slice none 0 0, .slice (some ⟨b, o + k * 4, none⟩) 1 (ac - k)] 28))) HAA.out (c := ac - k) (by omega))
            cases hr : a.right with
            | false =>
              go_wp2_with fail
              refine Calls.mono (CX.out a _ _ (HE.out.kept T5.out.below) HO.out hr) ?_
              rintro e w5 ⟨rfl, hb5⟩
              have S5 := Lib.hid (T5.out.kept hb5)
              clear hb5 T5 HO FR SR hr
              go_wp2_with fail
              refine Calls.mono (CZ.out _ (HE.out.kept S5.out.below)) ?_
              rintro e w6 ⟨rfl, hb6⟩
              have S6 := Lib.hid (S5.out.kept hb6)
              clear hb6 S5
              go_wp2_with fail
              go_returns
              exact ⟨rfl, S6.out.below⟩
            | true =>
              have hal := pAct_short (m := 1) hr (by omega)
              have HR2 : Hid ((acts.take (k + 1)).all Ac.right = true) := by
                show _ = _
                rw [List.take_add_one, HAA.out, Option.toList_some, List.all_append, HR.out]
                simp [hr]
              have HZ2 : Hid (Z ++ (pAct a 1 ++ [10]) = T0 ++ actsOut (acts.take (k + 1))) := by
                show _ = _
                rw [List.take_add_one, HAA.out, Option.toList_some, actsOut_snoc, HZ.out, List.append_assoc]
              go_wp2_with fail
              refine Calls.mono (CO.out a _ _ (HE.out.kept T5.out.below) HO.out hr) ?_
              rintro e w5 ⟨rfl, hb5⟩
              have S5 := Lib.hid (T5.out.kept hb5)
              obtain ⟨A, HAE⟩ : ∃ A, Hid (A = pAct a 1 ++ [10]) := ⟨pAct a 1 ++ [10], rfl⟩
              have hA : A.length ≤ 57 := by rw [HAE.out]; simp; omega
              rw [← HAE.out] at HZ2 ⊢
              clear hb5 T5 HO FR SR hr hal HAE
              go_wp2_with fail
              refine Calls.mono (CZ.out _ (HE.out.kept S5.out.below)) ?_
              rintro e w6 ⟨rfl, hb6⟩
              have S6 := Lib.hid (S5.out.kept hb6)
              have e1 := cut_front TZ A
              have HX2 := Lib.hid (cut_back Z TZ A)
              have hzz : (Z ++ A).length ≤ 210000 := by
                rw [HZ2.out, List.length_append]
                have h1 := actsOut_len (acts.take (k + 1)) HR2.out
                have h2 : (acts.take (k + 1)).length ≤ 60 := by simp; omega
                omega
              clear hb6 S5 HZ HR
              go_wp2_with fail
              go_roundw
              case rel => exact ⟨k + 1, Z ++ A, by omega, by go_num, congrArg Value.string HX2.out, HZ2.out, HR2.out, hzz, St.tail S6.out⟩
              case measure => simp [intOf]; omega
          · obtain rfl : k = acts.length := by omega
            have HRR : Hid (acts.all Ac.right = true) := by have := HR.out; rwa [List.take_length] at this
            have PZ : Hid (∀ w, Env w → Calls Tryz.prog 11 #[.string ⟨Z.toArray⟩] w fun e w' => ∃ a1 c1 a2 c2,
                e = .returned (.tuple #[.agg #[.int .i64 xl, .int .i64 xm, .int .i64 xr, .int .i64 xd, .int .i64 xb, .slice a1 cls.length c1, .slice a2 acts.length c2], .agg #[.int .i64 0, .int .i64 0]]) ∧ ScAt w' (.slice a1 cls.length c1) (.slice a2 acts.length c2) ⟨xl, xm, xr, xd, xb, cls, acts⟩ ∧ Below w.heap.size w w') := by
              show ∀ w, _
              intro w he
              have hz := HZ.out
              rw [List.take_length] at hz
              rw [hz]
              exact parse_at _ _ (PX.out HRR.out) w he
            clear HZ HR HRR PX
            go_wp2_with fail
            refine Calls.mono (PZ.out _ (HE.out.kept SR.out.below)) ?_
            rintro e w4 ⟨a2, c2, b2, d2, rfl, hsc, hb4⟩
            have T4 := Lib.hid (St.alloc (St.alloc (SR.out.kept hb4) (cs := #[.int .i64 xl, .int .i64 xm, .int .i64 xr, .int .i64 xd, .int .i64 xb, .slice a2 cls.length c2, .slice b2 acts.length d2]) (t := 28)) (cs := #[.int .i64 0, .int .i64 0]) (t := 31))
            simp only [World.size_alloc] at T4
            have hba := ((Below.refl w4.heap.size w4).alloc (Nat.le_refl _) (.cells #[.int .i64 xl, .int .i64 xm, .int .i64 xr, .int .i64 xd, .int .i64 xb, .slice a2 cls.length c2, .slice b2 acts.length d2] 28)).alloc (by simp) (.cells #[.int .i64 0, .int .i64 0] 31)
            have Y4 := Lib.hid (hsc.kept hba)
            have F4 := (SR.out.kept hb4).facts
            simp only [St.Facts, cellFacts, apartFacts, and_true] at F4
            clear hb4 hsc hba SR FR
            go_wp2_with fail
            refine Calls.mono (CS.out _ _ _ (HS.out.kept T4.out.below) Y4.out) ?_
            rintro e w6 ⟨rfl, hb6⟩
            have S6 := Lib.hid (T4.out.kept hb6)
            clear hb6 F4
            go_wp2_with fail
            go_returns
            exact ⟨rfl, S6.out.below⟩
end Go.Proofs.YtialgdnkkjmpbaaGreatDoor
