/-
  The walk of the law ScriptParsedIsPrinted. Conditions: the variables of the program's text are there. The memory that was there is as it was.
-/
import Derived.Test.YtialgdnkkjmpbaaGreatDoorXd
namespace Go.Proofs.YtialgdnkkjmpbaaGreatDoor
open Go.RowKit Go.Sort

theorem zero_modest : Modest Sc.zero := ⟨by decide, by decide, by decide⟩
theorem formed_modest {x : Sc} (h : x.formed = true) : Modest x := by
  have f := formedX h
  exact ⟨by have := f.cn; omega, by have := f.an; omega, fun c hc => by have := (f.c c hc).2; omega⟩
theorem printed_ok {x : Sc} (h : x.formed = true) (hl : (text x).length ≤ 200000) : printed x = (text x, 0) := by
  unfold printed; rw [if_pos h, if_neg (by omega)]
set_option maxRecDepth 100000 in
set_option maxHeartbeats 8000000 in
theorem law6 (t : Bytes) (w : World) (he : Env w) : Calls Tryz.prog 6 #[.string ⟨t.toArray⟩] w fun e w' => e = .returned (.bool true) ∧ Below w.heap.size w w' := by
  have HE := Lib.hid he
  have C0 := Lib.hid (fun w he => sanity_any w he)
  have S0 : Hid (St w w []) := St.start w
  clear he
  by_cases hbig : 3000 < t.length
  · have g1 : (3000 : Int) < (t.length : Int) := by omega
    go_enter Tryz.func6, Tryz.ntmps6
    go_wp2_with fail
    refine Calls.mono (C0.out _ HE.out) ?_
    rintro e w1 ⟨rfl, hb1⟩
    refine St.call (S0.out) hb1 ?_
    intro S1
    clear hb1
    try (simp only [List.set_cons_zero, List.set_cons_succ, List.setIfInBounds_toArray, World.size_alloc] at S1)
    go_wp2_with fail
    go_returns
    exact ⟨rfl, S1.out.below⟩
  · have g1 : ¬ (3000 : Int) < (t.length : Int) := by omega
    have g2 : t.length ≤ 3000 := by omega
    have CN := Lib.hid (fun w => newlines_any ⟨t.toArray⟩ (by show t.toArray.size ≤ _; simp; omega) w)
    rw [show (⟨t.toArray⟩ : ByteArray).data.toList = t from rfl] at CN
    clear hbig
    rcases parse_back t with ⟨e0, he0, k, hk, hp⟩ | ⟨x, hp, hf, hlen, hl2, hnl⟩
    · have P := Lib.hid (fun w he => parse_at t _ hp w he)
      simp only [Sc.zero, List.length_nil] at P
      have q1 : (e0 != 0) = true := by simpa using he0
      have q2 : (0 : Int) ≤ (k : Int) := by omega
      have q3 : (k : Int) ≤ ((nlc t : Nat) : Int) := by unfold nlc; omega
      have q4 : k ≤ nlc t := hk
      clear hp he0 hk
      generalize nlc t = nn at *
      go_enter Tryz.func6, Tryz.ntmps6
      go_wp2_with fail
      refine Calls.mono (C0.out _ HE.out) ?_
      rintro e w1 ⟨rfl, hb1⟩
      refine St.call (S0.out) hb1 ?_
      intro S1
      clear hb1
      try (simp only [List.set_cons_zero, List.set_cons_succ, List.setIfInBounds_toArray, World.size_alloc] at S1)
      go_wp2_with fail
      refine Calls.mono (P.out _ (HE.out.kept S1.out.below)) ?_
      rintro e w2 ⟨za, zc, zb, zd, rfl, hsc, hb2⟩
      have T2 := Lib.hid (St.alloc (St.alloc (S1.out.kept hb2) (cs := #[.int .i64 0, .int .i64 0, .int .i64 0, .int .i64 0, .int .i64 0, .slice za 0 zc, .slice zb 0 zd]) (t := 28)) (cs := #[.int .i64 (k : Int), .int .i64 e0]) (t := 31))
      simp only [World.size_alloc] at T2
      have V2 := Lib.hid (hsc.kept (((Below.refl w2.heap.size w2).alloc (Nat.le_refl _) (.cells #[.int .i64 0, .int .i64 0, .int .i64 0, .int .i64 0, .int .i64 0, .slice za 0 zc, .slice zb 0 zd] 28)).alloc (by simp) (.cells #[.int .i64 (k : Int), .int .i64 e0] 31)))
      clear hb2 hsc S1
      go_wp2_with fail
      obtain ⟨W, HW⟩ : ∃ W, Hid (W = (w2.alloc (.cells #[.int .i64 0, .int .i64 0, .int .i64 0, .int .i64 0, .int .i64 0, .slice za 0 zc, .slice zb 0 zd] 28)).alloc (.cells #[.int .i64 (k : Int), .int .i64 e0] 31)) := ⟨_, rfl⟩
      rw [← HW.out] at T2 V2 ⊢
      clear HW
      have F2 := T2.out.facts
      simp only [St.Facts, cellFacts, apartFacts, and_true] at F2
      obtain ⟨_, ⟨a0, a1⟩, _, _, b0, b1, b2, b3, b4, b5, b6⟩ := F2
      have y0 : ∀ p : TurnW (fun _ => False) W, p.w.cell? ⟨w2.heap.size + 1, 0, none⟩ = some (.int .i64 (k : Int)) := fun p => turnW_cell' p a0.1
      have z0 : ∀ p : TurnW (fun _ => False) W, p.w.cell? ⟨w2.heap.size, 0, none⟩ = some (.int .i64 0) := fun p => turnW_cell' p b0.1
      have z1 : ∀ p : TurnW (fun _ => False) W, p.w.cell? ⟨w2.heap.size, 1, none⟩ = some (.int .i64 0) := fun p => turnW_cell' p b1.1
      have z2 : ∀ p : TurnW (fun _ => False) W, p.w.cell? ⟨w2.heap.size, 2, none⟩ = some (.int .i64 0) := fun p => turnW_cell' p b2.1
      have z3 : ∀ p : TurnW (fun _ => False) W, p.w.cell? ⟨w2.heap.size, 3, none⟩ = some (.int .i64 0) := fun p => turnW_cell' p b3.1
      have z4 : ∀ p : TurnW (fun _ => False) W, p.w.cell? ⟨w2.heap.size, 4, none⟩ = some (.int .i64 0) := fun p => turnW_cell' p b4.1
      have z5 : ∀ p : TurnW (fun _ => False) W, p.w.cell? ⟨w2.heap.size, 5, none⟩ = some (.slice za 0 zc) := fun p => turnW_cell' p b5.1
      have z6 : ∀ p : TurnW (fun _ => False) W, p.w.cell? ⟨w2.heap.size, 6, none⟩ = some (.slice zb 0 zd) := fun p => turnW_cell' p b6.1
      have CS : Hid (∀ p : TurnW (fun _ => False) W, Calls Tryz.prog 13 #[.agg #[.int .i64 0, .int .i64 0, .int .i64 0, .int .i64 0, .int .i64 0, .slice za 0 zc, .slice zb 0 zd], .agg #[.int .i64 0, .int .i64 0, .int .i64 0, .int .i64 0, .int .i64 0, .slice none 0 0, .slice none 0 0]] p.w fun e w' => e = .returned (.bool true) ∧ Laid p.w w') :=
        fun p => same_same Sc.zero _ _ _ _ p.w (V2.out.kept p.h.below) (scAt_zero _) zero_modest
      have CN' : Hid (∀ p : TurnW (fun _ => False) W, Calls Tryz.prog 16 #[.string ⟨t.toArray⟩] p.w fun e w' => e = .returned (.int .i64 (nn : Int)) ∧ Laid p.w w') :=
        fun p => (CN.out p.w).mono (by rintro e w' ⟨rfl, rfl⟩; exact ⟨rfl, Below.refl _ _⟩)
      clear a0 a1 b0 b1 b2 b3 b4 b5 b6 CN V2
      refine wp_region_mixedT (fun _ => False) 18 [(0, false), (1, false), (2, false), (3, false), (4, false), (5, false), (6, false), (7, false), (8, false), (9, false), (10, false), (11, false), (12, false), (13, false), (14, false), (15, false), (16, false), (17, false)] (by kernel_rfl) (by kernel_rfl) ?_
      repeat (refine wpM_mildT rfl (fun K hK => ?_); go_simp; first | (refine hK _ ?_; clear hK K) | (apply Exists.intro; refine ⟨fun _ => ?_, hK _ ?_⟩; (first | (with_reducible exact CS.out _) | (with_reducible exact CN'.out _)); clear hK K))
      refine wpM_tailT ?_
      intro w5 hb5 _
      have S5 := Lib.hid (T2.out.kept hb5)
      clear hb5 y0 z0 z1 z2 z3 z4 z5 z6
      simp only [List.drop_succ_cons, List.drop_zero]
      go_wp2_with fail
      go_returns
      exact ⟨rfl, S5.out.below⟩
    · have P := Lib.hid (fun w he => parse_at t _ hp w he)
      have P2 := Lib.hid (fun w he => parse_at (text x) _ (parse_text x hf hl2) w he)
      have hm := formed_modest hf
      have CP := Lib.hid (fun cv av w he h => print_any x cv av w he h hm (fun _ => by omega))
      rw [printed_ok hf hl2] at CP
      unfold PrintRes at CP
      have CS := Lib.hid (fun cv av cv' av' w h h' => same_same x cv av cv' av' w h h' hm)
      have CT := Lib.hid (fun w => newlines_any ⟨(text x).toArray⟩ (by show (text x).toArray.size ≤ _; simp; omega) w)
      rw [show (⟨(text x).toArray⟩ : ByteArray).data.toList = text x from rfl] at CT
      have q1 : ((nlc (text x) : Nat) : Int) ≤ ((nlc t : Nat) : Int) := by unfold nlc; omega
      have q2 : nlc (text x) ≤ nlc t := hnl
      have q3 : ((text x).length : Int) ≤ (t.length : Int) := by omega
      simp only [scVal] at CP CS
      clear hp hf hm hnl
      obtain ⟨xl, xm, xr, xd, xb, cls, acts⟩ := x
      simp only at *
      generalize text ⟨xl, xm, xr, xd, xb, cls, acts⟩ = tx at *
      generalize nlc t = nn at *
      generalize nlc tx = nx at *
      go_enter Tryz.func6, Tryz.ntmps6
      go_wp2_with fail
      refine Calls.mono (C0.out _ HE.out) ?_
      rintro e w1 ⟨rfl, hb1⟩
      refine St.call (S0.out) hb1 ?_
      intro S1
      clear hb1
      try (simp only [List.set_cons_zero, List.set_cons_succ, List.setIfInBounds_toArray, World.size_alloc] at S1)
      go_wp2_with fail
      refine Calls.mono (P.out _ (HE.out.kept S1.out.below)) ?_
      rintro e w2 ⟨a1, c1, b1, d1, rfl, hsc, hb2⟩
      have T2 := Lib.hid (St.alloc (St.alloc (S1.out.kept hb2) (cs := #[.int .i64 xl, .int .i64 xm, .int .i64 xr, .int .i64 xd, .int .i64 xb, .slice a1 cls.length c1, .slice b1 acts.length d1]) (t := 28)) (cs := #[.int .i64 0, .int .i64 0]) (t := 31))
      simp only [World.size_alloc] at T2
      have V2 := Lib.hid (hsc.kept (((Below.refl w2.heap.size w2).alloc (Nat.le_refl _) (.cells #[.int .i64 xl, .int .i64 xm, .int .i64 xr, .int .i64 xd, .int .i64 xb, .slice a1 cls.length c1, .slice b1 acts.length d1] 28)).alloc (by simp) (.cells #[.int .i64 0, .int .i64 0] 31)))
      clear hb2 hsc S1
      go_wp2_with fail
      refine Calls.mono (CP.out _ _ _ (HE.out.kept T2.out.below) V2.out) ?_
      rintro e w3 ⟨rfl, hb3⟩
      have S3 := Lib.hid (T2.out.kept hb3)
      have V3 := Lib.hid (V2.out.kept hb3)
      clear hb3 T2 V2
      go_wp2_with fail
      refine Calls.mono (P2.out _ (HE.out.kept S3.out.below)) ?_
      rintro e w4 ⟨a2, c2, b2, d2, rfl, hsc, hb4⟩
      have T4 := Lib.hid (St.alloc (St.alloc (S3.out.kept hb4) (cs := #[.int .i64 xl, .int .i64 xm, .int .i64 xr, .int .i64 xd, .int .i64 xb, .slice a2 cls.length c2, .slice b2 acts.length d2]) (t := 28)) (cs := #[.int .i64 0, .int .i64 0]) (t := 31))
      simp only [World.size_alloc] at T4
      have hba := ((Below.refl w4.heap.size w4).alloc (Nat.le_refl _) (.cells #[.int .i64 xl, .int .i64 xm, .int .i64 xr, .int .i64 xd, .int .i64 xb, .slice a2 cls.length c2, .slice b2 acts.length d2] 28)).alloc (by simp) (.cells #[.int .i64 0, .int .i64 0] 31)
      have X4 := Lib.hid ((V3.out.kept hb4).kept hba)
      have Y4 := Lib.hid (hsc.kept hba)
      clear hb4 hsc hba S3 V3
      go_wp2_with fail
      refine Calls.mono (CP.out _ _ _ (HE.out.kept T4.out.below) Y4.out) ?_
      rintro e w5 ⟨rfl, hb5⟩
      have S5 := Lib.hid (T4.out.kept hb5)
      have X5 := Lib.hid (X4.out.kept hb5)
      have Y5 := Lib.hid (Y4.out.kept hb5)
      clear hb5 T4 X4 Y4
      have F5 := S5.out.facts
      simp only [St.Facts, cellFacts, apartFacts, and_true] at F5
      go_wp2_with fail
      refine Calls.mono (CS.out _ _ _ _ _ X5.out Y5.out) ?_
      rintro e w6 ⟨rfl, hb6⟩
      have S6 := Lib.hid (S5.out.kept hb6)
      clear hb6 F5 S5
      go_wp2_with fail
      refine Calls.mono (CT.out _) ?_
      rintro e w7 ⟨rfl, rfl⟩
      go_wp2_with fail
      refine Calls.mono (CN.out _) ?_
      rintro e w7 ⟨rfl, rfl⟩
      go_wp2_with fail
      go_returns
      exact ⟨rfl, S6.out.below⟩
end Go.Proofs.YtialgdnkkjmpbaaGreatDoor
