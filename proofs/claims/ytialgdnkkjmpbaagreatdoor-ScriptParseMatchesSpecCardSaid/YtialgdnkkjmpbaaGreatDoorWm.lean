/-
  Walks: which acts and scripts are well-formed: isAct, isFormed of the package script. Conditions: the variables of the program's text are there. The memory that was there is as it was.
-/
import Derived.Test.YtialgdnkkjmpbaaGreatDoorWk
import Derived.Test.YtialgdnkkjmpbaaGreatDoorWl
namespace Go.Proofs.YtialgdnkkjmpbaaGreatDoor
open Go.RowKit Go.Sort

def acVal (x : Ac) : Value := .agg #[.int .i64 x.k, .int .i64 x.a, .int .i64 x.b, .int .i64 x.c]
theorem fields_any (x : Ac) (w : World) : Calls Tryz.prog 28 #[acVal x] w fun e w' => e = .returned (.slice (some ⟨w.heap.size + 1, 0, none⟩) 3 3) ∧ w' = (w.alloc (.cells #[.int .i64 x.k, .int .i64 x.a, .int .i64 x.b, .int .i64 x.c] 67)).alloc (.cells #[.int .i64 x.a, .int .i64 x.b, .int .i64 x.c] 3) := by
  unfold acVal
  go_enter Tryz.func28, Tryz.ntmps28
  go_wp2
  go_returns
  exact ⟨rfl, rfl⟩
theorem fields_at (x : Ac) (w : World) : Calls Tryz.prog 28 #[acVal x] w fun e w' => ∃ b, e = .returned (.slice (some ⟨b, 0, none⟩) 3 3) ∧ w.heap.size ≤ b ∧ w'.heap[b]? = some (.cells (zvals [x.a, x.b, x.c]).toArray 3 (0, 0)) ∧ Below w.heap.size w w' :=
  (fields_any x w).mono (by
    rintro e w' ⟨rfl, rfl⟩
    refine ⟨_, rfl, by omega, ?_, by go_grown⟩
    have := World.alloc_heap_new (w.alloc (.cells #[.int .i64 x.k, .int .i64 x.a, .int .i64 x.b, .int .i64 x.c] 67)) (.cells #[.int .i64 x.a, .int .i64 x.b, .int .i64 x.c] 3)
    rw [World.size_alloc] at this
    exact this)
theorem isAct1_pred (w : World) : PredAt Tryz.prog 59 #[] (fun n : Int => .int .i64 n) (fun n => n != 0) w := fun W n hb => by
  unfold FnGives
  go_enter Tryz.func59, Tryz.ntmps59
  go_wp2
  go_returns
  exact ⟨rfl, 0, rfl⟩
theorem anyNot0_all (l : List Int) : l.any (fun n => n != 0) = !l.all (· == 0) := by
  induction l with
  | nil => rfl
  | cons a l ih => simp only [List.any_cons, List.all_cons, ih, Bool.not_and]; rfl
theorem contains0 (v : Value) (l : List Int) (w : World) (h : SlAt w v l.length (zvals l)) (hl : l.length ≤ 1000000) :
    Calls Tryz.prog 58 #[v, .func (.func 59) #[] #[]] w fun e w' => e = .returned (.bool (!l.all (· == 0))) ∧ Below w.heap.size w w' := by
  obtain ⟨a, cap, rfl, hc, hcells⟩ := h
  by_cases h0 : 0 < l.length
  · obtain ⟨b, o, rfl, hat⟩ := hcells h0
    refine (Tryz.slices_ContainsFunc_f58 (fun n : Int => .int .i64 n) (fun n => n != 0) 59 #[] (enters_of Tryz.func59 (by kernel_rfl) rfl) b o l.length cap l w (isAct1_pred w) (Nat.le_refl _) (by omega) (fun j hj => ?_)).mono ?_
    · exact hat j _ (by simp [zvals, hj])
    · rintro e w' ⟨rfl, q, rfl⟩
      refine ⟨?_, Below.drewN _ _ _⟩
      rw [List.take_length, anyNot0_all]
  · have : l = [] := List.eq_nil_of_length_eq_zero (by omega)
    subst this
    refine (Tryz.slices_ContainsFunc_empty_f58 (α := Int) a cap _ w).mono ?_
    rintro e w' ⟨rfl, rfl⟩
    exact ⟨rfl, Below.refl _ _⟩
theorem right_eq {x : Ac} (h1 : 1 ≤ x.k) (h2 : x.k ≤ 12) : x.right = (([x.a, x.b, x.c].all isW) && ([x.a, x.b, x.c].drop (formN x.k.toNat)).all (· == 0)) := by
  unfold Ac.right
  simp [h1, h2, Bool.and_assoc]
theorem slAt_drop {w : World} {b o n cap : Nat} {cs : List Value} (k : Nat) (hk : k ≤ n) (hcap : n ≤ cap) (h : CellsAt w b o cs) (ho : k < cap) : SlAt w (.slice (some ⟨b, o + k, none⟩) (n - k) (cap - k)) (n - k) (cs.drop k) :=
  ⟨_, cap - k, rfl, by omega, fun _ => ⟨b, o + k, rfl, fun j u hu => by rw [Nat.add_assoc]; exact h (k + j) u (by simpa using hu)⟩⟩
set_option maxRecDepth 100000 in
set_option maxHeartbeats 2000000 in
theorem isAct_any (x : Ac) (w : World) (he : Env w) : Calls Tryz.prog 36 #[acVal x] w fun e w' => e = .returned (.bool x.right) ∧ Below w.heap.size w w' := by
  by_cases h1 : 1 ≤ x.k
  · by_cases h2 : x.k ≤ 12
    · obtain ⟨k, hk⟩ : ∃ k : Nat, x.k = (k : Int) := ⟨x.k.toNat, by omega⟩
      obtain ⟨xk, xa, xb, xc⟩ := x
      simp only at hk h1 h2
      subst hk
      have hk1 : 1 ≤ k := by omega
      have hk2 : k ≤ 12 := by omega
      have HR := Lib.hid (right_eq (x := ⟨(k : Int), xa, xb, xc⟩) h1 h2)
      simp only [Int.toNat_natCast] at HR
      have hn3 : formN k ≤ 3 := (form_fact k hk1 hk2).2.2.2.2.1
      have HG := Lib.hid (fun (w : World) (he : Env w) => formN_cell he k hk2)
      have C1 := Lib.hid (fields_at ⟨(k : Int), xa, xb, xc⟩)
      have C2 := Lib.hid (fun v w h => isWord_any v [xa, xb, xc] w h (by simp))
      have C3 := Lib.hid (fun v w h => contains0 v ([xa, xb, xc].drop (formN k)) w h (by simp; omega))
      have HE := Lib.hid he
      generalize formN k = n at *
      obtain ⟨b1, hb1⟩ : ∃ b, [xa, xb, xc].all isW = b := ⟨_, rfl⟩
      rw [hb1] at C2 HR
      obtain ⟨b2, hb2⟩ : ∃ b, ([xa, xb, xc].drop n).all (· == 0) = b := ⟨_, rfl⟩
      rw [hb2] at C3 HR
      have S0 : Hid (St w w []) := St.start w
      clear he hb1 hb2
      unfold acVal at C1 ⊢
      cases b1 with
      | false =>
        go_enter Tryz.func36, Tryz.ntmps36
        go_wp2_with fail
        refine Calls.mono (C1.out _) ?_
        rintro e w1 ⟨b, rfl, hbs, hbk, hb1⟩
        have HBK := Lib.hid hbk
        refine St.call (St.alloc (S0.out)) hb1 ?_
        intro S1
        clear hb1
        try (simp only [List.set_cons_zero, List.set_cons_succ, List.setIfInBounds_toArray, World.size_alloc] at S1)
        have F1 := S1.out.facts
        simp only [St.Facts, cellFacts, apartFacts, and_true] at F1
        clear hbk
        have g0 : w1.cell? ⟨0, k * 2 + 1, none⟩ = some (.int .i64 (n : Int)) := HG.out w1 (HE.out.kept S1.out.below)
        go_wp2_with fail
        refine Calls.mono (C2.out _ _ (slAt_blk HBK.out 3 3 (Nat.le_refl _))) ?_
        rintro e w2 ⟨rfl, hb2⟩
        refine St.call (S1.out) hb2 ?_
        intro S2
        clear hb2
        try (simp only [List.set_cons_zero, List.set_cons_succ, List.setIfInBounds_toArray, World.size_alloc] at S2)
        clear F1 g0
        go_wp2_with fail
        go_returns
        exact ⟨ret_bool HR.out.symm, S2.out.below⟩
      | true =>
        go_enter Tryz.func36, Tryz.ntmps36
        go_wp2_with fail
        refine Calls.mono (C1.out _) ?_
        rintro e w1 ⟨b, rfl, hbs, hbk, hb1⟩
        have HBK := Lib.hid hbk
        refine St.call (St.alloc (S0.out)) hb1 ?_
        intro S1
        clear hb1
        try (simp only [List.set_cons_zero, List.set_cons_succ, List.setIfInBounds_toArray, World.size_alloc] at S1)
        have F1 := S1.out.facts
        simp only [St.Facts, cellFacts, apartFacts, and_true] at F1
        clear hbk
        have g0 : w1.cell? ⟨0, k * 2 + 1, none⟩ = some (.int .i64 (n : Int)) := HG.out w1 (HE.out.kept S1.out.below)
        go_wp2_with fail
        refine Calls.mono (C2.out _ _ (slAt_blk HBK.out 3 3 (Nat.le_refl _))) ?_
        rintro e w2 ⟨rfl, hb2⟩
        have HBK2 := Lib.hid (hb2.blk_kept HBK.out)
        refine St.call (S1.out) hb2 ?_
        intro S2
        clear hb2
        try (simp only [List.set_cons_zero, List.set_cons_succ, List.setIfInBounds_toArray, World.size_alloc] at S2)
        clear F1 g0
        have hsl : ∀ o2 c2, (n < 3 → o2 = n ∧ c2 = 3 - n) → (n = 3 → c2 = 0) → SlAt w2 (.slice (some ⟨b, o2, none⟩) (3 - n) c2) ([xa, xb, xc].drop n).length (zvals ([xa, xb, xc].drop n)) := by
          intro o2 c2 h1 h2
          have hl : ([xa, xb, xc].drop n).length = 3 - n := by simp
          rw [hl]
          by_cases hn : n = 3
          · have := h2 hn; subst this; exact ⟨_, 0, rfl, by omega, fun h => by omega⟩
          · obtain ⟨rfl, rfl⟩ := h1 (by omega)
            refine ⟨_, 3 - o2, rfl, Nat.le_refl _, fun _ => ⟨b, o2, rfl, fun j u hu => ?_⟩⟩
            simp only [World.cell?, HBK2.out]
            simp only [zvals, List.map_drop, List.getElem?_drop] at hu
            simpa [zvals] using hu
        have HSL := Lib.hid hsl
        clear hsl
        by_cases hn : n = 3
        · subst hn
          go_wp2_with fail
          refine Calls.mono (C3.out _ _ (HSL.out _ _ (fun h => by omega) (fun _ => rfl))) ?_
          rintro e w3 ⟨rfl, hb3⟩
          refine St.call (S2.out) hb3 ?_
          intro S3
          clear hb3
          try (simp only [List.set_cons_zero, List.set_cons_succ, List.setIfInBounds_toArray, World.size_alloc] at S3)
          go_wp2_with fail
          go_returns
          exact ⟨ret_bool (by rw [HR.out]; simp), S3.out.below⟩
        · go_wp2_with fail
          refine Calls.mono (C3.out _ _ (HSL.out _ _ (fun _ => ⟨rfl, rfl⟩) (fun h => by omega))) ?_
          rintro e w3 ⟨rfl, hb3⟩
          refine St.call (S2.out) hb3 ?_
          intro S3
          clear hb3
          try (simp only [List.set_cons_zero, List.set_cons_succ, List.setIfInBounds_toArray, World.size_alloc] at S3)
          go_wp2_with fail
          go_returns
          exact ⟨ret_bool (by rw [HR.out]; simp), S3.out.below⟩
    · have HR : Hid (x.right = false) := by show _ = _; unfold Ac.right; simp [h2]
      obtain ⟨xk, xa, xb, xc⟩ := x
      simp only at h1 h2
      unfold acVal
      have t1 : decide (xk < 1) = false := by simp; omega
      have t2 : decide (12 < xk) = true := by simp; omega
      clear h1 h2
      go_enter Tryz.func36, Tryz.ntmps36
      go_wp2_with fail
      go_returns
      exact ⟨ret_bool HR.out.symm, by go_grown⟩
  · have HR : Hid (x.right = false) := by show _ = _; unfold Ac.right; simp [h1]
    obtain ⟨xk, xa, xb, xc⟩ := x
    simp only at h1
    unfold acVal
    have t1 : decide (xk < 1) = true := by simp; omega
    clear h1
    go_enter Tryz.func36, Tryz.ntmps36
    go_wp2_with fail
    go_returns
    exact ⟨ret_bool HR.out.symm, by go_grown⟩
end Go.Proofs.YtialgdnkkjmpbaaGreatDoor
