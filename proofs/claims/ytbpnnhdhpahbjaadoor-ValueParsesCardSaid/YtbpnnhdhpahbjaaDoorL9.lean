/-
  The walk of ValueParses: for every string it returns true; the memory that was there is as it was. Conditions: the package's two errors and the table of powers of ten are there.
-/
import Derived.Test.YtbpnnhdhpahbjaaDoorPlainG
namespace Go.Proofs.YtbpnnhdhpahbjaaDoor
open Go.RowKit Go.Sort

set_option maxRecDepth 100000 in
set_option maxHeartbeats 4000000 in
theorem parses_any (s : ByteArray) (w : World) (hs : s.size ≤ maxLen) (he : Errs w) (htab : Lib.TabIs Tryd.prog w "internal/strconv.uint64pow10" .u64 Lib.pow10Tab) :
    Calls Tryd.prog 9 #[.string s] w fun e w' => e = .returned (.bool true) ∧ Below w.heap.size w w' := by
  unfold maxLen at hs
  by_cases h200 : s.size ≤ 200
  · have HT := Lib.hid (Lib.tabBelow_of_tabIs htab)
    have C : Hid (∀ w, Calls Tryd.prog 12 #[] w fun e w' => e = .returned (.bool true) ∧ Below w.heap.size w w') := sanity_any
    cases hp : parseP s.data.toList with
    | some v =>
      obtain ⟨hr, hpr⟩ := parse_sound hp
      have A : Hid (∀ w', Below w.heap.size w w' → Calls Tryd.prog 40 #[.string s] w' fun e w'' => e = .returned (.tuple #[.agg #[.int .i64 v.k, .int .i64 v.n, .string v.s], .bool true]) ∧ Below w'.heap.size w' w'') := fun w' h => by
        have := parse_any s w' (by omega) (he.kept h) (HT.out w' h)
        rw [hp] at this
        exact this
      have B : Hid (∀ w, Calls Tryd.prog 41 #[.string s] w fun e w' => e = .returned (.tuple #[.agg #[.int .i64 v.k, .int .i64 v.n, .string v.s], .bool true]) ∧ Below w.heap.size w w') := fun w => by
        have := refParse_any s w (by omega)
        rw [refP_parseP, hp] at this
        exact this
      have P : Hid (∀ w', Below w.heap.size w w' → Calls Tryd.prog 29 #[.agg #[.int .i64 v.k, .int .i64 v.n, .string v.s]] w' fun e w'' => e = .returned (.string s) ∧ Below w'.heap.size w' w'') := fun w' h => by
        have := print_any v hr w' (HT.out w' h)
        rw [hpr] at this
        exact this
      have eq1 := eql_same
      have f1 : (s.toList == s.toList) = true := by simp
      clear hp hr hpr he htab HT
      go_enter Tryd.func9, Tryd.ntmps9
      go_wp2_with fail
      refine Calls.mono (A.out _ (Below.refl _ _)) ?_
      rintro e w1 ⟨rfl, hb1⟩
      refine St.call (St.start _) hb1 ?_
      intro S1
      clear hb1
      try (simp only [List.set_cons_zero, List.set_cons_succ, List.setIfInBounds_toArray, World.size_alloc] at S1)
      go_wp2_with fail
      refine Calls.mono (B.out _) ?_
      rintro e w2 ⟨rfl, hb2⟩
      refine St.call (St.alloc (S1.out)) hb2 ?_
      intro S2
      clear hb2
      try (simp only [List.set_cons_zero, List.set_cons_succ, List.setIfInBounds_toArray, World.size_alloc] at S2)
      go_wp2_with fail
      refine Calls.mono (C.out _) ?_
      rintro e w3 ⟨rfl, hb3⟩
      refine St.call (St.alloc (S2.out)) hb3 ?_
      intro S3
      clear hb3
      try (simp only [List.set_cons_zero, List.set_cons_succ, List.setIfInBounds_toArray, World.size_alloc] at S3)
      have F3 := S3.out.facts
      simp only [St.Facts, cellFacts, apartFacts, and_true] at F3
      go_wp2_with fail
      refine Calls.mono (P.out _ S3.out.below) ?_
      rintro e w4 ⟨rfl, hb4⟩
      refine St.call (S3.out) hb4 ?_
      intro S4
      clear hb4
      try (simp only [List.set_cons_zero, List.set_cons_succ, List.setIfInBounds_toArray, World.size_alloc] at S4)
      clear F3
      go_wp2_with fail
      go_returns
      exact ⟨rfl, S4.out.below⟩
    | none =>
      have A : Hid (∀ w', Below w.heap.size w w' → Calls Tryd.prog 40 #[.string s] w' fun e w'' => e = .returned (.tuple #[.agg #[.int .i64 0, .int .i64 0, .string ⟨#[]⟩], .bool false]) ∧ Below w'.heap.size w' w'') := fun w' h => by
        have := parse_any s w' (by omega) (he.kept h) (HT.out w' h)
        rw [hp] at this
        exact this
      have B : Hid (∀ w, Calls Tryd.prog 41 #[.string s] w fun e w' => e = .returned (.tuple #[.agg #[.int .i64 0, .int .i64 0, .string ⟨#[]⟩], .bool false]) ∧ Below w.heap.size w w') := fun w => by
        have := refParse_any s w (by omega)
        rw [refP_parseP, hp] at this
        exact this
      have eq1 := eql_same
      clear hp he htab HT
      go_enter Tryd.func9, Tryd.ntmps9
      go_wp2_with fail
      refine Calls.mono (A.out _ (Below.refl _ _)) ?_
      rintro e w1 ⟨rfl, hb1⟩
      refine St.call (St.start _) hb1 ?_
      intro S1
      clear hb1
      try (simp only [List.set_cons_zero, List.set_cons_succ, List.setIfInBounds_toArray, World.size_alloc] at S1)
      go_wp2_with fail
      refine Calls.mono (B.out _) ?_
      rintro e w2 ⟨rfl, hb2⟩
      refine St.call (St.alloc (S1.out)) hb2 ?_
      intro S2
      clear hb2
      try (simp only [List.set_cons_zero, List.set_cons_succ, List.setIfInBounds_toArray, World.size_alloc] at S2)
      go_wp2_with fail
      refine Calls.mono (C.out _) ?_
      rintro e w3 ⟨rfl, hb3⟩
      refine St.call (St.alloc (S2.out)) hb3 ?_
      intro S3
      clear hb3
      try (simp only [List.set_cons_zero, List.set_cons_succ, List.setIfInBounds_toArray, World.size_alloc] at S3)
      have F3 := S3.out.facts
      simp only [St.Facts, cellFacts, apartFacts, and_true] at F3
      go_wp2_with fail
      go_returns
      exact ⟨rfl, S3.out.below⟩
  · clear he htab
    go_enter Tryd.func9, Tryd.ntmps9
    go_wp2_with fail
    refine Calls.mono (sanity_any _) ?_
    rintro e w1 ⟨rfl, hb1⟩
    refine St.call (St.start _) hb1 ?_
    intro S1
    clear hb1
    try (simp only [List.set_cons_zero, List.set_cons_succ, List.setIfInBounds_toArray, World.size_alloc] at S1)
    go_wp2_with fail
    go_returns
    exact ⟨rfl, S1.out.below⟩
end Go.Proofs.YtbpnnhdhpahbjaaDoor
