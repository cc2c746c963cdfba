/-
  The walk of ValuePrints: for every value it returns true; the memory that was there is as it was. Conditions: the package's two errors and the table of powers of ten are there.
-/
import Derived.Test.YtbpnnhdhpahbjaaDoorPlainP
namespace Go.Proofs.YtbpnnhdhpahbjaaDoor
open Go.RowKit Go.Sort

theorem print_len (v : V) (h : v.right = true) : v.print.length ≤ 200 := by
  obtain ⟨k, n, s⟩ := v
  rcases right_cases h with h1 | h1 | h1 | h1
  · obtain ⟨e1, e2, e3⟩ := h1; simp only at e1 e2 e3; subst e1 e2 e3; decide
  · obtain ⟨e1, e2, e3, e4⟩ := h1; simp only at e1 e2 e3 e4; subst e1 e2
    show (Lib.itoa n).length ≤ 200
    unfold Lib.itoa
    split
    · have := decLen n.natAbs (by omega); simp; omega
    · have := decLen n.toNat (by omega); omega
  · obtain ⟨e1, e2, e3⟩ := h1; simp only at e1 e2 e3; subst e1 e2
    have h2 := escLen s s.size
    have h3 := esc_all s
    have h4 := congrArg List.length h3
    simp at h4
    show (printText s).length ≤ 200
    omega
  · obtain ⟨e1, e2, e3⟩ := h1; simp only at e1 e2 e3; subst e1 e3
    rcases e2 with rfl | rfl
    · show (Lib.formatBool false).length ≤ 200; decide
    · show (Lib.formatBool true).length ≤ 200; decide

set_option maxRecDepth 100000 in
set_option maxHeartbeats 4000000 in
theorem prints_any (v : V) (w : World) (he : Errs w) (htab : Lib.TabIs Tryd.prog w "internal/strconv.uint64pow10" .u64 Lib.pow10Tab) :
    Calls Tryd.prog 10 #[v.val] w fun e w' => e = .returned (.bool true) ∧ Below w.heap.size w w' := by
  have R := Lib.hid (fun w => refRight_any v w)
  cases hr : v.right
  · rw [hr] at R
    clear hr he htab
    unfold V.val
    go_enter Tryd.func10, Tryd.ntmps10
    go_wp2_with fail
    refine Calls.mono (R.out _) ?_
    rintro e w1 ⟨rfl, hb1⟩
    refine St.call (St.alloc (St.start _)) hb1 ?_
    intro S1
    clear hb1
    try (simp only [List.set_cons_zero, List.set_cons_succ, List.setIfInBounds_toArray, World.size_alloc] at S1)
    go_wp2_with fail
    refine Calls.mono (sanity_any _) ?_
    rintro e w2 ⟨rfl, hb2⟩
    refine St.call (S1.out) hb2 ?_
    intro S2
    clear hb2
    try (simp only [List.set_cons_zero, List.set_cons_succ, List.setIfInBounds_toArray, World.size_alloc] at S2)
    go_wp2_with fail
    go_returns
    exact ⟨rfl, S2.out.below⟩
  · rw [hr] at R
    have HT := Lib.hid (Lib.tabBelow_of_tabIs htab)
    have P1 : Hid (∀ w', Below w.heap.size w w' → Calls Tryd.prog 29 #[v.val] w' fun e w'' => e = .returned (.string ⟨v.print.toArray⟩) ∧ Below w'.heap.size w' w'') := fun w' h => print_any v hr w' (HT.out w' h)
    obtain ⟨s, hs⟩ : ∃ s : ByteArray, s = ⟨v.print.toArray⟩ := ⟨_, rfl⟩
    have hsl : s.data.toList = v.print := by rw [hs]
    have hsz : s.size ≤ 200 := by
      have h1 := print_len v hr
      rw [← hsl] at h1
      have : s.data.toList.length = s.size := Array.length_toList
      omega
    have P2 : Hid (∀ w', Below w.heap.size w w' → Calls Tryd.prog 40 #[.string s] w' fun e w'' => e = .returned (.tuple #[.agg #[.int .i64 v.k, .int .i64 v.n, .string v.s], .bool true]) ∧ Below w'.heap.size w' w'') := fun w' h => by
      have := parse_any s w' (by omega) (he.kept h) (HT.out w' h)
      rw [hsl, parse_print v hr] at this
      exact this
    have HC : Hid (∀ (i : Nat) (h : i < s.size), 32 ≤ s[i].toNat ∧ s[i].toNat ≤ 126) := fun i h => print_all v hr s[i] (by rw [← hsl]; exact Array.getElem_mem_toList (xs := s.data) h)
    rw [← hs] at P1
    clear hr he htab hs hsl HT
    unfold V.val at *
    go_enter Tryd.func10, Tryd.ntmps10
    go_wp2_with fail
    refine Calls.mono (R.out _) ?_
    rintro e w1 ⟨rfl, hb1⟩
    refine St.call (St.alloc (St.start _)) hb1 ?_
    intro S1
    clear hb1
    try (simp only [List.set_cons_zero, List.set_cons_succ, List.setIfInBounds_toArray, World.size_alloc] at S1)
    have F1 := S1.out.facts
    simp only [St.Facts, cellFacts, apartFacts, and_true] at F1
    go_wp2_with fail
    refine Calls.mono (P1.out _ S1.out.below) ?_
    rintro e w2 ⟨rfl, hb2⟩
    refine St.call (S1.out) hb2 ?_
    intro S2
    clear hb2
    try (simp only [List.set_cons_zero, List.set_cons_succ, List.setIfInBounds_toArray, World.size_alloc] at S2)
    clear F1
    have F2 := S2.out.facts
    simp only [St.Facts, cellFacts, apartFacts, and_true] at F2
    go_wp2_with fail
    go_loop [4] (fun i => ∃ k : Nat, k ≤ s.size ∧ i = .int .i64 k) (fun i => s.size - (intOf i).toNat)
    case atStart => exact ⟨0, by omega, rfl⟩
    case round =>
      obtain ⟨k, hk, rfl⟩ := hrel
      by_cases hlt : k < s.size
      · obtain ⟨c1, c2⟩ := HC.out k hlt
        go_wp2_with fail
        go_round
        case rel => exact ⟨k + 1, by omega, by go_num⟩
        case measure => simp [intOf]; omega
      · go_wp2_with fail
        refine Calls.mono (P2.out _ S2.out.below) ?_
        rintro e w3 ⟨rfl, hb3⟩
        refine St.call (S2.out) hb3 ?_
        intro S3
        clear hb3
        try (simp only [List.set_cons_zero, List.set_cons_succ, List.setIfInBounds_toArray, World.size_alloc] at S3)
        clear F2
        have F3 := S3.out.facts
        simp only [St.Facts, cellFacts, apartFacts, and_true] at F3
        go_wp2_with fail
        refine Calls.mono (sanity_any _) ?_
        rintro e w4 ⟨rfl, hb4⟩
        refine St.call (St.alloc (S3.out)) hb4 ?_
        intro S4
        clear hb4
        try (simp only [List.set_cons_zero, List.set_cons_succ, List.setIfInBounds_toArray, World.size_alloc] at S4)
        clear F3
        have F4 := S4.out.facts
        simp only [St.Facts, cellFacts, apartFacts, and_true] at F4
        have eq1 := eql_same
        go_wp2_with fail
        go_returns
        exact ⟨rfl, S4.out.below⟩
end Go.Proofs.YtbpnnhdhpahbjaaDoor
