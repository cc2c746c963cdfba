/-
  Walks: slices.Compare at integers, CompareKeys of both. For lists of at most a million integers; the memory that was there is as it was.
-/
import Derived.Test.YtbpnnhdhpahbjaaDoorWr
namespace Go.Proofs.YtbpnnhdhpahbjaaDoor
open Go.RowKit Go.Sort

/-- P19.5: lists of integers are compared integer by integer. -/
def cmpInts : List Int → List Int → Int
  | [], [] => 0
  | [], _ :: _ => -1
  | _ :: _, [] => 1
  | a :: x, b :: y => if a = b then cmpInts x y else cmpI a b
theorem dropI {l : List Int} {k : Nat} {v : Int} (h : l[k]? = some v) : l.drop k = v :: l.drop (k + 1) := by
  obtain ⟨hk, e⟩ := List.getElem?_eq_some_iff.1 h
  rw [← e, List.getElem_cons_drop]
theorem cmpInts_end (x y : List Int) (h : x = [] ∨ y = []) : cmpInts x y = cmpI x.length y.length := by
  cases x <;> cases y <;> simp_all [cmpInts, cmpI] <;> omega

set_option maxRecDepth 100000 in
set_option maxHeartbeats 1000000 in
theorem slicesCompare_any (a1 a2 : Option Addr) (l1 l2 : List Int) (c1 c2 : Nat) (w : World) (h1 : ISl w a1 l1) (h2 : ISl w a2 l2) (hl1 : l1.length ≤ 1000000) (hl2 : l2.length ≤ 1000000) :
    Calls Tryd.prog 63 #[.slice a1 l1.length c1, .slice a2 l2.length c2] w fun e w' => e = .returned (.int .i64 (cmpInts l1 l2)) ∧ w = w' := by
  have H1 := Lib.hid h1
  have H2 := Lib.hid h2
  clear h1 h2
  have C := Lib.hid compareInt_any
  go_enter Tryd.func63, Tryd.ntmps63
  go_wp2_with fail
  go_loop [11] (fun i => ∃ k : Nat, k ≤ l1.length ∧ k ≤ l2.length ∧ i = .int .i64 k ∧ Hid (cmpInts l1 l2 = cmpInts (l1.drop k) (l2.drop k))) (fun i => l1.length - (intOf i).toNat)
  case atStart => exact ⟨0, by omega, by omega, rfl, by show _ = _; simp⟩
  case round =>
    obtain ⟨k, hk1, hk2, rfl, HT⟩ := hrel
    by_cases hlt1 : k < l1.length
    · obtain ⟨b1, o1, rfl, hr1⟩ := H1.out (by omega)
      obtain ⟨x, hx⟩ : ∃ x, l1[k]? = some x := ⟨l1[k], by simp [hlt1]⟩
      have p0 := hr1 k x hx
      have HX := Lib.hid hx
      clear hx hr1
      by_cases hlt2 : k < l2.length
      · obtain ⟨b2, o2, rfl, hr2⟩ := H2.out (by omega)
        obtain ⟨y, hy⟩ : ∃ y, l2[k]? = some y := ⟨l2[k], by simp [hlt2]⟩
        have q0 := hr2 k y hy
        have HY := Lib.hid hy
        clear hy hr2
        go_wp2_with fail
        refine (C.out x y _).mono ?_
        rintro e w1 ⟨rfl, rfl⟩
        cases hc : (cmpI x y != 0)
        · have hc0 : x = y := (cmpI_zero x y).1 (by simpa using hc)
          have HC := Lib.hid hc0
          clear hc0
          go_wp2_with fail
          go_round
          case rel => exact ⟨k + 1, by omega, by omega, by go_num, by show _ = _; rw [HT.out, dropI HX.out, dropI HY.out, cmpInts, if_pos HC.out]⟩
          case measure => simp [intOf]; omega
        · have hc0 : ¬ x = y := fun e => by rw [e, cmpI_self] at hc; simp at hc
          have HC := Lib.hid hc0
          clear hc0
          go_wp2_with fail
          go_returns
          exact ⟨ret_int (by rw [HT.out, dropI HX.out, dropI HY.out, cmpInts, if_neg HC.out]), rfl⟩
      · go_wp2_with fail
        go_returns
        exact ⟨ret_int (by rw [HT.out, dropI HX.out, show l2.drop k = [] from List.drop_of_length_le (by omega), cmpInts]), rfl⟩
    · obtain rfl : k = l1.length := by omega
      by_cases hlt2 : l1.length < l2.length
      · obtain ⟨y, hy⟩ : ∃ y, l2[l1.length]? = some y := ⟨l2[l1.length], by simp [hlt2]⟩
        have HY := Lib.hid hy
        clear hy
        go_wp2_with fail
        go_returns
        exact ⟨ret_int (by rw [HT.out, dropI HY.out, List.drop_of_length_le (by omega), cmpInts]), rfl⟩
      · go_wp2_with fail
        go_returns
        exact ⟨ret_int (by rw [HT.out, List.drop_of_length_le (by omega), List.drop_of_length_le (by omega), cmpInts]), rfl⟩

theorem compareKeys_any (a1 a2 : Option Addr) (l1 l2 : List Int) (c1 c2 : Nat) (w : World) (h1 : ISl w a1 l1) (h2 : ISl w a2 l2) (hl1 : l1.length ≤ 1000000) (hl2 : l2.length ≤ 1000000) :
    Calls Tryd.prog 37 #[.slice a1 l1.length c1, .slice a2 l2.length c2] w fun e w' => e = .returned (.int .i64 (cmpInts l1 l2)) ∧ w = w' := by
  go_enter Tryd.func37, Tryd.ntmps37
  go_wp2_with fail
  refine (slicesCompare_any a1 a2 l1 l2 c1 c2 _ h1 h2 hl1 hl2).mono ?_
  rintro e w1 ⟨rfl, rfl⟩
  go_wp2_with fail
  go_returns
  exact ⟨rfl, rfl⟩

set_option maxRecDepth 100000 in
set_option maxHeartbeats 1000000 in
theorem refCompareKeys_any (a1 a2 : Option Addr) (l1 l2 : List Int) (c1 c2 : Nat) (w : World) (h1 : ISl w a1 l1) (h2 : ISl w a2 l2) (hl1 : l1.length ≤ 1000000) (hl2 : l2.length ≤ 1000000) :
    Calls Tryd.prog 38 #[.slice a1 l1.length c1, .slice a2 l2.length c2] w fun e w' => e = .returned (.int .i64 (cmpInts l1 l2)) ∧ Below w.heap.size w w' := by
  have H1 := Lib.hid h1
  have H2 := Lib.hid h2
  clear h1 h2
  have C := Lib.hid sign_any
  have C1 : Hid (∀ (a b : Int) w, Calls Tryd.prog 52 #[.int .i64 a, .int .i64 b] w fun e w' => e = .returned (.int .i64 (cmpI a b)) ∧ Laid w w') := fun a b w => (sign_any a b w).mono (by rintro e w' ⟨rfl, rfl⟩; exact ⟨rfl, Below.refl _ _⟩)
  go_enter Tryd.func38, Tryd.ntmps38
  go_wp2_with fail
  go_loopw [5] (fun i wr => ∃ k : Nat, k ≤ l1.length ∧ k ≤ l2.length ∧ i = .int .i64 k ∧ Hid (cmpInts l1 l2 = cmpInts (l1.drop k) (l2.drop k)) ∧ Hid (Below w.heap.size w wr)) (fun i _ => l1.length - (intOf i).toNat)
  case atStart => exact ⟨0, by omega, by omega, rfl, by show _ = _; simp, Below.refl _ _⟩
  case round =>
    obtain ⟨k, hk1, hk2, rfl, HT, HB⟩ := hrel
    by_cases hlt : k < l1.length ∧ k < l2.length
    · obtain ⟨hlt1, hlt2⟩ := hlt
      obtain ⟨b1, o1, rfl, hr1⟩ := H1.out (by omega)
      obtain ⟨b2, o2, rfl, hr2⟩ := H2.out (by omega)
      obtain ⟨x, hx⟩ : ∃ x, l1[k]? = some x := ⟨l1[k], by simp [hlt1]⟩
      obtain ⟨y, hy⟩ : ∃ y, l2[k]? = some y := ⟨l2[k], by simp [hlt2]⟩
      have p0 := cell_regrown ((hr1.kept HB.out) k x hx)
      have q0 := cell_regrown ((hr2.kept HB.out) k y hy)
      have HX := Lib.hid hx
      have HY := Lib.hid hy
      have K1 := Lib.hid hr1
      have K2 := Lib.hid hr2
      clear hx hy hr1 hr2
      go_wp2_with fail
      refine wp_region_mixed 9 [(0, false), (1, false), (2, false), (3, false), (4, false), (5, false), (6, false), (7, false), (8, false)] (by kernel_rfl) (by kernel_rfl) ?_
      repeat (refine wpM_mild rfl (fun K hK => ?_); go_simp; first | (refine hK _ ?_; clear hK K) | (apply Exists.intro; refine ⟨fun _ => ?_, hK _ ?_⟩; (fail); clear hK K))
      refine wpM_end ?_
      intro w1 _ hb1
      have HB1 := Lib.hid (HB.out.step hb1)
      clear hb1 p0 q0
      cases hc : (x != y)
      · have hc0 : x = y := by simpa using hc
        have HC := Lib.hid hc0
        clear hc0
        go_wp2_with fail
        go_roundw
        case rel => exact ⟨k + 1, by omega, by omega, by go_num, by show _ = _; rw [HT.out, dropI HX.out, dropI HY.out, cmpInts, if_pos HC.out], HB1.out⟩
        case measure => simp [intOf]; omega
      · have hc0 : ¬ x = y := by simpa using hc
        have HC := Lib.hid hc0
        clear hc0
        go_wp2_with fail
        have p0 := cell_regrown ((K1.out.kept HB1.out) k x HX.out)
        have q0 := cell_regrown ((K2.out.kept HB1.out) k y HY.out)
        refine wp_region_mixed 10 [(0, false), (1, false), (2, false), (3, false), (4, false), (5, false), (6, false), (7, false), (8, false), (9, false)] (by kernel_rfl) (by kernel_rfl) ?_
        repeat (refine wpM_mild rfl (fun K hK => ?_); go_simp; first | (refine hK _ ?_; clear hK K) | (apply Exists.intro; refine ⟨fun _ => ?_, hK _ ?_⟩; (first | with_reducible exact C1.out _ _ _); clear hK K))
        refine wpM_end ?_
        intro w2 _ hb2
        have HB2 := Lib.hid (HB1.out.step hb2)
        clear hb2 p0 q0
        go_wp2_with fail
        go_returns
        exact ⟨ret_int (by rw [HT.out, dropI HX.out, dropI HY.out, cmpInts, if_neg HC.out]), HB2.out⟩
    · have HE : Hid (cmpInts (l1.drop k) (l2.drop k) = cmpI l1.length l2.length) := by
        show _ = _
        rw [cmpInts_end]
        · simp only [List.length_drop]; unfold cmpI; split <;> split <;> first | rfl | omega | (split <;> first | rfl | omega)
        · rcases Nat.lt_or_ge k l1.length with h | h
          · exact .inr (List.drop_of_length_le (by omega))
          · exact .inl (List.drop_of_length_le (by omega))
      by_cases hlt1 : k < l1.length
      · have hlt2 : ¬ k < l2.length := fun h => hlt ⟨hlt1, h⟩
        clear hlt
        go_wp2_with fail
        refine (C.out _ _ _).mono ?_
        rintro e w1 ⟨rfl, rfl⟩
        go_wp2_with fail
        go_returns
        exact ⟨ret_int (by rw [HT.out, HE.out]), HB.out⟩
      · clear hlt
        go_wp2_with fail
        refine (C.out _ _ _).mono ?_
        rintro e w1 ⟨rfl, rfl⟩
        go_wp2_with fail
        go_returns
        exact ⟨ret_int (by rw [HT.out, HE.out]), HB.out⟩
end Go.Proofs.YtbpnnhdhpahbjaaDoor
