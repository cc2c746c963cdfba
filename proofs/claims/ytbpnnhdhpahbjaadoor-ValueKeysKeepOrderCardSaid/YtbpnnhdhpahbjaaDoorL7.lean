/-
  The walk of ValueRowsMatchSpec: for every two rows, number and two lists of integers it returns true; the memory that was there is as it was.
-/
import Derived.Test.YtbpnnhdhpahbjaaDoorWt
namespace Go.Proofs.YtbpnnhdhpahbjaaDoor
open Go.RowKit Go.Sort

/-- A slice that reads as these values, wherever an empty one lies. -/
def RowLike (w : World) (v : Value) (l : List V) : Prop := ∃ a cap, v = .slice a l.length cap ∧ VSl w a l
theorem RowLike.kept {w w' : World} {v : Value} {l : List V} (h : RowLike w v l) (hb : Below w.heap.size w w') : RowLike w' v l := by
  obtain ⟨a, cap, rfl, h⟩ := h
  exact ⟨a, cap, rfl, h.kept hb⟩
theorem RowLike.shape {w : World} {v : Value} {l : List V} (h : RowLike w v l) : ∃ a cap, v = .slice a l.length cap := by
  obtain ⟨a, cap, rfl, _⟩ := h
  exact ⟨a, cap, rfl⟩
theorem RowLike.at {w : World} {v : Value} {l : List V} (h : RowLike w v l) (hl : 0 < l.length) : ∃ b off cap, v = .slice (some ⟨b, off, none⟩) l.length cap ∧ RowAt w b off l := by
  obtain ⟨a, cap, rfl, h⟩ := h
  obtain ⟨b, off, rfl, h'⟩ := h hl
  exact ⟨b, off, cap, rfl, h'⟩

set_option maxRecDepth 100000 in
set_option maxHeartbeats 1000000 in
theorem compareFuncL_any (v1 v2 : Value) (l1 l2 : List V) (w : World) (h1 : RowLike w v1 l1) (h2 : RowLike w v2 l2) (hl1 : l1.length ≤ 1000000) (hl2 : l2.length ≤ 1000000) :
    Calls Tryd.prog 58 #[v1, v2, .func (.func 13) #[] #[]] w fun e w' => e = .returned (.int .i64 (cmpRows l1 l2)) ∧ Below w.heap.size w w' := by
  by_cases z1 : l1.length = 0
  · have e1 : l1 = [] := List.eq_nil_of_length_eq_zero z1
    subst e1
    obtain ⟨a1, c1, rfl⟩ := h1.shape
    obtain ⟨a2, c2, rfl⟩ := h2.shape
    by_cases z2 : l2.length = 0
    · have e2 : l2 = [] := List.eq_nil_of_length_eq_zero z2
      subst e2
      clear h1 h2 z1 z2
      go_enter Tryd.func58, Tryd.ntmps58
      go_wp2_with fail
      refine wp_loop_rounds 1 ?_
      rw [rounds_succ]
      go_wp2_with fail
      go_returns
      exact ⟨rfl, Below.refl _ _⟩
    · obtain ⟨n, hn⟩ : ∃ n, n = l2.length := ⟨_, rfl⟩
      rw [← hn] at z2 hl2 ⊢
      have hp : 0 < n := by omega
      have HR : Hid (cmpRows [] l2 = -1) := by
        cases l2 with
        | nil => simp at hn; omega
        | cons x y => rfl
      clear h1 h2 z1 z2 hn
      go_enter Tryd.func58, Tryd.ntmps58
      go_wp2_with fail
      refine wp_loop_rounds 1 ?_
      rw [rounds_succ]
      go_wp2_with fail
      go_returns
      exact ⟨ret_int HR.out.symm, Below.refl _ _⟩
  obtain ⟨b1, o1, c1, rfl, hr1⟩ := h1.at (by omega)
  have H1 := Lib.hid hr1
  clear h1 hr1
  by_cases z2 : l2.length = 0
  · have e2 : l2 = [] := List.eq_nil_of_length_eq_zero z2
    subst e2
    obtain ⟨a2, c2, rfl⟩ := h2.shape
    obtain ⟨x, hx⟩ : ∃ x, l1[0]? = some x := ⟨l1[0]'(by omega), by simp⟩
    obtain ⟨k0, k1, k2⟩ := H1.out 0 x hx
    have HR : Hid (cmpRows l1 [] = 1) := by
      cases l1 with
      | nil => simp at z1
      | cons x y => rfl
    obtain ⟨n, hn⟩ : ∃ n, n = l1.length := ⟨_, rfl⟩
    rw [← hn] at z1 hl1 ⊢
    have hp : 0 < n := by omega
    simp only [Nat.zero_mul, Nat.add_zero] at k0 k1 k2
    clear h2 z1 z2 hn hx
    go_enter Tryd.func58, Tryd.ntmps58
    go_wp2_with fail
    refine wp_loop_rounds 1 ?_
    rw [rounds_succ]
    go_wp2_with fail
    go_returns
    exact ⟨ret_int HR.out.symm, by go_grown⟩
  obtain ⟨b2, o2, c2, rfl, hr2⟩ := h2.at (by omega)
  have H2 := Lib.hid hr2
  clear h2 hr2
  go_enter Tryd.func58, Tryd.ntmps58
  go_wp2_with fail
  go_loopw [13] (fun i wr => ∃ k : Nat, k ≤ l1.length ∧ k ≤ l2.length ∧ i = .int .i64 k ∧ Hid (cmpRows l1 l2 = cmpRows (l1.drop k) (l2.drop k)) ∧ Below w.heap.size w wr) (fun i _ => l1.length - (intOf i).toNat)
  case atStart => exact ⟨0, by omega, by omega, rfl, rfl, Below.refl _ _⟩
  case round =>
    obtain ⟨k, hk1, hk2, rfl, HT, hb⟩ := hrel
    have HB := Lib.hid hb
    clear hb
    by_cases hlt : k < l1.length
    · obtain ⟨x, hx⟩ : ∃ x, l1[k]? = some x := ⟨l1[k], by simp [hlt]⟩
      obtain ⟨c0, c1, c2⟩ := (H1.out.kept HB.out) k x hx
      have HX := Lib.hid hx
      clear hx
      by_cases hlt2 : k < l2.length
      · obtain ⟨y, hy⟩ : ∃ y, l2[k]? = some y := ⟨l2[k], by simp [hlt2]⟩
        obtain ⟨d0, d1, d2⟩ := ((H2.out.kept HB.out) k y hy)
        have HY := Lib.hid hy
        have hbk : b2 < wr.heap.size := block_lt_of_cell d0
        clear hy
        go_wp2_with fail
        refine (compare_any x y _).mono ?_
        rintro e w1 ⟨rfl, hb1⟩
        have HB1 : Hid (Below w.heap.size w w1) := by
          show Below _ _ _
          exact ((HB.out.alloc HB.out.size _).alloc (Nat.le_trans HB.out.size (by simp)) _).trans (hb1.mono (by have := HB.out.size; simp; omega))
        clear hb1 c0 c1 c2 d0 d1 d2
        cases hc : (x.cmp y != 0)
        · have hc0 : x.cmp y = 0 := by simpa using hc
          have HC := Lib.hid hc0
          clear hc0
          go_wp2_with fail
          go_roundw
          case rel => exact ⟨k + 1, by omega, by omega, by go_num, by show _ = _; rw [HT.out, drop_of HX.out, drop_of HY.out, cmpRows, if_pos HC.out], HB1.out⟩
          case measure => simp [intOf]; omega
        · have hc0 : ¬ x.cmp y = 0 := by simpa using hc
          have HC := Lib.hid hc0
          clear hc0
          go_wp2_with fail
          go_returns
          exact ⟨ret_int (by rw [HT.out, drop_of HX.out, drop_of HY.out, cmpRows, if_neg HC.out]), HB1.out⟩
      · go_wp2_with fail
        go_returns
        exact ⟨ret_int (by rw [HT.out, drop_of HX.out, show l2.drop k = [] from List.drop_of_length_le (by omega), cmpRows]), HB.out.alloc HB.out.size _⟩
    · obtain rfl : k = l1.length := by omega
      by_cases hlt2 : l1.length < l2.length
      · obtain ⟨y, hy⟩ : ∃ y, l2[l1.length]? = some y := ⟨l2[l1.length], by simp [hlt2]⟩
        have HY := Lib.hid hy
        clear hy
        go_wp2_with fail
        go_returns
        exact ⟨ret_int (by rw [HT.out, drop_of HY.out, List.drop_of_length_le (by omega), cmpRows]), HB.out⟩
      · go_wp2_with fail
        go_returns
        exact ⟨ret_int (by rw [HT.out, List.drop_of_length_le (by omega), List.drop_of_length_le (by omega), cmpRows]), HB.out⟩

theorem compareRowsL_any (v1 v2 : Value) (l1 l2 : List V) (w : World) (h1 : RowLike w v1 l1) (h2 : RowLike w v2 l2) (hl1 : l1.length ≤ 1000000) (hl2 : l2.length ≤ 1000000) :
    Calls Tryd.prog 31 #[v1, v2] w fun e w' => e = .returned (.int .i64 (cmpRows l1 l2)) ∧ Below w.heap.size w w' := by
  go_enter Tryd.func31, Tryd.ntmps31
  go_wp2_with fail
  refine (compareFuncL_any v1 v2 l1 l2 _ h1 h2 hl1 hl2).mono ?_
  rintro e w1 ⟨rfl, hb1⟩
  go_wp2_with fail
  go_returns
  exact ⟨rfl, hb1⟩

def IntLike (w : World) (v : Value) (l : List Int) : Prop := ∃ a cap, v = .slice a l.length cap ∧ ISl w a l
/-- What the law calls few. -/
def fewB (l : List V) : Bool := decide (l.length ≤ 20) && l.all V.right

set_option maxRecDepth 100000 in
set_option maxHeartbeats 4000000 in
theorem rows_wrong (a1 a2 a3 a4 : Option Addr) (l1 l2 : List V) (l3 l4 : List Int) (c1 c2 c3 c4 : Nat) (most : Int) (w : World) (h1 : VSl w a1 l1) (h2 : VSl w a2 l2)
    (m1 : l1.length ≤ 9223372036854775807) (m2 : l2.length ≤ 9223372036854775807) (m3 : l3.length ≤ 9223372036854775807) (m4 : l4.length ≤ 9223372036854775807)
    (hr : (fewB l1 && fewB l2 && decide (l3.length ≤ 100) && decide (l4.length ≤ 100)) = false) :
    Calls Tryd.prog 7 #[.slice a1 l1.length c1, .slice a2 l2.length c2, .int .i64 most, .slice a3 l3.length c3, .slice a4 l4.length c4] w fun e w' => e = .returned (.bool true) ∧ Below w.heap.size w w' := by
  have F1 := Lib.hid (fun w h => few_any a1 l1 c1 w h m1)
  have F2 := Lib.hid (fun w h => few_any a2 l2 c2 w h m2)
  have e1 : (decide (l1.length ≤ 20) && l1.all V.right) = fewB l1 := rfl
  have e2 : (decide (l2.length ≤ 20) && l2.all V.right) = fewB l2 := rfl
  rw [e1] at F1
  rw [e2] at F2
  clear e1 e2
  have H1 := Lib.hid h1
  have H2 := Lib.hid h2
  clear h1 h2
  cases f1 : fewB l1
  all_goals rw [f1] at F1 hr
  · clear f1 hr
    go_enter Tryd.func7, Tryd.ntmps7
    go_wp2_with fail
    refine Calls.mono (F1.out _ H1.out) ?_
    rintro e w1 ⟨rfl, hb1⟩
    refine St.call (St.start _) hb1 ?_
    intro S1
    clear hb1
    try (simp only [List.set_cons_zero, List.set_cons_succ, List.setIfInBounds_toArray, World.size_alloc] at S1)
    go_wp2_with fail
    refine Calls.mono (sanity_any _) ?_
    rintro e w2 ⟨rfl, hb2⟩
    refine St.call (S1.out) hb2 ?_
    intro S2
    clear hb2
    try (simp only [List.set_cons_zero, List.set_cons_succ, List.setIfInBounds_toArray, World.size_alloc] at S2)
    go_wp2_with fail
    go_returns
    exact ⟨rfl, S2.out.below⟩
  · clear f1
    cases f2 : fewB l2
    all_goals rw [f2] at F2 hr
    · clear f2 hr
      go_enter Tryd.func7, Tryd.ntmps7
      go_wp2_with fail
      refine Calls.mono (F1.out _ H1.out) ?_
      rintro e w1 ⟨rfl, hb1⟩
      refine St.call (St.start _) hb1 ?_
      intro S1
      clear hb1
      try (simp only [List.set_cons_zero, List.set_cons_succ, List.setIfInBounds_toArray, World.size_alloc] at S1)
      go_wp2_with fail
      refine Calls.mono (F2.out _ (H2.out.kept S1.out.below)) ?_
      rintro e w2 ⟨rfl, hb2⟩
      refine St.call (S1.out) hb2 ?_
      intro S2
      clear hb2
      try (simp only [List.set_cons_zero, List.set_cons_succ, List.setIfInBounds_toArray, World.size_alloc] at S2)
      go_wp2_with fail
      refine Calls.mono (sanity_any _) ?_
      rintro e w3 ⟨rfl, hb3⟩
      refine St.call (S2.out) hb3 ?_
      intro S3
      clear hb3
      try (simp only [List.set_cons_zero, List.set_cons_succ, List.setIfInBounds_toArray, World.size_alloc] at S3)
      go_wp2_with fail
      go_returns
      exact ⟨rfl, S3.out.below⟩
    · clear f2
      have hr' : ¬ l3.length ≤ 100 ∨ (l3.length ≤ 100 ∧ ¬ l4.length ≤ 100) := by simp at hr; omega
      clear hr
      rcases hr' with g3 | ⟨g3, g4⟩
      all_goals
        go_enter Tryd.func7, Tryd.ntmps7
        go_wp2_with fail
        refine Calls.mono (F1.out _ H1.out) ?_
        rintro e w1 ⟨rfl, hb1⟩
        refine St.call (St.start _) hb1 ?_
        intro S1
        clear hb1
        try (simp only [List.set_cons_zero, List.set_cons_succ, List.setIfInBounds_toArray, World.size_alloc] at S1)
        go_wp2_with fail
        refine Calls.mono (F2.out _ (H2.out.kept S1.out.below)) ?_
        rintro e w2 ⟨rfl, hb2⟩
        refine St.call (S1.out) hb2 ?_
        intro S2
        clear hb2
        try (simp only [List.set_cons_zero, List.set_cons_succ, List.setIfInBounds_toArray, World.size_alloc] at S2)
        go_wp2_with fail
        refine Calls.mono (sanity_any _) ?_
        rintro e w3 ⟨rfl, hb3⟩
        refine St.call (S2.out) hb3 ?_
        intro S3
        clear hb3
        try (simp only [List.set_cons_zero, List.set_cons_succ, List.setIfInBounds_toArray, World.size_alloc] at S3)
        go_wp2_with fail
        go_returns
        exact ⟨rfl, S3.out.below⟩

set_option maxRecDepth 100000 in
theorem key_nil (a : Option Addr) (c : Nat) (most : Int) (w : World) :
    Calls Tryd.prog 35 #[.slice a 0 c, .int .i64 most] w fun e w' => ∃ v', e = .returned v' ∧ OwnsInts w' w.heap.size v' [] ∧ Below w.heap.size w w' := by
  have C := Lib.hid (fun w => clone_any (.slice none 0 0) [] w (Or.inl ⟨rfl, rfl⟩) (by simp))
  have hz : max 0 (min most (0 : Int)) = 0 := by omega
  go_enter Tryd.func35, Tryd.ntmps35
  go_wp2_with fail
  refine wp_loop_rounds 1 ?_
  rw [rounds_succ]
  go_wp2_with fail
  all_goals
    refine (C.out _).mono ?_
    rintro e w1 ⟨v1, rfl, hown1, hb1⟩
    have HO1 := Lib.hid hown1
    have HB1 := Lib.hid hb1
    clear hown1 hb1
    go_wp2_with fail
    go_returns
    exact ⟨v1, rfl, HO1.out, HB1.out⟩
theorem key_slice (v : Value) (r : List V) (most : Int) (w : World) (h : RowLike w v r) (hl : r.length ≤ 1000) (hr : rowRight r = true) :
    Calls Tryd.prog 35 #[v, .int .i64 most] w fun e w' => ∃ v', e = .returned v' ∧ OwnsInts w' w.heap.size v' ((keyAll r).take most.toNat) ∧ Below w.heap.size w w' := by
  cases r with
  | nil =>
    obtain ⟨a, c, rfl⟩ := h.shape
    have e : (keyAll []).take most.toNat = [] := by simp [keyAll]
    rw [e]
    exact key_nil a c most w
  | cons x r =>
    obtain ⟨b, off, cap, rfl, h'⟩ := h.at (by simp)
    exact key_any _ b off cap most w h' hl hr

set_option maxRecDepth 100000 in
set_option maxHeartbeats 4000000 in
theorem rows_right (v1 v2 v3 v4 : Value) (l1 l2 : List V) (l3 l4 : List Int) (most : Int) (w : World) (s1 : RowLike w v1 l1) (s2 : RowLike w v2 l2) (s3 : IntLike w v3 l3) (s4 : IntLike w v4 l4)
    (r1 : fewB l1 = true) (r2 : fewB l2 = true) (m3 : l3.length ≤ 100) (m4 : l4.length ≤ 100) :
    Calls Tryd.prog 7 #[v1, v2, .int .i64 most, v3, v4] w fun e w' => e = .returned (.bool true) ∧ Below w.heap.size w w' := by
  have s1' := s1
  have s2' := s2
  obtain ⟨a1, c1, rfl, h1⟩ := s1'
  obtain ⟨a2, c2, rfl, h2⟩ := s2'
  obtain ⟨a3, c3, rfl, h3⟩ := s3
  obtain ⟨a4, c4, rfl, h4⟩ := s4
  have g1 : l1.length ≤ 20 ∧ l1.all V.right = true := by unfold fewB at r1; simpa using r1
  have g2 : l2.length ≤ 20 ∧ l2.all V.right = true := by unfold fewB at r2; simpa using r2
  have hk1 := keyAll_len l1 g1.2
  have F1 : Hid (∀ w, VSl w a1 l1 → Calls Tryd.prog 32 #[.slice a1 l1.length c1] w fun e w' => e = .returned (.bool true) ∧ Below w.heap.size w w') := fun w h => (few_any a1 l1 c1 w h (by omega)).mono (by intro e w' he; simpa [g1] using he)
  have F2 : Hid (∀ w, VSl w a2 l2 → Calls Tryd.prog 32 #[.slice a2 l2.length c2] w fun e w' => e = .returned (.bool true) ∧ Below w.heap.size w w') := fun w h => (few_any a2 l2 c2 w h (by omega)).mono (by intro e w' he; simpa [g2] using he)
  have C1 : Hid (∀ w, RowLike w (.slice a1 l1.length c1) l1 → RowLike w (.slice a2 l2.length c2) l2 → Calls Tryd.prog 31 #[.slice a1 l1.length c1, .slice a2 l2.length c2] w fun e w' => e = .returned (.int .i64 (cmpRows l1 l2)) ∧ Below w.heap.size w w') := fun w h h' => compareRowsL_any _ _ l1 l2 w h h' (by omega) (by omega)
  have C2 : Hid (∀ w, VSl w a1 l1 → VSl w a2 l2 → Calls Tryd.prog 33 #[.slice a1 l1.length c1, .slice a2 l2.length c2] w fun e w' => e = .returned (.int .i64 (cmpRows l1 l2)) ∧ Below w.heap.size w w') := fun w h h' => by
    rw [← cmpRowsBy_cmp l1 l2 g1.2 g2.2]; exact refCompareRows_any a1 a2 l1 l2 c1 c2 w h h' (by omega) (by omega)
  have K1 : Hid (∀ w, RowLike w (.slice a1 l1.length c1) l1 → Calls Tryd.prog 35 #[.slice a1 l1.length c1, .int .i64 most] w fun e w' => ∃ v', e = .returned v' ∧ OwnsInts w' w.heap.size v' ((keyAll l1).take most.toNat) ∧ Below w.heap.size w w') := fun w h => key_slice _ l1 most w h (by omega) g1.2
  have K2 : Hid (∀ w, VSl w a1 l1 → Calls Tryd.prog 36 #[.slice a1 l1.length c1, .int .i64 most] w fun e w' => ∃ v', e = .returned v' ∧ IntSlice w' v' ((keyAll l1).take most.toNat) ∧ Below w.heap.size w w') := fun w h => refKey_any a1 l1 c1 most w h (by omega) g1.2
  have D1 : Hid (∀ w, ISl w a3 l3 → ISl w a4 l4 → Calls Tryd.prog 37 #[.slice a3 l3.length c3, .slice a4 l4.length c4] w fun e w' => e = .returned (.int .i64 (cmpInts l3 l4)) ∧ Below w.heap.size w w') := fun w h h' => (compareKeys_any a3 a4 l3 l4 c3 c4 w h h' (by omega) (by omega)).mono (by rintro e w' ⟨rfl, rfl⟩; exact ⟨rfl, Below.refl _ _⟩)
  have D2 : Hid (∀ w, ISl w a3 l3 → ISl w a4 l4 → Calls Tryd.prog 38 #[.slice a3 l3.length c3, .slice a4 l4.length c4] w fun e w' => e = .returned (.int .i64 (cmpInts l3 l4)) ∧ Below w.heap.size w w') := fun w h h' => refCompareKeys_any a3 a4 l3 l4 c3 c4 w h h' (by omega) (by omega)
  have S1' := Lib.hid s1
  have S2' := Lib.hid s2
  have H1 := Lib.hid h1
  have H2 := Lib.hid h2
  have H3 := Lib.hid h3
  have H4 := Lib.hid h4
  have hk2 : (keyAll l1).length ≤ 840 := by omega
  clear s1 s2 h1 h2 h3 h4 g1 g2 r1 r2 hk1
  go_enter Tryd.func7, Tryd.ntmps7
  go_wp2_with fail
  refine Calls.mono (F1.out _ H1.out) ?_
  rintro e w1 ⟨rfl, hb1⟩
  refine St.call (St.start _) hb1 ?_
  intro S1
  clear hb1
  try (simp only [List.set_cons_zero, List.set_cons_succ, List.setIfInBounds_toArray, World.size_alloc] at S1)
  go_wp2_with fail
  refine Calls.mono (F2.out _ (H2.out.kept S1.out.below)) ?_
  rintro e w2 ⟨rfl, hb2⟩
  refine St.call (S1.out) hb2 ?_
  intro S2
  clear hb2
  try (simp only [List.set_cons_zero, List.set_cons_succ, List.setIfInBounds_toArray, World.size_alloc] at S2)
  go_wp2_with fail
  refine Calls.mono (sanity_any _) ?_
  rintro e w3 ⟨rfl, hb3⟩
  refine St.call (S2.out) hb3 ?_
  intro S3
  clear hb3
  try (simp only [List.set_cons_zero, List.set_cons_succ, List.setIfInBounds_toArray, World.size_alloc] at S3)
  go_wp2_with fail
  refine Calls.mono (C1.out _ (S1'.out.kept S3.out.below) (S2'.out.kept S3.out.below)) ?_
  rintro e w4 ⟨rfl, hb4⟩
  refine St.call (S3.out) hb4 ?_
  intro S4
  clear hb4
  try (simp only [List.set_cons_zero, List.set_cons_succ, List.setIfInBounds_toArray, World.size_alloc] at S4)
  go_wp2_with fail
  refine Calls.mono (C2.out _ (H1.out.kept S4.out.below) (H2.out.kept S4.out.below)) ?_
  rintro e w5 ⟨rfl, hb5⟩
  refine St.call (S4.out) hb5 ?_
  intro S5
  clear hb5
  try (simp only [List.set_cons_zero, List.set_cons_succ, List.setIfInBounds_toArray, World.size_alloc] at S5)
  go_wp2_with fail
  refine Calls.mono (K1.out _ (S1'.out.kept S5.out.below)) ?_
  rintro e w6 ⟨k1, rfl, ho6, hb6⟩
  have I6 := Lib.hid ho6.slice
  refine St.call (S5.out) hb6 ?_
  intro S6
  clear hb6
  try (simp only [List.set_cons_zero, List.set_cons_succ, List.setIfInBounds_toArray, World.size_alloc] at S6)
  clear ho6
  go_wp2_with fail
  refine Calls.mono (K2.out _ (H1.out.kept S6.out.below)) ?_
  rintro e w7 ⟨k2, rfl, ho7, hb7⟩
  have I7 := Lib.hid (I6.out.kept hb7)
  have J7 := Lib.hid ho7
  refine St.call (S6.out) hb7 ?_
  intro S7
  clear hb7
  try (simp only [List.set_cons_zero, List.set_cons_succ, List.setIfInBounds_toArray, World.size_alloc] at S7)
  clear ho7
  go_wp2_with fail
  refine Calls.mono (sameInts_any _ _ _ _ _ I7.out J7.out (by simp; omega) (by simp; omega)) ?_
  simp only [decide_true]
  rintro e w8 ⟨rfl, hb8⟩
  refine St.call (S7.out) hb8 ?_
  intro S8
  clear hb8
  try (simp only [List.set_cons_zero, List.set_cons_succ, List.setIfInBounds_toArray, World.size_alloc] at S8)
  go_wp2_with fail
  refine Calls.mono (D1.out _ (H3.out.kept S8.out.below) (H4.out.kept S8.out.below)) ?_
  rintro e w9 ⟨rfl, hb9⟩
  refine St.call (S8.out) hb9 ?_
  intro S9
  clear hb9
  try (simp only [List.set_cons_zero, List.set_cons_succ, List.setIfInBounds_toArray, World.size_alloc] at S9)
  go_wp2_with fail
  refine Calls.mono (D2.out _ (H3.out.kept S9.out.below) (H4.out.kept S9.out.below)) ?_
  rintro e w10 ⟨rfl, hb10⟩
  refine St.call (S9.out) hb10 ?_
  intro S10
  clear hb10
  try (simp only [List.set_cons_zero, List.set_cons_succ, List.setIfInBounds_toArray, World.size_alloc] at S10)
  go_wp2_with fail
  go_returns
  exact ⟨by simp, S10.out.below⟩

theorem rows_any (v1 v2 v3 v4 : Value) (l1 l2 : List V) (l3 l4 : List Int) (most : Int) (w : World) (s1 : RowLike w v1 l1) (s2 : RowLike w v2 l2) (s3 : IntLike w v3 l3) (s4 : IntLike w v4 l4)
    (m1 : l1.length ≤ maxLen) (m2 : l2.length ≤ maxLen) (m3 : l3.length ≤ maxLen) (m4 : l4.length ≤ maxLen) :
    Calls Tryd.prog 7 #[v1, v2, .int .i64 most, v3, v4] w fun e w' => e = .returned (.bool true) ∧ Below w.heap.size w w' := by
  unfold maxLen at *
  cases h : (fewB l1 && fewB l2 && decide (l3.length ≤ 100) && decide (l4.length ≤ 100))
  · obtain ⟨a1, c1, rfl, h1⟩ := s1
    obtain ⟨a2, c2, rfl, h2⟩ := s2
    obtain ⟨a3, c3, rfl, h3⟩ := s3
    obtain ⟨a4, c4, rfl, h4⟩ := s4
    exact rows_wrong a1 a2 a3 a4 l1 l2 l3 l4 c1 c2 c3 c4 most w h1 h2 (by omega) (by omega) (by omega) (by omega) h
  · simp only [Bool.and_eq_true, decide_eq_true_eq] at h
    exact rows_right v1 v2 v3 v4 l1 l2 l3 l4 most w s1 s2 s3 s4 h.1.1.1 h.1.1.2 h.1.2 h.2
end Go.Proofs.YtbpnnhdhpahbjaaDoor
