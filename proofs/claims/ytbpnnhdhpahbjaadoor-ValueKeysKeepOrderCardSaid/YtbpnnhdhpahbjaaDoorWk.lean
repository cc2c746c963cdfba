/-
  Walks: slices.CompareFunc at rows, CompareRows of the package value. For every two rows of at most a million values.
-/
import Derived.Test.YtbpnnhdhpahbjaaDoorL3
namespace Go.Proofs.YtbpnnhdhpahbjaaDoor
open Go.RowKit Go.Sort

/-- P19.2: rows are compared value by value. -/
def cmpRows : List V → List V → Int
  | [], [] => 0
  | [], _ :: _ => -1
  | _ :: _, [] => 1
  | a :: x, b :: y => if a.cmp b = 0 then cmpRows x y else a.cmp b
theorem drop_of {l : List V} {k : Nat} {v : V} (h : l[k]? = some v) : l.drop k = v :: l.drop (k + 1) := by
  obtain ⟨hk, e⟩ := List.getElem?_eq_some_iff.1 h
  rw [← e, List.getElem_cons_drop]
theorem RowSlice.shape {w : World} {v : Value} {l : List V} (h : RowSlice w v l) : ∃ a cap, v = .slice a l.length cap := by
  rcases h with ⟨rfl, rfl⟩ | ⟨b, off, cap, rfl, _⟩
  · exact ⟨none, 0, rfl⟩
  · exact ⟨_, cap, rfl⟩
theorem RowSlice.at {w : World} {v : Value} {l : List V} (h : RowSlice w v l) (hl : 0 < l.length) : ∃ b off cap, v = .slice (some ⟨b, off, none⟩) l.length cap ∧ RowAt w b off l := by
  rcases h with ⟨rfl, rfl⟩ | ⟨b, off, cap, h1, h2⟩
  · simp at hl
  · exact ⟨b, off, cap, h1, h2⟩

set_option maxRecDepth 100000 in
set_option maxHeartbeats 1000000 in
theorem compareFunc_any (v1 v2 : Value) (l1 l2 : List V) (w : World) (h1 : RowSlice w v1 l1) (h2 : RowSlice w v2 l2) (hl1 : l1.length ≤ 1000000) (hl2 : l2.length ≤ 1000000) :
    Calls Tryd.prog 58 #[v1, v2, .func (.func 13) #[] #[]] w fun e w' => e = .returned (.int .i64 (cmpRows l1 l2)) ∧ Below w.heap.size w w' := by
  by_cases z1 : l1.length = 0
  · have e1 : l1 = [] := List.eq_nil_of_length_eq_zero z1
    subst e1
    obtain ⟨a1, c1, rfl⟩ := h1.shape
    obtain ⟨a2, c2, rfl⟩ := h2.shape
    by_cases z2 : l2.length = 0
    · have e2 : l2 = [] := List.eq_nil_of_length_eq_zero z2
      subst e2
      clear h1 h2 z1 z2
      go_enter Tryd.func58, Tryd.ntmps58
      go_wp2_with fail
      refine wp_loop_rounds 1 ?_
      rw [rounds_succ]
      go_wp2_with fail
      go_returns
      exact ⟨rfl, Below.refl _ _⟩
    · obtain ⟨n, hn⟩ : ∃ n, n = l2.length := ⟨_, rfl⟩
      rw [← hn] at z2 hl2 ⊢
      have hp : 0 < n := by omega
      have HR : Hid (cmpRows [] l2 = -1) := by
        cases l2 with
        | nil => simp at hn; omega
        | cons x y => rfl
      clear h1 h2 z1 z2 hn
      go_enter Tryd.func58, Tryd.ntmps58
      go_wp2_with fail
      refine wp_loop_rounds 1 ?_
      rw [rounds_succ]
      go_wp2_with fail
      go_returns
      exact ⟨ret_int HR.out.symm, Below.refl _ _⟩
  obtain ⟨b1, o1, c1, rfl, hr1⟩ := h1.at (by omega)
  have H1 := Lib.hid hr1
  clear h1 hr1
  by_cases z2 : l2.length = 0
  · have e2 : l2 = [] := List.eq_nil_of_length_eq_zero z2
    subst e2
    obtain ⟨a2, c2, rfl⟩ := h2.shape
    obtain ⟨x, hx⟩ : ∃ x, l1[0]? = some x := ⟨l1[0]'(by omega), by simp⟩
    obtain ⟨k0, k1, k2⟩ := H1.out 0 x hx
    have HR : Hid (cmpRows l1 [] = 1) := by
      cases l1 with
      | nil => simp at z1
      | cons x y => rfl
    obtain ⟨n, hn⟩ : ∃ n, n = l1.length := ⟨_, rfl⟩
    rw [← hn] at z1 hl1 ⊢
    have hp : 0 < n := by omega
    simp only [Nat.zero_mul, Nat.add_zero] at k0 k1 k2
    clear h2 z1 z2 hn hx
    go_enter Tryd.func58, Tryd.ntmps58
    go_wp2_with fail
    refine wp_loop_rounds 1 ?_
    rw [rounds_succ]
    go_wp2_with fail
    go_returns
    exact ⟨ret_int HR.out.symm, by go_grown⟩
  obtain ⟨b2, o2, c2, rfl, hr2⟩ := h2.at (by omega)
  have H2 := Lib.hid hr2
  clear h2 hr2
  go_enter Tryd.func58, Tryd.ntmps58
  go_wp2_with fail
  go_loopw [13] (fun i wr => ∃ k : Nat, k ≤ l1.length ∧ k ≤ l2.length ∧ i = .int .i64 k ∧ Hid (cmpRows l1 l2 = cmpRows (l1.drop k) (l2.drop k)) ∧ Below w.heap.size w wr) (fun i _ => l1.length - (intOf i).toNat)
  case atStart => exact ⟨0, by omega, by omega, rfl, rfl, Below.refl _ _⟩
  case round =>
    obtain ⟨k, hk1, hk2, rfl, HT, hb⟩ := hrel
    have HB := Lib.hid hb
    clear hb
    by_cases hlt : k < l1.length
    · obtain ⟨x, hx⟩ : ∃ x, l1[k]? = some x := ⟨l1[k], by simp [hlt]⟩
      obtain ⟨c0, c1, c2⟩ := (H1.out.kept HB.out) k x hx
      have HX := Lib.hid hx
      clear hx
      by_cases hlt2 : k < l2.length
      · obtain ⟨y, hy⟩ : ∃ y, l2[k]? = some y := ⟨l2[k], by simp [hlt2]⟩
        obtain ⟨d0, d1, d2⟩ := ((H2.out.kept HB.out) k y hy)
        have HY := Lib.hid hy
        have hbk : b2 < wr.heap.size := block_lt_of_cell d0
        clear hy
        go_wp2_with fail
        refine (compare_any x y _).mono ?_
        rintro e w1 ⟨rfl, hb1⟩
        have HB1 : Hid (Below w.heap.size w w1) := by
          show Below _ _ _
          exact ((HB.out.alloc HB.out.size _).alloc (Nat.le_trans HB.out.size (by simp)) _).trans (hb1.mono (by have := HB.out.size; simp; omega))
        clear hb1 c0 c1 c2 d0 d1 d2
        cases hc : (x.cmp y != 0)
        · have hc0 : x.cmp y = 0 := by simpa using hc
          have HC := Lib.hid hc0
          clear hc0
          go_wp2_with fail
          go_roundw
          case rel => exact ⟨k + 1, by omega, by omega, by go_num, by show _ = _; rw [HT.out, drop_of HX.out, drop_of HY.out, cmpRows, if_pos HC.out], HB1.out⟩
          case measure => simp [intOf]; omega
        · have hc0 : ¬ x.cmp y = 0 := by simpa using hc
          have HC := Lib.hid hc0
          clear hc0
          go_wp2_with fail
          go_returns
          exact ⟨ret_int (by rw [HT.out, drop_of HX.out, drop_of HY.out, cmpRows, if_neg HC.out]), HB1.out⟩
      · go_wp2_with fail
        go_returns
        exact ⟨ret_int (by rw [HT.out, drop_of HX.out, show l2.drop k = [] from List.drop_of_length_le (by omega), cmpRows]), HB.out.alloc HB.out.size _⟩
    · obtain rfl : k = l1.length := by omega
      by_cases hlt2 : l1.length < l2.length
      · obtain ⟨y, hy⟩ : ∃ y, l2[l1.length]? = some y := ⟨l2[l1.length], by simp [hlt2]⟩
        have HY := Lib.hid hy
        clear hy
        go_wp2_with fail
        go_returns
        exact ⟨ret_int (by rw [HT.out, drop_of HY.out, List.drop_of_length_le (by omega), cmpRows]), HB.out⟩
      · go_wp2_with fail
        go_returns
        exact ⟨ret_int (by rw [HT.out, List.drop_of_length_le (by omega), List.drop_of_length_le (by omega), cmpRows]), HB.out⟩

theorem compareRows_any (v1 v2 : Value) (l1 l2 : List V) (w : World) (h1 : RowSlice w v1 l1) (h2 : RowSlice w v2 l2) (hl1 : l1.length ≤ 1000000) (hl2 : l2.length ≤ 1000000) :
    Calls Tryd.prog 31 #[v1, v2] w fun e w' => e = .returned (.int .i64 (cmpRows l1 l2)) ∧ Below w.heap.size w w' := by
  go_enter Tryd.func31, Tryd.ntmps31
  go_wp2_with fail
  refine (compareFunc_any v1 v2 l1 l2 _ h1 h2 hl1 hl2).mono ?_
  rintro e w1 ⟨rfl, hb1⟩
  go_wp2_with fail
  go_returns
  exact ⟨rfl, hb1⟩
end Go.Proofs.YtbpnnhdhpahbjaaDoor
