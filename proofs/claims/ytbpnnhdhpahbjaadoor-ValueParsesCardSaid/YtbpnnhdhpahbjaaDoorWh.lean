/-
  Walk: SameInts of the reference, for every two slices of at most a million integers.
-/
import Derived.Test.YtbpnnhdhpahbjaaDoorWg
namespace Go.Proofs.YtbpnnhdhpahbjaaDoor
open Go.RowKit Go.Sort

theorem IntSlice.shape {w : World} {v : Value} {l : List Int} (h : IntSlice w v l) : ∃ a cap, v = .slice a l.length cap ∧ (∀ x, l ≠ [] → a = some x → True) := by
  rcases h with ⟨rfl, rfl⟩ | ⟨b, off, cap, rfl, _⟩
  · exact ⟨none, 0, rfl, fun _ _ _ => trivial⟩
  · exact ⟨_, cap, rfl, fun _ _ _ => trivial⟩
/-- Of a slice with an element: where it lies. -/
theorem IntSlice.at {w : World} {v : Value} {l : List Int} (h : IntSlice w v l) (hl : 0 < l.length) : ∃ b off cap, v = .slice (some ⟨b, off, none⟩) l.length cap ∧ IntsAt w b off l := by
  rcases h with ⟨rfl, rfl⟩ | ⟨b, off, cap, h1, _, h2⟩
  · simp at hl
  · exact ⟨b, off, cap, h1, h2⟩

set_option maxRecDepth 100000 in
theorem sameInts_any (v1 v2 : Value) (l1 l2 : List Int) (w : World) (h1 : IntSlice w v1 l1) (h2 : IntSlice w v2 l2) (hl : l1.length ≤ 1000000) (hl2 : l2.length ≤ 1000000) :
    Calls Tryd.prog 34 #[v1, v2] w fun e w' => e = .returned (.bool (decide (l1 = l2))) ∧ Below w.heap.size w w' := by
  by_cases hlen : l1.length = l2.length
  · by_cases hz : l1.length = 0
    · have e1 : l1 = [] := List.eq_nil_of_length_eq_zero hz
      have e2 : l2 = [] := List.eq_nil_of_length_eq_zero (by omega)
      subst e1 e2
      obtain ⟨a1, c1, rfl, _⟩ := h1.shape
      obtain ⟨a2, c2, rfl, _⟩ := h2.shape
      clear h1 h2
      go_enter Tryd.func34, Tryd.ntmps34
      go_wp2_with fail
      refine wp_loop_rounds 1 ?_
      rw [rounds_succ]
      go_wp2_with fail
      go_returns
      exact ⟨rfl, Below.refl _ _⟩
    · obtain ⟨b1, o1, c1, rfl, hi1⟩ := h1.at (by omega)
      obtain ⟨b2, o2, c2, rfl, hi2⟩ := h2.at (by omega)
      have H1 := Lib.hid hi1
      have H2 := Lib.hid hi2
      obtain ⟨n, hn⟩ : ∃ n, n = l1.length := ⟨_, rfl⟩
      rw [← hlen, ← hn]
      rw [← hn] at hl
      have hn1 := Lib.hid hn
      have hn2 : Hid (n = l2.length) := hn.trans hlen
      clear h1 h2 hi1 hi2 hlen hn hz hl2
      have hnn : ((n : Int) != (n : Int)) = false := by simp
      go_enter Tryd.func34, Tryd.ntmps34
      go_wp2_with fail
      go_loopw [5] (fun i wr => ∃ k : Nat, k ≤ n ∧ i = .int .i64 k ∧ Hid (l1.take k = l2.take k) ∧ Below w.heap.size w wr) (fun i _ => n - (intOf i).toNat)
      case atStart => exact ⟨0, by omega, rfl, by show _ = _; simp, Below.refl _ _⟩
      case round =>
        obtain ⟨k, hk, rfl, HT, hb⟩ := hrel
        have HB := Lib.hid hb
        clear hb
        by_cases hlt : k < n
        · obtain ⟨x, hx⟩ : ∃ x, l1[k]? = some x := ⟨l1[k]'(by have := hn1.out; omega), by simp⟩
          obtain ⟨y, hy⟩ : ∃ y, l2[k]? = some y := ⟨l2[k]'(by have := hn2.out; omega), by simp⟩
          have cx := (H1.out.kept HB.out) k x hx
          have cy := (H2.out.kept HB.out) k y hy
          have HX := Lib.hid hx
          have HY := Lib.hid hy
          clear hx hy
          by_cases hxy : x = y
          · subst hxy
            have hne : (x != x) = false := by simp
            go_wp2_with fail
            go_quiet (fail)
            go_wp2_with fail
            go_roundw
            case rel => exact ⟨k + 1, by omega, by go_num, by show _ = _; rw [List.take_add_one, List.take_add_one, HT.out, HX.out, HY.out], HB.out.trans (Below.drewN _ _ _)⟩
            case measure => simp [intOf]; omega
          · have hne : (x != y) = true := by simpa using hxy
            go_wp2_with fail
            go_quiet (fail)
            go_wp2_with fail
            go_returns
            refine ⟨ret_bool ?_, HB.out.trans (Below.drewN _ _ _)⟩
            have : l1 ≠ l2 := fun h => by subst h; rw [HX.out] at HY; exact hxy (Option.some.inj HY.out)
            simp [this]
        · obtain rfl : k = n := by omega
          go_wp2_with fail
          go_returns
          refine ⟨ret_bool ?_, HB.out⟩
          have := HT.out
          rw [List.take_of_length_le (by have := hn1.out; omega), List.take_of_length_le (by have := hn2.out; omega)] at this
          simp [this]
  · have hne : ((l1.length : Int) != (l2.length : Int)) = true := by simp; omega
    have e : decide (l1 = l2) = false := by simp; intro h; subst h; exact hlen rfl
    obtain ⟨a1, c1, rfl, _⟩ := h1.shape
    obtain ⟨a2, c2, rfl, _⟩ := h2.shape
    rw [e]
    clear h1 h2 hlen e
    go_enter Tryd.func34, Tryd.ntmps34
    go_wp2_with fail
    go_returns
    exact ⟨rfl, Below.refl _ _⟩
end Go.Proofs.YtbpnnhdhpahbjaaDoor
