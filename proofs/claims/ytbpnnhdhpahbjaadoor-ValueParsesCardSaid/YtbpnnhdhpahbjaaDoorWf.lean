/-
  Walk: the words of a value, appended to a slice of the call's own. Conditions: the slice is owned and has at most a million integers, the value is right.
-/
import Derived.Test.YtbpnnhdhpahbjaaDoorWe
import Derived.Test.YtbpnnhdhpahbjaaDoorKit2
import Derived.Test.YtbpnnhdhpahbjaaDoorPlainW
namespace Go.Proofs.YtbpnnhdhpahbjaaDoor
open Go.RowKit Go.Sort

theorem info3 : (Tryd.prog.info? 3).map (fun i => (i.zero, i.size, i.bytes)) = some (some (.int .i64 0), 1, 8) := by kernel_rfl
/-- The number of bytes in a slot that holds a string. -/
def strLen : Value → Nat | .string s => s.size | _ => 0
def ints (l : List Int) : List Value := l.map (Value.int .i64)

/-- A slice of integers of the call's own, from block number base on. -/
def OwnsInts (w : World) (base : Nat) (v : Value) (l : List Int) : Prop := w.ownsRow base 3 1 v l.length (ints l)
theorem OwnsInts.of {w : World} {base : Nat} {v : Value} {n : Nat} {xs : List Value} {l : List Int} (h : w.ownsRow base 3 1 v n xs) (e : xs = ints l) : OwnsInts w base v l := by
  have := h.1
  subst e
  have hn : n = l.length := by simpa [ints] using this.symm
  subst hn
  exact h
theorem ints_append (a b : List Int) : ints (a ++ b) = ints a ++ ints b := by simp [ints]

set_option maxRecDepth 100000 in
set_option maxHeartbeats 800000 in
theorem words_text (base : Nat) (vo : Value) (l : List Int) (s : ByteArray) (w : World) (hbase : base ≤ w.heap.size) (hown : OwnsInts w base vo l) (hn : l.length ≤ 1000000) (hs : s.size ≤ 40) :
    Calls Tryd.prog 60 #[vo, .agg #[.int .i64 2, .int .i64 0, .string s]] w fun e w' => ∃ v', e = .returned v' ∧ OwnsInts w' base v' (l ++ 2 :: textW (s.size + 1) s) ∧ Below base w w' := by
  unfold OwnsInts at hown
  obtain ⟨n, hnl⟩ : ∃ n, n = l.length := ⟨_, rfl⟩
  obtain ⟨xs, hxs⟩ : ∃ xs, xs = ints l := ⟨_, rfl⟩
  rw [← hnl] at hn
  rw [← hnl, ← hxs] at hown
  have xs_eq := Lib.hid hxs
  clear hxs hnl
  have HO := Lib.hid hown
  clear hown
  go_enter Tryd.func60, Tryd.ntmps60
  go_wp2_with (at_builtin; refine wpList_append_new rfl _ _ 28 rfl 3 (.int .i64 0) 8 Tryd.underlying28 info3 rfl base vo n xs rfl (HO.out.alloc _) #[.int .i64 2] (w.heap.size + 1) rfl (by simp) (by simp [Value.oneCell']) (by simp; omega) (by simp [maxLen]; omega) (by simp; omega) ?_)
  intro v1 w1 hown1 hg1
  have hne : some w.heap.size ≠ vo.ownBlock := fun h => by have := (HO.out.lt _ h.symm).2; omega
  have c2 : w1.cell? ⟨w.heap.size, 2, none⟩ = some (.string s) := hg1.cell (by go_cell) hne
  have HO1 := Lib.hid hown1
  have HG1 : Hid (Below base w w1) := Below.grown (by go_grown) hg1 (by simp; omega) (fun k hk => (HO.out.lt k hk).1)
  clear hown1 hg1 hne
  go_wp2_with fail
  go_loopw [0, 5] (fun o t wr => ∃ (m : Nat) (ys : List Value) (u : ByteArray) (f : Nat), m + u.size ≤ 41 + n ∧ u.size ≤ 40 ∧ u.size < 4 * f ∧ t = .string u ∧ wr.ownsRow base 3 1 o m ys ∧ Hid (ys ++ ints (textW f u) = xs ++ ints (2 :: textW (s.size + 1) s)) ∧ Below base w wr) (fun _ t _ => strLen t)
  case atStart => exact ⟨n + 1, _, s, s.size + 1, by omega, hs, by omega, rfl, HO1.out, by show _ = _; simp [ints], HG1.out⟩
  case round =>
    obtain ⟨m, ys, u, f, hm, hu, hf, rfl, hown2, HE, hb2⟩ := hrel
    have HO2 := Lib.hid hown2
    have HB2 := Lib.hid hb2
    clear hown2 hb2
    by_cases h4 : 4 < u.size
    · go_wp2_with fail
      go_loop [7, 41] (fun x i => ∃ k : Nat, k ≤ 4 ∧ i = .int .i64 k ∧ x = .int .i64 (acc u k)) (fun _ i => 4 - (intOf i).toNat)
      case atStart => exact ⟨0, by omega, rfl, rfl⟩
      case round =>
        obtain ⟨k, hk, rfl, rfl⟩ := hrel
        by_cases hlt : k < 4
        · by_cases hin : k < u.size
          · have HA := Lib.hid (acc_in u k (by omega) hin)
            go_wp2_with fail
            go_round
            case rel => exact ⟨k + 1, by omega, by go_num, by rw [HA.out]⟩
            case measure => simp [intOf]; omega
          · exfalso; omega
        · obtain rfl : k = 4 := by omega
          have HC := Lib.hid (chunk_eq u 4 (by omega))
          go_wp2_with (at_builtin; refine wpList_append_new rfl _ _ 28 rfl 3 (.int .i64 0) 8 Tryd.underlying28 info3 rfl base u0 m ys rfl HO2.out #[.int .i64 (bits .or .i64 (wrap64 (acc u 4 * 256)) 4)] wr.heap.size rfl rfl (by simp [Value.oneCell']) (by simp; omega) (by simp [maxLen]; omega) (by have := HB2.out.size; omega) ?_)
          rw [HC.out]
          intro v2 w2 hown3 hg3
          have HO3 := Lib.hid hown3
          have HB3 : Hid (Below base w w2) := Below.grown HB2.out hg3 (by have := HB2.out.size; omega) (fun k hk => (HO2.out.lt k hk).1)
          clear hown3 hg3
          go_wp2_with fail
          go_roundw
          case rel =>
            refine ⟨m + 1, ys ++ [.int .i64 (chunk u)], u.extract 4 u.size, f - 1, by simp; omega, by simp; omega, by simp; omega, by simp, HO3.out, ?_, HB3.out⟩
            show _ = _
            rw [← HE.out]
            obtain ⟨g, rfl⟩ : ∃ g, f = g + 1 := ⟨f - 1, by omega⟩
            simp only [textW, if_neg (show ¬ u.size < 4 by omega)]
            simp [ints]
          case measure => simp [strLen]; omega
    by_cases h5 : u.size < 4
    · go_wp2_with fail
      go_loop [7, 41] (fun x i => ∃ k : Nat, k ≤ 4 ∧ i = .int .i64 k ∧ x = .int .i64 (acc u k)) (fun _ i => 4 - (intOf i).toNat)
      case atStart => exact ⟨0, by omega, rfl, rfl⟩
      case round =>
        obtain ⟨k, hk, rfl, rfl⟩ := hrel
        by_cases hlt : k < 4
        · by_cases hin : k < u.size
          · have HA := Lib.hid (acc_in u k (by omega) hin)
            go_wp2_with fail
            go_round
            case rel => exact ⟨k + 1, by omega, by go_num, by rw [HA.out]⟩
            case measure => simp [intOf]; omega
          · have HA := Lib.hid (acc_out u k (by omega) (by omega))
            go_wp2_with fail
            go_round
            case rel => exact ⟨k + 1, by omega, by go_num, by rw [HA.out]⟩
            case measure => simp [intOf]; omega
        · obtain rfl : k = 4 := by omega
          have HC := Lib.hid (chunk_eq u (u.size : Int) (by omega))
          go_wp2_with (at_builtin; refine wpList_append_new rfl _ _ 28 rfl 3 (.int .i64 0) 8 Tryd.underlying28 info3 rfl base u0 m ys rfl HO2.out #[.int .i64 (bits .or .i64 (wrap64 (acc u 4 * 256)) (u.size : Int))] wr.heap.size rfl rfl (by simp [Value.oneCell']) (by simp; omega) (by simp [maxLen]; omega) (by have := HB2.out.size; omega) ?_)
          rw [HC.out]
          intro v2 w2 hown3 hg3
          have HO3 := Lib.hid hown3
          have HB3 : Hid (Below base w w2) := Below.grown HB2.out hg3 (by have := HB2.out.size; omega) (fun k hk => (HO2.out.lt k hk).1)
          clear hown3 hg3
          go_wp2_with fail
          go_returns
          refine ⟨v2, rfl, ?_, HB3.out⟩
          have e : xs ++ ints (2 :: textW (s.size + 1) s) = ys ++ [.int .i64 (chunk u)] := by
            rw [← HE.out]
            obtain ⟨g, rfl⟩ : ∃ g, f = g + 1 := ⟨f - 1, by omega⟩
            simp only [textW, if_pos h5]
            simp [ints]
          exact OwnsInts.of HO3.out (by rw [← e, xs_eq.out, ints_append])
    · go_wp2_with fail
      go_loop [7, 41] (fun x i => ∃ k : Nat, k ≤ 4 ∧ i = .int .i64 k ∧ x = .int .i64 (acc u k)) (fun _ i => 4 - (intOf i).toNat)
      case atStart => exact ⟨0, by omega, rfl, rfl⟩
      case round =>
        obtain ⟨k, hk, rfl, rfl⟩ := hrel
        by_cases hlt : k < 4
        · by_cases hin : k < u.size
          · have HA := Lib.hid (acc_in u k (by omega) hin)
            go_wp2_with fail
            go_round
            case rel => exact ⟨k + 1, by omega, by go_num, by rw [HA.out]⟩
            case measure => simp [intOf]; omega
          · exfalso; omega
        · obtain rfl : k = 4 := by omega
          have HC := Lib.hid (chunk_eq u (u.size : Int) (by omega))
          go_wp2_with (at_builtin; refine wpList_append_new rfl _ _ 28 rfl 3 (.int .i64 0) 8 Tryd.underlying28 info3 rfl base u0 m ys rfl HO2.out #[.int .i64 (bits .or .i64 (wrap64 (acc u 4 * 256)) (u.size : Int))] wr.heap.size rfl rfl (by simp [Value.oneCell']) (by simp; omega) (by simp [maxLen]; omega) (by have := HB2.out.size; omega) ?_)
          rw [HC.out]
          intro v2 w2 hown3 hg3
          have HO3 := Lib.hid hown3
          have HB3 : Hid (Below base w w2) := Below.grown HB2.out hg3 (by have := HB2.out.size; omega) (fun k hk => (HO2.out.lt k hk).1)
          clear hown3 hg3
          go_wp2_with fail
          go_roundw
          case rel =>
            refine ⟨m + 1, ys ++ [.int .i64 (chunk u)], u.extract 4 u.size, f - 1, by simp; omega, by simp; omega, by simp; omega, by simp, HO3.out, ?_, HB3.out⟩
            show _ = _
            rw [← HE.out]
            obtain ⟨g, rfl⟩ : ∃ g, f = g + 1 := ⟨f - 1, by omega⟩
            simp only [textW, if_neg (show ¬ u.size < 4 by omega)]
            simp [ints]
          case measure => simp [strLen]; omega

set_option maxRecDepth 100000 in
set_option maxHeartbeats 800000 in
theorem words_any (base : Nat) (vo : Value) (l : List Int) (v : V) (w : World) (hbase : base ≤ w.heap.size) (hown : OwnsInts w base vo l) (hn : l.length ≤ 1000000) (hv : v.right = true) :
    Calls Tryd.prog 60 #[vo, v.val] w fun e w' => ∃ v', e = .returned v' ∧ OwnsInts w' base v' (l ++ v.words) ∧ Below base w w' := by
  obtain ⟨k, n, s⟩ := v
  unfold V.val
  by_cases h1 : k = 1
  · subst h1
    have hr : -549755813888 ≤ n ∧ n ≤ 549755813887 := by simp [V.right] at hv; omega
    obtain ⟨hr1, hr2⟩ := hr
    clear hv
    have HO := Lib.hid hown
    clear hown
    go_enter Tryd.func60, Tryd.ntmps60
    go_wp2_with (at_builtin; refine wpList_append_new rfl _ _ 28 rfl 3 (.int .i64 0) 8 Tryd.underlying28 info3 rfl base vo l.length (ints l) rfl (World.ownsRow.alloc HO.out _) #[.int .i64 1, .int .i64 (n + 549755813888)] (w.heap.size + 1) rfl (by simp) (by simp [Value.oneCell']) (by simp; omega) (by simp [maxLen]; omega) (by simp; omega) ?_)
    intro v1 w1 hown1 hg1
    go_wp2_with fail
    go_returns
    exact ⟨v1, rfl, OwnsInts.of hown1 (by simp [V.words, ints]), Below.grown (by go_grown) hg1 (by simp; omega) (fun k hk => (World.ownsRow.lt HO.out k hk).1)⟩
  by_cases h3 : k = 3
  · subst h3
    clear hv
    have HO := Lib.hid hown
    clear hown
    go_enter Tryd.func60, Tryd.ntmps60
    go_wp2_with (at_builtin; refine wpList_append_new rfl _ _ 28 rfl 3 (.int .i64 0) 8 Tryd.underlying28 info3 rfl base vo l.length (ints l) rfl (World.ownsRow.alloc HO.out _) #[.int .i64 3, .int .i64 n] (w.heap.size + 1) rfl (by simp) (by simp [Value.oneCell']) (by simp; omega) (by simp [maxLen]; omega) (by simp; omega) ?_)
    intro v1 w1 hown1 hg1
    go_wp2_with fail
    go_returns
    exact ⟨v1, rfl, OwnsInts.of hown1 (by simp [V.words, ints]), Below.grown (by go_grown) hg1 (by simp; omega) (fun k hk => (World.ownsRow.lt HO.out k hk).1)⟩
  by_cases h0 : k = 0
  · subst h0
    clear hv
    have HO := Lib.hid hown
    clear hown
    go_enter Tryd.func60, Tryd.ntmps60
    go_wp2_with (at_builtin; refine wpList_append_new rfl _ _ 28 rfl 3 (.int .i64 0) 8 Tryd.underlying28 info3 rfl base vo l.length (ints l) rfl (World.ownsRow.alloc HO.out _) #[.int .i64 0] (w.heap.size + 1) rfl (by simp) (by simp [Value.oneCell']) (by simp; omega) (by simp [maxLen]; omega) (by simp; omega) ?_)
    intro v1 w1 hown1 hg1
    go_wp2_with fail
    go_returns
    exact ⟨v1, rfl, OwnsInts.of hown1 (by simp [V.words, ints]), Below.grown (by go_grown) hg1 (by simp; omega) (fun k hk => (World.ownsRow.lt HO.out k hk).1)⟩
  · have h2 : k = 2 := by simp [V.right, h0, h1, h3] at hv; exact hv.1
    subst h2
    have hv2 : n = 0 ∧ s.size ≤ 40 := by simpa [V.right] using hv
    obtain ⟨rfl, hs⟩ := hv2
    have e : V.words ⟨2, 0, s⟩ = 2 :: textW (s.size + 1) s := by simp [V.words]
    rw [e]
    exact words_text base vo l s w hbase hown hn hs
end Go.Proofs.YtbpnnhdhpahbjaaDoor
