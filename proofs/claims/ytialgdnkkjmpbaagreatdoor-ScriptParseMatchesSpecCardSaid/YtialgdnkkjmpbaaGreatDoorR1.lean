/-
  Walks: the reference's lines of a text. The memory that was there is as it was.
-/
import Derived.Test.YtialgdnkkjmpbaaGreatDoorWd
namespace Go.Proofs.YtialgdnkkjmpbaaGreatDoor
open Go.RowKit Go.Sort

/-- Lines as they lie in a slice: each with its number, and whether it ends with a newline. -/
def lnVals : Nat → List (Bytes × Bool) → List Value
  | _, [] => []
  | n, p :: L => .string ⟨p.1.toArray⟩ :: .int .i64 (n : Int) :: .bool p.2 :: lnVals (n + 1) L
theorem lnVals_app : ∀ (A B : List (Bytes × Bool)) (n : Nat), lnVals n (A ++ B) = lnVals n A ++ lnVals (n + A.length) B
  | [], B, n => by simp [lnVals]
  | p :: A, B, n => by
    rw [List.cons_append, lnVals, lnVals, lnVals_app A B (n + 1), List.length_cons, show n + 1 + A.length = n + (A.length + 1) by omega]
    rfl
theorem lnVals_at : ∀ (L : List (Bytes × Bool)) (n k : Nat) (p : Bytes × Bool), L[k]? = some p → (lnVals n L)[k * 3]? = some (.string ⟨p.1.toArray⟩) ∧ (lnVals n L)[k * 3 + 1]? = some (.int .i64 ((n + k : Nat) : Int)) ∧ (lnVals n L)[k * 3 + 2]? = some (.bool p.2)
  | [], n, k, p, h => by simp at h
  | q :: L, n, 0, p, h => by simp only [List.getElem?_cons_zero, Option.some.injEq] at h; subst h; simp [lnVals]
  | q :: L, n, k + 1, p, h => by
    have ih := lnVals_at L (n + 1) k p (by simpa using h)
    rw [lnVals, show (k + 1) * 3 = k * 3 + 1 + 1 + 1 by omega]
    simp only [List.getElem?_cons_succ, show k * 3 + 1 + 1 + 1 + 1 = (k * 3 + 1) + 1 + 1 + 1 by omega, show k * 3 + 1 + 1 + 1 + 2 = (k * 3 + 2) + 1 + 1 + 1 by omega]
    rw [show n + 1 + k = n + (k + 1) by omega] at ih
    exact ih
theorem info64 : (Tryz.prog.info? 64).map (fun i => (i.zero, i.size, i.bytes)) = some (some (.agg #[.string ⟨#[]⟩, .int .i64 0, .bool false]), 3, 32) := by kernel_rfl
theorem lns_nl {l : Bytes} {D : List (Bytes × Bool)} {a k : Nat} (ha : a ≤ k) (hk : l[k]? = some 10) (hp : lns l = D ++ lns (l.drop a)) (hno : ∀ c ∈ (l.drop a).take (k - a), c ≠ 10) : lns l = (D ++ [((l.drop a).take (k - a), true)]) ++ lns (l.drop (k + 1)) := by
  obtain ⟨hlt, hg⟩ := List.getElem?_eq_some_iff.1 hk
  have e := drop_split l a k ha
  rw [List.drop_eq_getElem_cons hlt, hg] at e
  rw [e, lns_cut _ _ hno] at hp
  rw [hp]; simp
theorem no_more10 {l : Bytes} {a k : Nat} {d : UInt8} (ha : a ≤ k) (hk : l[k]? = some d) (hd : d ≠ 10) (hno : ∀ c ∈ (l.drop a).take (k - a), c ≠ 10) : ∀ c ∈ (l.drop a).take (k + 1 - a), c ≠ 10 := by
  rw [show k + 1 - a = (k - a) + 1 by omega, List.take_add_one]
  intro c hc
  rcases List.mem_append.1 hc with hc | hc
  · exact hno c hc
  · rw [List.getElem?_drop, show a + (k - a) = k by omega, hk] at hc
    simp at hc; subst hc; exact hd
theorem lns_last {l : Bytes} {D : List (Bytes × Bool)} {a n : Nat} (hl : l.length = n) (ha : a < n) (hp : lns l = D ++ lns (l.drop a)) (hno : ∀ c ∈ (l.drop a).take (n - a), c ≠ 10) : lns l = D ++ [((l.drop a).take (n - a), false)] := by
  have e : (l.drop a).take (n - a) = l.drop a := List.take_of_length_le (by simp; omega)
  rw [e] at hno ⊢
  rw [hp, lns_plain _ (by intro h; have := congrArg List.length h; simp at this; omega) hno]
set_option maxRecDepth 100000 in
set_option maxHeartbeats 2000000 in
theorem lines_ref (s : ByteArray) (hs : s.size ≤ 1000000) (w : World) :
    Calls Tryz.prog 22 #[.string s] w fun e w' => ∃ v, e = .returned v ∧ w'.ownsRow w.heap.size 64 3 v (lns s.data.toList).length (lnVals 0 (lns s.data.toList)) ∧ Below w.heap.size w w' := by
  have HSZ : Hid (s.data.toList.length = s.size) := by show _ = _; simp
  go_enter Tryz.func22, Tryz.ntmps22
  go_wp2_with fail
  go_loopw [3, 4, 5] (fun o a i wr => ∃ (k at_ : Nat) (D : List (Bytes × Bool)), k ≤ s.size ∧ at_ ≤ k ∧ i = .int .i64 (k : Int) ∧ a = .int .i64 (at_ : Int) ∧ D.length ≤ k ∧ Hid (lns s.data.toList = D ++ lns (s.data.toList.drop at_)) ∧ Hid (∀ c ∈ (s.data.toList.drop at_).take (k - at_), c ≠ 10) ∧ Hid (wr.ownsRow w.heap.size 64 3 o D.length (lnVals 0 D)) ∧ Hid (Below w.heap.size w wr)) (fun _ _ i _ => s.size - (intOf i).toNat)
  case atStart => exact ⟨0, 0, [], by omega, by omega, rfl, rfl, Nat.le_refl _, by show _ = _; simp, by show ∀ c, _; simp, World.ownsRow_nil _ _ _ _, Below.refl _ _⟩
  case round =>
    obtain ⟨k, at_, D, hk, ha, rfl, rfl, hD, HP, HNO, HO, HB⟩ := hrel
    by_cases hlt : k < s.size
    · by_cases h10 : s[k] = 10
      · have t1 : ((s[k].toNat : Int) == 10) = true := by rw [h10]; rfl
        have HX := Lib.hid (lns_nl ha (by rw [at_byte s k hlt, h10]) HP.out HNO.out)
        clear HP HNO h10
        obtain ⟨a0, cap0, rfl, hcap0, _⟩ := HO.out.slAt
        go_wp2_with (at_builtin; go_must (refine wpList_append_newk rfl _ _ 58 rfl 64 (.agg #[.string ⟨#[]⟩, .int .i64 0, .bool false]) 3 32 Tryz.underlying58 info64 rfl (by decide) w.heap.size (.slice a0 D.length cap0) D.length (lnVals 0 D) rfl HO.out #[.string (s.extract at_ k), .int .i64 (D.length : Int), .bool true] 1 wr.heap.size rfl rfl rfl (by simp [Value.oneCell']) (by omega) (by simp [maxLen]; omega) HB.out.size ?_))
        intro v3 w3 hown3 hg3
        have HO3 : Hid (w3.ownsRow w.heap.size 64 3 v3 (D ++ [((s.data.toList.drop at_).take (k - at_), true)]).length (lnVals 0 (D ++ [((s.data.toList.drop at_).take (k - at_), true)]))) := by
          show World.ownsRow _ _ _ _ _ _ _
          rw [lnVals_app, List.length_append]
          simpa [lnVals, extract_list] using hown3
        have HB3 : Hid (Below w.heap.size w w3) := HB.out.own HO.out hg3 (Nat.le_refl _) HB.out.size
        clear hown3 hg3
        go_wp2_with fail
        go_roundw
        case rel => exact ⟨k + 1, k + 1, _, by omega, by omega, by go_num, by go_num, by simp; omega, HX.out, by show ∀ c, _; simp, HO3.out, HB3.out⟩
        case measure => simp [intOf]; omega
      · have t1 : ((s[k].toNat : Int) == 10) = false := by
          have : s[k].toNat ≠ 10 := fun e => h10 (UInt8.toNat_inj.1 (by rw [e]; rfl))
          simp; omega
        have HX := Lib.hid (no_more10 ha (at_byte s k hlt) h10 HNO.out)
        clear h10 HNO
        go_wp2_with fail
        go_roundw
        case rel => exact ⟨k + 1, at_, D, by omega, by omega, by go_num, rfl, by omega, HP.out, HX.out, HO.out, HB.out⟩
        case measure => simp [intOf]; omega
    · obtain rfl : k = s.size := by omega
      by_cases hend : at_ < s.size
      · have HX := Lib.hid (lns_last HSZ.out hend HP.out HNO.out)
        clear HP HNO
        obtain ⟨a0, cap0, rfl, hcap0, _⟩ := HO.out.slAt
        go_wp2_with (at_builtin; go_must (refine wpList_append_newk rfl _ _ 58 rfl 64 (.agg #[.string ⟨#[]⟩, .int .i64 0, .bool false]) 3 32 Tryz.underlying58 info64 rfl (by decide) w.heap.size (.slice a0 D.length cap0) D.length (lnVals 0 D) rfl HO.out #[.string (s.extract at_ s.size), .int .i64 (D.length : Int), .bool false] 1 wr.heap.size rfl rfl rfl (by simp [Value.oneCell']) (by omega) (by simp [maxLen]; omega) HB.out.size ?_))
        intro v3 w3 hown3 hg3
        have HO3 : Hid (w3.ownsRow w.heap.size 64 3 v3 (D ++ [((s.data.toList.drop at_).take (s.size - at_), false)]).length (lnVals 0 (D ++ [((s.data.toList.drop at_).take (s.size - at_), false)]))) := by
          show World.ownsRow _ _ _ _ _ _ _
          rw [lnVals_app, List.length_append]
          simpa [lnVals, extract_list] using hown3
        have HB3 : Hid (Below w.heap.size w w3) := HB.out.own HO.out hg3 (Nat.le_refl _) HB.out.size
        clear hown3 hg3
        go_wp2_with fail
        go_returns
        exact ⟨_, rfl, by rw [HX.out]; exact HO3.out, HB3.out⟩
      · obtain rfl : at_ = s.size := by omega
        have HX : Hid (lns s.data.toList = D) := by
          show _ = _
          have h := HP.out
          rw [List.drop_of_length_le (by have := HSZ.out; omega)] at h
          rw [h]; simp [lns]
        clear HP HNO
        go_wp2_with fail
        go_returns
        exact ⟨_, rfl, by rw [HX.out]; exact HO.out, HB.out⟩
end Go.Proofs.YtialgdnkkjmpbaaGreatDoor
