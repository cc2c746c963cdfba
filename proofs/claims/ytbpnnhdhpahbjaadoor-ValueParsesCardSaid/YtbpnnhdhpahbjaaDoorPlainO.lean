/-
  Plain laws: the order of values (P19.2, P19.7): between -1 and 1, 0 exactly at equal values, transitive. No program in sight.
-/
import Derived.Test.YtbpnnhdhpahbjaaDoorPlain
namespace Go.Proofs.YtbpnnhdhpahbjaaDoor

/-- Three outcomes of comparing a with b, b with c, a with c fit together. -/
def Tri (x y z : Int) : Prop := (x ≤ 0 → y ≤ 0 → z ≤ 0 ∧ ((x = 0 ∧ y = 0 ∧ z = 0) ∨ z < 0)) ∧ (x = 0 → z = y) ∧ (y = 0 → z = x)
def or2 (a b : Int) : Int := if a != 0 then a else b
theorem or3_or2 (a b c : Int) : or3 a b c = or2 a (or2 b c) := by
  unfold or3 or2; rfl
theorem or2_of {a b : Int} (h : a ≠ 0) : or2 a b = a := by simp [or2, h]
theorem or2_zero {a b : Int} (h : a = 0) : or2 a b = b := by simp [or2, h]
theorem Tri.or2 {x y z x' y' z' : Int} (h : Tri x y z) (h' : Tri x' y' z') : Tri (or2 x x') (or2 y y') (or2 z z') := by
  obtain ⟨h1, h2, h3⟩ := h
  by_cases hx : x = 0
  · have hz := h2 hx
    by_cases hy : y = 0
    · rw [or2_zero hx, or2_zero hy, or2_zero (hz.trans hy)]; exact h'
    · rw [or2_zero hx, or2_of hy, or2_of (by omega : z ≠ 0), hz]
      obtain ⟨k1, k2, k3⟩ := h'
      exact ⟨fun a b => by omega, fun a => rfl, fun a => absurd a hy⟩
  · by_cases hy : y = 0
    · have hz := h3 hy
      rw [or2_of hx, or2_zero hy, or2_of (by omega : z ≠ 0), hz]
      exact ⟨fun a b => by omega, fun a => absurd a hx, fun a => rfl⟩
    · rw [or2_of hx, or2_of hy]
      refine ⟨fun a b => ?_, fun a => absurd a hx, fun a => absurd a hy⟩
      have := h1 a b
      rw [or2_of (by omega : z ≠ 0)]
      omega
theorem cmpI_tri (a b c : Int) : Tri (cmpI a b) (cmpI b c) (cmpI a c) := by
  have e : ∀ x y : Int, (x < y ∧ cmpI x y = -1) ∨ (x = y ∧ cmpI x y = 0) ∨ (y < x ∧ cmpI x y = 1) := fun x y => by
    unfold cmpI
    rcases Int.lt_trichotomy x y with h | h | h
    · exact Or.inl ⟨h, if_pos h⟩
    · exact Or.inr (Or.inl ⟨h, by rw [if_neg (by omega), if_neg (by omega)]⟩)
    · exact Or.inr (Or.inr ⟨h, by rw [if_neg (by omega), if_pos h]⟩)
  have h1 := e a b; have h2 := e b c; have h3 := e a c
  unfold Tri
  omega
theorem cmpB_tri : ∀ (a b c : List UInt8), Tri (Lib.compareBytes a b) (Lib.compareBytes b c) (Lib.compareBytes a c)
  | [], [], [] => by simp [Lib.compareBytes, Tri]
  | [], [], _ :: _ => by simp [Lib.compareBytes, Tri]
  | [], _ :: _, [] => by simp [Lib.compareBytes, Tri]
  | [], _ :: _, _ :: _ => by
    simp only [Lib.compareBytes, Tri]
    exact ⟨fun _ _ => by omega, fun h => by omega, fun _ => by first | rfl | trivial⟩
  | _ :: _, [], [] => by simp [Lib.compareBytes, Tri]
  | _ :: _, [], _ :: _ => by simp [Lib.compareBytes, Tri]
  | _ :: _, _ :: _, [] => by simp [Lib.compareBytes, Tri]
  | a :: x, b :: y, c :: z => by
    have ih := cmpB_tri x y z
    have e : ∀ (p q : UInt8) (s t : List UInt8), Lib.compareBytes (p :: s) (q :: t) = or2 (cmpI p.toNat q.toNat) (Lib.compareBytes s t) := fun p q s t => by
      simp only [Lib.compareBytes, UInt8.lt_iff_toNat_lt]
      unfold or2 cmpI
      by_cases h1 : p.toNat < q.toNat
      · have : (p.toNat : Int) < q.toNat := by omega
        simp [h1, this]
      · by_cases h2 : q.toNat < p.toNat
        · have h3 : (q.toNat : Int) < p.toNat := by omega
          have h4 : ¬ (p.toNat : Int) < q.toNat := by omega
          simp [h1, h2, h3, h4]
        · have h3 : ¬ (q.toNat : Int) < p.toNat := by omega
          have h4 : ¬ (p.toNat : Int) < q.toNat := by omega
          simp [h1, h2, h3, h4]
    rw [e, e, e]
    exact (cmpI_tri _ _ _).or2 ih
theorem V.cmp_tri (a b c : V) : Tri (a.cmp b) (b.cmp c) (a.cmp c) := by
  unfold V.cmp cmpS
  rw [or3_or2, or3_or2, or3_or2]
  exact (cmpI_tri _ _ _).or2 ((cmpI_tri _ _ _).or2 (cmpB_tri _ _ _))
theorem cmpI_zero (a b : Int) : cmpI a b = 0 ↔ a = b := by
  unfold cmpI; constructor
  · intro h; split at h
    · omega
    · split at h <;> omega
  · rintro rfl; simp
theorem cmpB_zero : ∀ (a b : List UInt8), Lib.compareBytes a b = 0 ↔ a = b
  | [], [] => by simp [Lib.compareBytes]
  | [], _ :: _ => by simp [Lib.compareBytes]
  | _ :: _, [] => by simp [Lib.compareBytes]
  | a :: x, b :: y => by
    have ih := cmpB_zero x y
    simp only [Lib.compareBytes, List.cons.injEq]
    by_cases h1 : a < b
    · rw [if_pos h1]
      constructor
      · intro h; omega
      · rintro ⟨rfl, _⟩; simp at h1
    · by_cases h2 : b < a
      · rw [if_neg h1, if_pos h2]
        constructor
        · intro h; omega
        · rintro ⟨rfl, _⟩; simp at h2
      · rw [if_neg h1, if_neg h2, ih]
        have : a = b := by rw [UInt8.lt_iff_toNat_lt] at h1 h2; exact UInt8.toNat_inj.1 (by omega)
        simp [this]
theorem or3_zero (a b c : Int) : or3 a b c = 0 ↔ a = 0 ∧ b = 0 ∧ c = 0 := by
  unfold or3
  by_cases h1 : a = 0 <;> by_cases h2 : b = 0 <;> simp [h1, h2]
theorem V.cmp_zero (a b : V) : a.cmp b = 0 ↔ a = b := by
  unfold V.cmp cmpS
  rw [or3_zero, cmpI_zero, cmpI_zero, cmpB_zero, V.ext_iff]
  have : a.s.data.toList = b.s.data.toList ↔ a.s = b.s := by
    obtain ⟨_, _, ⟨⟨x⟩⟩⟩ := a; obtain ⟨_, _, ⟨⟨y⟩⟩⟩ := b; simp
  rw [this]
theorem cmpI_bound (a b : Int) : -1 ≤ cmpI a b ∧ cmpI a b ≤ 1 := by
  unfold cmpI; split
  · omega
  · split <;> omega
theorem cmpB_bound : ∀ (a b : List UInt8), -1 ≤ Lib.compareBytes a b ∧ Lib.compareBytes a b ≤ 1
  | [], [] => by simp [Lib.compareBytes]
  | [], _ :: _ => by simp [Lib.compareBytes]
  | _ :: _, [] => by simp [Lib.compareBytes]
  | a :: x, b :: y => by
    have ih := cmpB_bound x y
    simp only [Lib.compareBytes]
    split
    · omega
    · split <;> omega
theorem V.cmp_bound (a b : V) : -1 ≤ a.cmp b ∧ a.cmp b ≤ 1 := by
  unfold V.cmp cmpS or3
  have h1 := cmpI_bound a.k b.k; have h2 := cmpI_bound a.n b.n; have h3 := cmpB_bound a.s.data.toList b.s.data.toList
  split
  · exact h1
  · split
    · exact h2
    · exact h3
end Go.Proofs.YtbpnnhdhpahbjaaDoor
