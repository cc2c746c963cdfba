/-
  Plain laws: the reference's guess at the text of a right value is this value (P19.6). No program in sight.
-/
import Derived.Test.YtbpnnhdhpahbjaaDoorWy
namespace Go.Proofs.YtbpnnhdhpahbjaaDoor
open Go.RowKit

theorem gFold_dec (m : Nat) : ∀ r, gFold 0 (Lib.decDigits m ++ r) = gFold (m : Int) r := by
  induction m using Nat.strongRecOn with
  | _ m ih =>
    intro r
    have h45 : ∀ d : Nat, d < 10 → UInt8.ofNat (48 + d) ≠ 45 := fun d hd e => by
      have := congrArg UInt8.toNat e
      rw [digB d hd] at this
      simp at this
      omega
    rw [Lib.decDigits]
    split
    · rename_i h
      simp only [List.cons_append, List.nil_append, gFold, if_neg (h45 m h), digB m h]
      congr 1
      omega
    · rename_i h
      rw [List.append_assoc, ih (m / 10) (by omega)]
      simp only [List.cons_append, List.nil_append, gFold, if_neg (h45 (m % 10) (by omega)), digB (m % 10) (by omega)]
      congr 1
      omega
theorem dec13 (m : Nat) (h : m ≤ 549755813888) : (Lib.decDigits m).length ≤ 12 := decLen_pow 11 m (by omega)
theorem gNum_itoa (n : Int) (h0 : -549755813888 ≤ n) (h1 : n ≤ 549755813887) : gNum (Lib.itoa n) = n := by
  unfold gNum Lib.itoa
  split
  · rename_i h
    have hl := dec13 n.natAbs (by omega)
    rw [if_pos List.head?_cons, List.take_of_length_le (by simp; omega)]
    have := gFold_dec n.natAbs []
    rw [List.append_nil] at this
    simp only [gFold, if_true, this]
    omega
  · rename_i h
    have hl := dec13 n.toNat (by omega)
    have hne : (Lib.decDigits n.toNat).head? ≠ some 45 := by
      intro e
      cases hd : Lib.decDigits n.toNat with
      | nil => rw [hd] at e; cases e
      | cons c r =>
        rw [hd] at e
        have hc := decDigits_all n.toNat c (by rw [hd]; simp)
        have : c = 45 := by simpa using e
        rw [this] at hc
        revert hc; decide
    rw [if_neg hne, List.take_of_length_le (by omega)]
    have := gFold_dec n.toNat []
    rw [List.append_nil] at this
    rw [this]
    simp only [gFold]
    omega
set_option maxRecDepth 100000 in
theorem dig0_facts : ((List.range 16).all fun d => decide (dig0 (hexD d) = d)) = true := by decide +kernel
theorem dig0_hexD (d : Nat) (h : d < 16) : dig0 (hexD d) = d := by
  simpa using List.all_eq_true.1 dig0_facts d (by simpa using h)
/-- What is printed between the quotes is guessed as what it was. -/
theorem gT_esc_all : ∀ l : List UInt8, gT (l.flatMap escB ++ [39]) = l
  | [] => rfl
  | c :: l => by
    have ih := gT_esc_all l
    rw [List.flatMap_cons]
    cases hp : plainB (c.toNat : Int)
    · have hc := c.toNat_lt
      rw [escB_esc hp]
      simp only [List.cons_append, List.nil_append]
      rw [gT_esc, ih, dig0_hexD _ (by omega), dig0_hexD _ (by omega), show c.toNat / 16 * 16 + c.toNat % 16 = c.toNat by omega]
      simp
    · rw [escB_plain hp]
      simp only [List.cons_append, List.nil_append]
      cases hm : l.flatMap escB ++ [39] with
      | nil => simp at hm
      | cons x r =>
        rw [gT_plain (plain92 hp), ← hm, ih]
theorem guess_print (v : V) (h : v.right = true) : guess v.print = v := by
  obtain ⟨k, n, s⟩ := v
  rcases right_cases h with h1 | h1 | h1 | h1
  · obtain ⟨e1, e2, e3⟩ := h1; simp only at e1 e2 e3; subst e1 e2 e3; rfl
  · obtain ⟨e1, e2, e3, e4⟩ := h1; simp only at e1 e2 e3 e4; subst e1 e2
    have hp : V.print ⟨1, n, ⟨#[]⟩⟩ = Lib.itoa n := rfl
    rw [hp]
    obtain ⟨c, r, hi, hc⟩ := itoa_head n
    have hne : ∀ d l, d.toNat ≠ 45 → ¬ (48 ≤ d.toNat ∧ d.toNat ≤ 57) → Lib.itoa n ≠ d :: l := fun d l h1 h2 e => by
      rw [hi] at e
      have := (List.cons.inj e).1
      subst this
      omega
    have hh : (Lib.itoa n).head? ≠ some 39 := by
      rw [hi]; intro e
      have : c = 39 := by simpa using e
      subst this; revert hc; decide
    unfold guess bTrue bFalse bNull
    rw [if_neg (hne 116 _ (by decide) (by decide)), if_neg (hne 102 _ (by decide) (by decide)), if_neg hh, if_neg (hne 110 _ (by decide) (by decide)), gNum_itoa n e3 e4]
  · obtain ⟨e1, e2, e3⟩ := h1; simp only at e1 e2 e3; subst e1 e2
    have hp : V.print ⟨2, 0, s⟩ = 39 :: (s.data.toList.flatMap escB ++ [39]) := rfl
    rw [hp]
    have hne : ∀ d l, d ≠ 39 → (39 :: (s.data.toList.flatMap escB ++ [39]) : List UInt8) ≠ d :: l := fun d l h e => h (List.cons.inj e).1.symm
    unfold guess bTrue bFalse
    rw [if_neg (hne 116 _ (by decide)), if_neg (hne 102 _ (by decide)), if_pos List.head?_cons]
    simp only [List.drop_succ_cons, List.drop_zero, gT_esc_all, Array.toArray_toList]
  · obtain ⟨e1, e2, e3⟩ := h1; simp only at e1 e2 e3; subst e1 e3
    rcases e2 with rfl | rfl
    · show guess (Lib.formatBool false) = _
      rw [fmtFalse]; rfl
    · show guess (Lib.formatBool true) = _
      rw [fmtTrue]; rfl
theorem refP_parseP (L : List UInt8) : refP L = parseP L := by
  cases h : parseP L with
  | some v =>
    obtain ⟨hr, hp⟩ := parse_sound h
    have hg : guess L = v := by rw [← hp]; exact guess_print v hr
    rw [refP, hg, if_pos ⟨hr, hp⟩]
  | none =>
    rw [refP, if_neg (fun h' => parse_none h _ h'.1 h'.2)]
end Go.Proofs.YtbpnnhdhpahbjaaDoor
