/-
  Plain laws: texts of values are read back (P19.6). No program in sight.
-/
import Derived.Test.YtbpnnhdhpahbjaaDoorWx
namespace Go.Proofs.YtbpnnhdhpahbjaaDoor
open Go.RowKit

theorem digB (d : Nat) (h : d < 10) : (UInt8.ofNat (48 + d)).toNat = 48 + d := by simp; omega
theorem decDigits_all (m : Nat) : ∀ c ∈ Lib.decDigits m, 48 ≤ c.toNat ∧ c.toNat ≤ 57 := by
  induction m using Nat.strongRecOn with
  | _ m ih =>
    rw [Lib.decDigits]
    split
    · rename_i h
      intro c hc
      simp only [List.mem_singleton] at hc
      subst hc
      rw [digB _ h]
      omega
    · rename_i h
      intro c hc
      rcases List.mem_append.1 hc with hc | hc
      · exact ih (m / 10) (by omega) c hc
      · simp only [List.mem_singleton] at hc
        subst hc
        rw [digB _ (by omega)]
        omega
theorem decDigits_ne (m : Nat) : Lib.decDigits m ≠ [] := by
  rw [Lib.decDigits]; split <;> simp
theorem parseUint10_dec (m : Nat) : m ≤ 1000000000000000 → ∀ r, Lib.parseUint10 0 (Lib.decDigits m ++ r) = Lib.parseUint10 m r := by
  induction m using Nat.strongRecOn with
  | _ m ih =>
    intro hm r
    rw [Lib.decDigits]
    split
    · rename_i h
      simp only [List.cons_append, List.nil_append, Lib.parseUint10, digB m h]
      rw [if_pos (by omega), if_neg (by omega), if_neg (by omega)]
      congr 1
      omega
    · rename_i h
      rw [List.append_assoc, ih (m / 10) (by omega) (by omega)]
      simp only [List.cons_append, List.nil_append, Lib.parseUint10, digB (m % 10) (by omega)]
      rw [if_pos (by omega), if_neg (by omega), if_neg (by omega)]
      congr 1
      omega
theorem parseMag_dec (m : Nat) (h : m ≤ 1000000000000000) : Lib.parseMag (Lib.decDigits m) = .ok m := by
  unfold Lib.parseMag
  rw [if_neg (decDigits_ne m)]
  have := parseUint10_dec m h []
  rw [List.append_nil] at this
  rw [this]; rfl
theorem atoiAll_itoa (n : Int) (h0 : -1000000000000000 ≤ n) (h1 : n ≤ 1000000000000000) : Lib.atoiAll (Lib.itoa n) = .ok n := by
  unfold Lib.itoa
  split
  · rename_i h
    simp only [Lib.atoiAll]
    rw [if_pos (by decide), parseMag_dec _ (by omega)]
    simp only
    rw [if_neg (fun h => h.1 (by decide)), if_neg (fun h => by omega), if_pos (by decide)]
    congr 1
    omega
  · rename_i h
    have hm : Lib.parseMag (Lib.decDigits n.toNat) = .ok n.toNat := parseMag_dec _ (by omega)
    cases hd : Lib.decDigits n.toNat with
    | nil => exact absurd hd (decDigits_ne _)
    | cons c r =>
      have hc := decDigits_all n.toNat c (by rw [hd]; simp)
      rw [hd] at hm
      simp only [Lib.atoiAll]
      rw [if_neg (by omega), hm]
      simp only
      rw [if_neg (fun h => by omega), if_neg (fun h => by omega), if_neg (by omega)]
      congr 1
      omega
theorem itoa_head (n : Int) : ∃ c r, Lib.itoa n = c :: r ∧ (c.toNat = 45 ∨ 48 ≤ c.toNat ∧ c.toNat ≤ 57) := by
  unfold Lib.itoa
  split
  · exact ⟨45, _, rfl, .inl rfl⟩
  · cases hd : Lib.decDigits n.toNat with
    | nil => exact absurd hd (decDigits_ne _)
    | cons c r => exact ⟨c, r, rfl, .inr (decDigits_all n.toNat c (by rw [hd]; simp))⟩
theorem itoa_all (n : Int) : ∀ c ∈ Lib.itoa n, 32 ≤ c.toNat ∧ c.toNat ≤ 126 := by
  intro c hc
  unfold Lib.itoa at hc
  split at hc
  · rcases List.mem_cons.1 hc with rfl | hc
    · decide
    · have := decDigits_all _ c hc; omega
  · have := decDigits_all _ c hc; omega

theorem fmtTrue : Lib.formatBool true = bTrue := by decide
theorem fmtFalse : Lib.formatBool false = bFalse := by decide

set_option maxRecDepth 100000 in
theorem hexD_facts : ((List.range 16).all fun d => decide (hexVal (hexD d) = some d) && decide (Lib.lowerB (hexD d) = hexD d) && decide (32 ≤ (hexD d).toNat ∧ (hexD d).toNat ≤ 126)) = true := by decide +kernel
theorem hexD_val (d : Nat) (h : d < 16) : hexVal (hexD d) = some d ∧ Lib.lowerB (hexD d) = hexD d ∧ 32 ≤ (hexD d).toNat ∧ (hexD d).toNat ≤ 126 := by
  have := List.all_eq_true.1 hexD_facts d (by simpa using h)
  simp only [Bool.and_eq_true, decide_eq_true_eq] at this
  exact ⟨this.1.1, this.1.2, this.2⟩
set_option maxRecDepth 100000 in
theorem hex_back : ((List.range 256).all fun c => decide ((hexVal (UInt8.ofNat c)).isSome = true → Lib.lowerB (UInt8.ofNat c) = UInt8.ofNat c → hexD ((hexVal (UInt8.ofNat c)).getD 0) = UInt8.ofNat c)) = true := by decide +kernel
theorem hexD_of {a : UInt8} {x : Nat} (h : hexVal a = some x) (hl : Lib.lowerB a = a) : hexD x = a := by
  have := List.all_eq_true.1 hex_back a.toNat (by simpa using a.toNat_lt)
  simp only [decide_eq_true_eq, UInt8.ofNat_toNat] at this
  have := this (by rw [h]; rfl) hl
  rwa [h] at this
theorem hexs_pair {a b : UInt8} {n : Nat} (h : hexs 0 [a, b] = some n) : ∃ x y, hexVal a = some x ∧ hexVal b = some y ∧ n = x * 16 + y ∧ x < 16 ∧ y < 16 := by
  have hv : ∀ {c : UInt8} {d : Nat}, hexVal c = some d → d < 16 := fun {c d} h => by
    unfold hexVal at h
    repeat' split at h
    all_goals first | (cases h; done) | (cases h; omega)
  simp only [hexs] at h
  cases ha : hexVal a with
  | none => rw [ha] at h; cases h
  | some x =>
    rw [ha] at h
    simp only at h
    cases hb : hexVal b with
    | none => rw [hb] at h; cases h
    | some y =>
      rw [hb] at h
      simp only [Option.some.injEq, Nat.zero_mul, Nat.zero_add] at h
      exact ⟨x, y, rfl, rfl, h.symm, hv ha, hv hb⟩
theorem hexs_mk (x y : Nat) (hx : x < 16) (hy : y < 16) : hexs 0 [hexD x, hexD y] = some (x * 16 + y) := by
  simp [hexs, (hexD_val x hx).1, (hexD_val y hy).1]

theorem escB_plain {c : UInt8} (h : plainB (c.toNat : Int) = true) : escB c = [c] := by rw [escB, if_pos h]
theorem escB_esc {c : UInt8} (h : plainB (c.toNat : Int) = false) : escB c = [92, hexD (c.toNat / 16), hexD (c.toNat % 16)] := by rw [escB, if_neg (by simp [h])]
theorem plain92 {c : UInt8} (h : plainB (c.toNat : Int) = true) : c ≠ 92 := by
  intro e; rw [e] at h; revert h; decide
/-- What is printed between the quotes is read as what it was. -/
theorem unq_esc_all : ∀ l : List UInt8, unq (l.flatMap escB) = some l
  | [] => rfl
  | c :: l => by
    rw [List.flatMap_cons]
    cases hp : plainB (c.toNat : Int)
    · have hc := c.toNat_lt
      rw [escB_esc hp]
      simp only [List.cons_append, List.nil_append]
      have hn : c.toNat / 16 * 16 + c.toNat % 16 = c.toNat := by omega
      rw [unq_esc (n := c.toNat) (by rw [hexs_mk _ _ (by omega) (by omega), hn]) hp (by simp [Lib.toLowerA, (hexD_val (c.toNat / 16) (by omega)).2.1, (hexD_val (c.toNat % 16) (by omega)).2.1]), unq_esc_all l]
      simp
    · rw [escB_plain hp]
      simp only [List.cons_append, List.nil_append]
      rw [unq_plain (plain92 hp) hp, unq_esc_all l]
      rfl
/-- What is read is printed as it stood. -/
theorem unq_back_to : ∀ (k : Nat) (L t : List UInt8), L.length ≤ k → unq L = some t → L = t.flatMap escB := by
  intro k
  induction k with
  | zero =>
    intro L t hk h
    have : L = [] := List.eq_nil_of_length_eq_zero (by omega)
    subst this
    simp only [unq, Option.some.injEq] at h; subst h; rfl
  | succ k ih =>
    intro L t hk h
    cases L with
    | nil => simp only [unq, Option.some.injEq] at h; subst h; rfl
    | cons c L =>
      by_cases h92 : c = 92
      · subst h92
        rcases L with _ | ⟨a, _ | ⟨b, r⟩⟩
        · rw [unq_short (by simp)] at h; cases h
        · rw [unq_short (by simp)] at h; cases h
        · cases hx : hexs 0 [a, b] with
          | none => rw [unq_esc_bad hx] at h; cases h
          | some n =>
            cases hp : plainB (n : Int)
            · cases hl : (Lib.toLowerA [a, b] != [a, b])
              · rw [unq_esc hx hp hl] at h
                simp only [Option.map_eq_some_iff] at h
                obtain ⟨t', ht', rfl⟩ := h
                have ih' := ih r t' (by simp at hk; omega) ht'
                obtain ⟨x, y, ha, hb, hn, hx16, hy16⟩ := hexs_pair hx
                have hlow : Lib.lowerB a = a ∧ Lib.lowerB b = b := by simpa [Lib.toLowerA] using hl
                have hof : (UInt8.ofNat n).toNat = n := by simp; omega
                rw [List.flatMap_cons, escB_esc (by rw [hof]; exact hp), hof, show n / 16 = x by omega, show n % 16 = y by omega, hexD_of ha hlow.1, hexD_of hb hlow.2, ← ih']
                rfl
              · rw [unq_esc_plain hx (Or.inr hl)] at h; cases h
            · rw [unq_esc_plain hx (Or.inl hp)] at h; cases h
      · cases hp : plainB (c.toNat : Int)
        · rw [unq_bad h92 hp] at h; cases h
        · rw [unq_plain h92 hp] at h
          simp only [Option.map_eq_some_iff] at h
          obtain ⟨t', ht', rfl⟩ := h
          have ih' := ih L t' (by simp at hk; omega) ht'
          rw [List.flatMap_cons, escB_plain hp, ← ih']
          rfl
theorem unq_back (L t : List UInt8) (h : unq L = some t) : L = t.flatMap escB := unq_back_to L.length L t (Nat.le_refl _) h
theorem quo_print (m : List UInt8) : quo (39 :: (m ++ [39])) = unq m := by
  have e : (39 :: (m ++ [39])).length = m.length + 2 := by simp
  unfold quo
  rw [if_neg ?_]
  · simp
  · rw [e]
    simp only [List.getD_cons_zero, ne_eq, not_true_eq_false, false_or, not_or, Decidable.not_not]
    refine ⟨by omega, ?_⟩
    rw [List.getD_eq_getElem?_getD, show m.length + 2 - 1 = m.length + 1 by omega, List.getElem?_cons_succ, List.getElem?_append_right (by omega)]
    simp
theorem quo_some {L t : List UInt8} (h : quo L = some t) : L = 39 :: (t.flatMap escB ++ [39]) := by
  unfold quo at h
  split at h
  · cases h
  · rename_i hc
    simp only [not_or, Decidable.not_not, Nat.not_lt] at hc
    obtain ⟨h2, h0, h1⟩ := hc
    have hb := unq_back _ _ h
    obtain ⟨c, L', rfl⟩ : ∃ c L', L = c :: L' := by
      cases L with
      | nil => simp at h2
      | cons c L' => exact ⟨c, L', rfl⟩
    simp only [List.getD_cons_zero] at h0
    subst h0
    simp only [List.length_cons, List.drop_succ_cons, List.drop_zero] at *
    have hl : L' ≠ [] := by intro e; rw [e] at h2; simp at h2
    have e1 : L' = L'.take (L'.length - 1) ++ [L'.getLast hl] := by
      have := List.dropLast_concat_getLast hl
      rw [List.dropLast_eq_take] at this
      exact this.symm
    have e2 : L'.getLast hl = 39 := by
      rw [List.getLast_eq_getElem]
      rw [List.getD_eq_getElem?_getD, show L'.length + 1 - 1 = (L'.length - 1) + 1 by omega, List.getElem?_cons_succ, List.getElem?_eq_getElem (by omega)] at h1
      exact h1
    rw [e2] at e1
    rw [show L'.length + 1 - 2 = L'.length - 1 by omega] at hb
    rw [← hb, ← e1]
/-- P19.6: every right value is read from its text. -/
theorem parse_print (v : V) (h : v.right = true) : parseP v.print = some v := by
  obtain ⟨k, n, s⟩ := v
  rcases right_cases h with h1 | h1 | h1 | h1
  · obtain ⟨e1, e2, e3⟩ := h1; simp only at e1 e2 e3; subst e1 e2 e3; rfl
  · obtain ⟨e1, e2, e3, e4⟩ := h1; simp only at e1 e2 e3 e4; subst e1 e2
    have hp : V.print ⟨1, n, ⟨#[]⟩⟩ = Lib.itoa n := rfl
    rw [hp]
    obtain ⟨c, r, hi, hc⟩ := itoa_head n
    have hne : ∀ d l, d.toNat ≠ 45 → ¬ (48 ≤ d.toNat ∧ d.toNat ≤ 57) → Lib.itoa n ≠ d :: l := fun d l h1 h2 e => by
      rw [hi] at e
      have := (List.cons.inj e).1
      subst this
      omega
    have hq : quo (Lib.itoa n) = none := by
      unfold quo
      rw [if_pos]
      right; left
      rw [hi]
      simp only [List.getD_cons_zero]
      intro e; subst e; revert hc; decide
    unfold parseP bNull bTrue bFalse
    rw [if_neg (hne 110 _ (by decide) (by decide)), if_neg (hne 116 _ (by decide) (by decide)), if_neg (hne 102 _ (by decide) (by decide)), hq, atoiAll_itoa n (by omega) (by omega)]
    simp only [if_true, ifRight]
    rw [show V.num n = ⟨1, n, ⟨#[]⟩⟩ from rfl, h]
    rfl
  · obtain ⟨e1, e2, e3⟩ := h1; simp only at e1 e2 e3; subst e1 e2
    have hp : V.print ⟨2, 0, s⟩ = 39 :: (s.data.toList.flatMap escB ++ [39]) := rfl
    rw [hp]
    have hne : ∀ d l, d ≠ 39 → (39 :: (s.data.toList.flatMap escB ++ [39]) : List UInt8) ≠ d :: l := fun d l h e => h (List.cons.inj e).1.symm
    unfold parseP bNull bTrue bFalse
    rw [if_neg (hne 110 _ (by decide)), if_neg (hne 116 _ (by decide)), if_neg (hne 102 _ (by decide)), quo_print, unq_esc_all]
    simp only [ifRight, Array.toArray_toList]
    rw [h]
    rfl
  · obtain ⟨e1, e2, e3⟩ := h1; simp only at e1 e2 e3; subst e1 e3
    rcases e2 with rfl | rfl
    · show parseP (Lib.formatBool false) = _
      rw [fmtFalse]; rfl
    · show parseP (Lib.formatBool true) = _
      rw [fmtTrue]; rfl
theorem ifRight_some {v x : V} (h : ifRight v = some x) : x = v ∧ v.right = true := by
  unfold ifRight at h
  split at h
  · cases h; exact ⟨rfl, by assumption⟩
  · cases h
/-- P19.6: what is read is right, and is printed as it stood. -/
theorem parse_sound {L : List UInt8} {v : V} (h : parseP L = some v) : v.right = true ∧ v.print = L := by
  unfold parseP at h
  split at h
  · rename_i e; cases h; rw [e]; exact ⟨by decide +kernel, rfl⟩
  split at h
  · rename_i e; cases h; rw [e]; exact ⟨by decide +kernel, fmtTrue⟩
  split at h
  · rename_i e; cases h; rw [e]; exact ⟨by decide +kernel, fmtFalse⟩
  split at h
  · rename_i t hq
    obtain ⟨rfl, hr⟩ := ifRight_some h
    exact ⟨hr, (quo_some hq).symm⟩
  · split at h
    · split at h
      · rename_i n _ e
        obtain ⟨rfl, hr⟩ := ifRight_some h
        exact ⟨hr, e⟩
      · cases h
    · cases h
theorem print_inj {v x : V} (hv : v.right = true) (hx : x.right = true) (h : v.print = x.print) : v = x := by
  have h1 := parse_print v hv
  rw [h, parse_print x hx] at h1
  exact (Option.some.inj h1).symm
theorem parse_none {L : List UInt8} (h : parseP L = none) (v : V) (hv : v.right = true) : v.print ≠ L := fun e => by
  rw [← e, parse_print v hv] at h
  cases h
theorem print_all (v : V) (h : v.right = true) : ∀ c ∈ v.print, 32 ≤ c.toNat ∧ c.toNat ≤ 126 := by
  obtain ⟨k, n, s⟩ := v
  intro c hc
  rcases right_cases h with h1 | h1 | h1 | h1
  · obtain ⟨e1, e2, e3⟩ := h1; simp only at e1 e2 e3; subst e1 e2 e3
    have : (bNull.all fun c => decide (32 ≤ c.toNat ∧ c.toNat ≤ 126)) = true := by decide
    simpa using List.all_eq_true.1 this c hc
  · obtain ⟨e1, e2, e3, e4⟩ := h1; simp only at e1 e2 e3 e4; subst e1 e2
    exact itoa_all n c hc
  · obtain ⟨e1, e2, e3⟩ := h1; simp only at e1 e2 e3; subst e1 e2
    have hc' : c ∈ (39 :: (s.data.toList.flatMap escB ++ [39]) : List UInt8) := hc
    simp only [List.mem_cons, List.mem_append, List.mem_flatMap, List.not_mem_nil, or_false] at hc'
    rcases hc' with rfl | ⟨d, _, hd⟩ | rfl
    · decide
    · cases hp : plainB (d.toNat : Int)
      · rw [escB_esc hp] at hd
        have hd256 := d.toNat_lt
        simp only [List.mem_cons, List.not_mem_nil, or_false] at hd
        rcases hd with rfl | rfl | rfl
        · decide
        · exact (hexD_val _ (by omega)).2.2
        · exact (hexD_val _ (by omega)).2.2
      · rw [escB_plain hp] at hd
        simp only [List.mem_singleton] at hd
        subst hd
        unfold plainB at hp
        simp at hp
        omega
    · decide
  · obtain ⟨e1, e2, e3⟩ := h1; simp only at e1 e2 e3; subst e1 e3
    have h2 : ∀ b, ((Lib.formatBool b).all fun c => decide (32 ≤ c.toNat ∧ c.toNat ≤ 126)) = true := by decide
    have := List.all_eq_true.1 (h2 (n == 1)) c hc
    simpa using this
end Go.Proofs.YtbpnnhdhpahbjaaDoor
