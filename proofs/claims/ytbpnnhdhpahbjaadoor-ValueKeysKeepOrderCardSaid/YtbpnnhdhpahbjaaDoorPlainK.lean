/-
  Plain laws: the words of keys keep the order of rows (P19.5, P19.7). No program in sight.
-/
import Derived.Test.YtbpnnhdhpahbjaaDoorL7
namespace Go.Proofs.YtbpnnhdhpahbjaaDoor
open Go.RowKit

/-- Two lists part: behind a common beginning stand two integers that compare as c says. -/
def Parts (l m : List Int) (c : Int) : Prop := ∃ p x y s t, l = p ++ x :: s ∧ m = p ++ y :: t ∧ x ≠ y ∧ cmpI x y = c
theorem cmpInts_append : ∀ (p x y : List Int), cmpInts (p ++ x) (p ++ y) = cmpInts x y
  | [], _, _ => rfl
  | a :: p, x, y => by simp [cmpInts, cmpInts_append p x y]
theorem cmpInts_self : ∀ x : List Int, cmpInts x x = 0
  | [] => rfl
  | a :: x => by simp [cmpInts, cmpInts_self x]
theorem Parts.cons {l m : List Int} {c : Int} (a : Int) (h : Parts l m c) : Parts (a :: l) (a :: m) c := by
  obtain ⟨p, x, y, s, t, rfl, rfl, h1, h2⟩ := h
  exact ⟨a :: p, x, y, s, t, rfl, rfl, h1, h2⟩
theorem Parts.more {l m : List Int} {c : Int} (h : Parts l m c) (l' m' : List Int) : Parts (l ++ l') (m ++ m') c := by
  obtain ⟨p, x, y, s, t, rfl, rfl, h1, h2⟩ := h
  exact ⟨p, x, y, s ++ l', t ++ m', by simp, by simp, h1, h2⟩
theorem Parts.cmp {l m : List Int} {c : Int} (h : Parts l m c) : cmpInts l m = c := by
  obtain ⟨p, x, y, s, t, rfl, rfl, h1, h2⟩ := h
  rw [cmpInts_append]; simp [cmpInts, h1, h2]
theorem Parts.take {l m : List Int} {c : Int} (h : Parts l m c) (n : Nat) : cmpInts (l.take n) (m.take n) = 0 ∨ cmpInts (l.take n) (m.take n) = c := by
  obtain ⟨p, x, y, s, t, rfl, rfl, h1, h2⟩ := h
  rw [List.take_append, List.take_append]
  rcases Nat.lt_or_ge p.length n with hn | hn
  · right
    rw [cmpInts_append]
    obtain ⟨k, hk⟩ : ∃ k, n - p.length = k + 1 := ⟨n - p.length - 1, by omega⟩
    rw [hk]
    simp [cmpInts, h1, h2]
  · left
    rw [show n - p.length = 0 by omega]
    simp [cmpInts_self]

/-- Four bytes, filled up with zeros, then how many there are: over a list. -/
def chunkL (l : List UInt8) : Int := ((((l.getD 0 0).toNat * 256 + (l.getD 1 0).toNat) * 256 + (l.getD 2 0).toNat) * 256 + (l.getD 3 0).toNat : Nat) * 256 + min (l.length : Int) 4
def textL : Nat → List UInt8 → List Int
  | 0, _ => []
  | f + 1, l => chunkL l :: if l.length < 4 then [] else textL f (l.drop 4)
theorem byteAt_list (u : ByteArray) (i : Nat) : byteAt u i = ((u.data.toList.getD i 0).toNat : Int) := by
  unfold byteAt
  split
  · rename_i h
    have : u.data.toList[i]? = some u[i] := List.getElem?_eq_some_iff.2 ⟨by simpa using h, rfl⟩
    rw [List.getD_eq_getElem?_getD, this]; rfl
  · rename_i h
    rw [List.getD_eq_getElem?_getD, List.getElem?_eq_none (by simpa using h)]; rfl
theorem chunk_list (u : ByteArray) : chunk u = chunkL u.data.toList := by
  unfold chunk chunkL
  simp only [byteAt_list, Array.length_toList, ByteArray.size]
  omega
theorem textW_list : ∀ (f : Nat) (u : ByteArray), textW f u = textL f u.data.toList
  | 0, _ => rfl
  | f + 1, u => by
    simp only [textW, textL, chunk_list, Array.length_toList, ByteArray.size]
    congr 1
    split
    · rfl
    · rw [textW_list f]
      congr 1
      rw [ByteArray.data_extract, Array.toList_extract, List.extract_eq_take_drop]
      exact List.take_of_length_le (by rw [List.length_drop, Array.length_toList]; exact Nat.le_refl _)
theorem u8lt (a b : UInt8) : a < b ↔ a.toNat < b.toNat := UInt8.lt_iff_toNat_lt
/-- The first j bytes, filled up with zeros, as one number. -/
def pack : Nat → List UInt8 → Nat
  | 0, _ => 0
  | _ + 1, [] => 0
  | j + 1, a :: l => a.toNat * 256 ^ j + pack j l
theorem pack_lt : ∀ (j : Nat) (l : List UInt8), pack j l < 256 ^ j
  | 0, _ => by simp [pack]
  | j + 1, [] => by simp only [pack]; exact Nat.pow_pos (by decide)
  | j + 1, a :: l => by
    have h1 := pack_lt j l
    have h2 := a.toNat_lt
    have h3 : (a.toNat + 1) * 256 ^ j ≤ 256 * 256 ^ j := Nat.mul_le_mul_right _ (by omega)
    simp only [pack, Nat.pow_succ]
    rw [Nat.add_mul] at h3
    omega
theorem pack_step {a b B X Y : Nat} (h : a < b) (hX : X < B) : a * B + X < b * B + Y := by
  have : (a + 1) * B ≤ b * B := Nat.mul_le_mul_right _ h
  rw [Nat.add_mul] at this
  omega
def packN (j : Nat) (l : List UInt8) : Nat := pack j l * 256 + min l.length j
set_option maxRecDepth 100000 in
theorem pack_cmp : ∀ (j : Nat) (l m : List UInt8), j ≤ 4 → packN j l = packN j m ∨ (packN j l < packN j m ∧ Lib.compareBytes l m = -1) ∨ (packN j m < packN j l ∧ Lib.compareBytes l m = 1)
  | 0, l, m, _ => by simp [packN, pack]
  | j + 1, [], [], _ => .inl rfl
  | j + 1, [], b :: m, _ => .inr (.inl ⟨by simp only [packN, pack, List.length_nil, List.length_cons]; omega, rfl⟩)
  | j + 1, a :: l, [], _ => .inr (.inr ⟨by simp only [packN, pack, List.length_nil, List.length_cons]; omega, rfl⟩)
  | j + 1, a :: l, b :: m, hj => by
    have ih := pack_cmp j l m (by omega)
    have hl := pack_lt j l
    have hm := pack_lt j m
    simp only [packN, pack, Lib.compareBytes, List.length_cons, u8lt] at *
    generalize pack j l = X at *
    generalize pack j m = Y at *
    generalize 256 ^ j = B at *
    rcases Nat.lt_trichotomy a.toNat b.toNat with h | h | h
    · have := pack_step (Y := Y) h hl
      rw [if_pos h]
      exact .inr (.inl ⟨by omega, rfl⟩)
    · rw [if_neg (by omega), if_neg (by omega), h]
      generalize b.toNat * B = Z
      rcases ih with ih | ih | ih
      · exact .inl (by omega)
      · exact .inr (.inl ⟨by omega, ih.2⟩)
      · exact .inr (.inr ⟨by omega, ih.2⟩)
    · have := pack_step (Y := X) h hm
      rw [if_neg (by omega), if_pos h]
      exact .inr (.inr ⟨by omega, rfl⟩)
theorem packN_parts {j : Nat} {l m : List UInt8} (hj : j ≤ 4) (h : packN j l = packN j m) : pack j l = pack j m ∧ min l.length j = min m.length j := by
  unfold packN at h
  omega
theorem pack_take (j : Nat) : ∀ (l m : List UInt8), pack j l = pack j m → min l.length j = min m.length j → l.take j = m.take j := by
  induction j with
  | zero => intro l m _ _; simp
  | succ j ih =>
    intro l m h1 h2
    cases l with
    | nil =>
      cases m with
      | nil => rfl
      | cons b m => simp only [List.length_nil, List.length_cons] at h2; omega
    | cons a l =>
      cases m with
      | nil => simp only [List.length_nil, List.length_cons] at h2; omega
      | cons b m =>
        have hl := pack_lt j l
        have hm := pack_lt j m
        simp only [pack, List.length_cons] at h1 h2
        have hab : a.toNat = b.toNat := by
          rcases Nat.lt_trichotomy a.toNat b.toNat with h' | h' | h'
          · have := pack_step (Y := pack j m) h' hl; omega
          · exact h'
          · have := pack_step (Y := pack j l) h' hm; omega
        have : a = b := UInt8.toNat_inj.1 hab
        subst this
        simp only [List.take_succ_cons, List.cons.injEq, true_and]
        exact ih l m (by omega) (by omega)
theorem chunkL_pack (l : List UInt8) : chunkL l = ((packN 4 l : Nat) : Int) := by
  match l with
  | [] => rfl
  | [a] => simp [chunkL, packN, pack]; omega
  | [a, b] => simp [chunkL, packN, pack]; omega
  | [a, b, c] => simp [chunkL, packN, pack]; omega
  | a :: b :: c :: d :: r => simp [chunkL, packN, pack]; omega
theorem cmpB_append : ∀ (p x y : List UInt8), Lib.compareBytes (p ++ x) (p ++ y) = Lib.compareBytes x y
  | [], _, _ => rfl
  | a :: p, x, y => by simp [Lib.compareBytes, cmpB_append p x y]
theorem textL_parts : ∀ (f g : Nat) (l m : List UInt8), l.length < 4 * f → m.length < 4 * g → l ≠ m → Parts (textL f l) (textL g m) (Lib.compareBytes l m)
  | 0, _, _, _, h, _, _ => by omega
  | _, 0, _, _, _, h, _ => by omega
  | f + 1, g + 1, l, m, hf, hg, hne => by
    simp only [textL]
    by_cases hc : chunkL l = chunkL m
    · have hp : packN 4 l = packN 4 m := by rw [chunkL_pack, chunkL_pack] at hc; omega
      obtain ⟨hp1, hp2⟩ := packN_parts (Nat.le_refl _) hp
      have ht := pack_take 4 l m hp1 hp2
      have hlen : min l.length 4 = min m.length 4 := by have := congrArg List.length ht; simpa [Nat.min_comm] using this
      have e1 := List.take_append_drop 4 l
      have e2 := List.take_append_drop 4 m
      have hd : l.drop 4 ≠ m.drop 4 := fun e => hne (by rw [← e1, ← e2, ht, e])
      by_cases h4 : l.length < 4
      · exact absurd (by rw [List.drop_of_length_le (by omega), List.drop_of_length_le (by omega)]) hd
      · rw [hc, if_neg h4, if_neg (by omega)]
        have := textL_parts f g (l.drop 4) (m.drop 4) (by simp; omega) (by simp; omega) hd
        rw [← e1, ← e2, ht, cmpB_append]
        have e3 : List.drop 4 (List.take 4 m ++ List.drop 4 l) = l.drop 4 := by rw [← ht, e1]
        rw [e3, e2]
        exact this.cons _
    · refine ⟨[], chunkL l, chunkL m, _, _, rfl, rfl, hc, ?_⟩
      rw [chunkL_pack, chunkL_pack] at *
      rcases pack_cmp 4 l m (Nat.le_refl _) with h | h | h
      · exact absurd (by rw [h]) hc
      · rw [h.2, cmpI, if_pos (by omega)]
      · rw [h.2, cmpI, if_neg (by omega), if_pos (by omega)]

theorem words_parts (a b : V) (ha : a.right = true) (hb : b.right = true) (h : a ≠ b) : Parts a.words b.words (a.cmp b) := by
  obtain ⟨ka, na, sa⟩ := a
  obtain ⟨kb, nb, sb⟩ := b
  have hw : ∀ v : V, v.right = true → ∃ t, v.words = v.k :: t := fun v hv => by
    obtain ⟨k, n, s⟩ := v
    rcases right_cases hv with h | h | h | h <;> obtain ⟨h1, _⟩ := h <;> simp only at h1 <;> subst h1 <;> exact ⟨_, rfl⟩
  by_cases hk : ka = kb
  · subst hk
    have h0 : cmpI ka ka = 0 := cmpI_self ka
    have hor : ∀ x y, or3 0 x y = or2 x y := fun x y => by rw [or3_or2, or2_zero rfl]
    rcases right_cases ha with h1 | h1 | h1 | h1 <;> rcases right_cases hb with h2 | h2 | h2 | h2 <;> first | (simp only at h1 h2; omega) | skip
    · obtain ⟨e1, e2, e3⟩ := h1
      obtain ⟨_, f2, f3⟩ := h2
      simp only at e1 e2 e3 f2 f3
      exact absurd (by rw [e2, e3, f2, f3]) h
    · obtain ⟨e1, e2, _⟩ := h1
      obtain ⟨_, f2, _⟩ := h2
      simp only at e1 e2 f2
      subst e1 e2 f2
      have hn : na ≠ nb := fun e => h (by rw [e])
      refine ⟨[1], na + 549755813888, nb + 549755813888, [], [], rfl, rfl, by omega, ?_⟩
      simp only [V.cmp, h0, hor]
      rw [or2_of (fun e => hn ((cmpI_zero _ _).1 e))]
      unfold cmpI
      split <;> split <;> first | rfl | omega | (split <;> first | rfl | omega)
    · obtain ⟨e1, e2, e3⟩ := h1
      obtain ⟨_, f2, f3⟩ := h2
      simp only at e1 e2 e3 f2 f3
      subst e1 e2 f2
      have hs : sa.data.toList ≠ sb.data.toList := fun e => h (by congr 1; exact (toList_inj _ _).1 (by rw [ByteArray.toList_eq, ByteArray.toList_eq, e]))
      have hc : V.cmp ⟨2, 0, sa⟩ ⟨2, 0, sb⟩ = Lib.compareBytes sa.data.toList sb.data.toList := by
        simp only [V.cmp, h0, hor, cmpI_self]
        rw [or2_zero rfl]; rfl
      rw [hc]
      have := textL_parts (sa.size + 1) (sb.size + 1) _ _ (by have : sa.data.toList.length = sa.size := Array.length_toList; omega) (by have : sb.data.toList.length = sb.size := Array.length_toList; omega) hs
      rw [← textW_list, ← textW_list] at this
      exact this.cons 2
    · obtain ⟨e1, _, e2⟩ := h1
      obtain ⟨_, _, f2⟩ := h2
      simp only at e1 e2 f2
      subst e1 e2 f2
      have hn : na ≠ nb := fun e => h (by rw [e])
      refine ⟨[3], na, nb, [], [], rfl, rfl, hn, ?_⟩
      simp only [V.cmp, h0, hor]
      rw [or2_of (fun e => hn ((cmpI_zero _ _).1 e))]
  · obtain ⟨t, ht⟩ := hw _ ha
    obtain ⟨u, hu⟩ := hw _ hb
    refine ⟨[], ka, kb, t, u, ht, hu, hk, ?_⟩
    simp only [V.cmp]
    rw [or3_or2, or2_of (fun e => hk ((cmpI_zero _ _).1 e))]

/-- Neither row continues the other one, or they are the same. -/
def continuesB (l m : List V) : Bool := decide (l.take (min l.length m.length) = m.take (min l.length m.length)) && (l.length != m.length)
theorem keyAll_cons (v : V) (l : List V) : keyAll (v :: l) = v.words ++ keyAll l := by simp [keyAll]
theorem keys_order : ∀ (l m : List V), rowRight l = true → rowRight m = true →
    (∀ n, cmpInts ((keyAll l).take n) ((keyAll m).take n) = 0 ∨ cmpInts ((keyAll l).take n) ((keyAll m).take n) = cmpRows l m) ∧ (continuesB l m = false → cmpInts (keyAll l) (keyAll m) = cmpRows l m)
  | [], [], _, _ => ⟨fun n => by simp [keyAll, cmpInts], fun _ => rfl⟩
  | [], b :: m, _, _ => ⟨fun n => by
      simp only [cmpRows, keyAll, List.flatMap_nil, List.take_nil]
      cases (List.flatMap V.words (b :: m)).take n <;> simp [cmpInts], fun h => by simp [continuesB] at h⟩
  | a :: l, [], _, _ => ⟨fun n => by
      simp only [cmpRows, keyAll, List.flatMap_nil, List.take_nil]
      cases (List.flatMap V.words (a :: l)).take n <;> simp [cmpInts], fun h => by simp [continuesB] at h⟩
  | a :: l, b :: m, h1, h2 => by
    have ra : a.right = true ∧ rowRight l = true := by simpa [rowRight] using h1
    have rb : b.right = true ∧ rowRight m = true := by simpa [rowRight] using h2
    by_cases hab : a = b
    · subst hab
      obtain ⟨i1, i2⟩ := keys_order l m ra.2 rb.2
      have hz : a.cmp a = 0 := (V.cmp_zero a a).2 rfl
      simp only [cmpRows, hz, if_true, keyAll_cons]
      refine ⟨fun n => ?_, fun hc => ?_⟩
      · rw [List.take_append, List.take_append, cmpInts_append]
        exact i1 _
      · rw [cmpInts_append]
        refine i2 ?_
        have e : min (a :: l).length (a :: m).length = min l.length m.length + 1 := by simp
        unfold continuesB at hc ⊢
        rw [e] at hc
        simpa using hc
    · have hz : a.cmp b ≠ 0 := fun e => hab ((V.cmp_zero a b).1 e)
      have hp := (words_parts a b ra.1 rb.1 hab).more (keyAll l) (keyAll m)
      simp only [cmpRows, if_neg hz, keyAll_cons]
      exact ⟨fun n => hp.take n, fun _ => hp.cmp⟩

theorem chunkL_word (l : List UInt8) : 0 ≤ chunkL l ∧ chunkL l ≤ 1099511627775 := by
  have h0 := (l.getD 0 0).toNat_lt; have h1 := (l.getD 1 0).toNat_lt; have h2 := (l.getD 2 0).toNat_lt; have h3 := (l.getD 3 0).toNat_lt
  unfold chunkL
  omega
theorem textL_word : ∀ (f : Nat) (l : List UInt8), ∀ x ∈ textL f l, 0 ≤ x ∧ x ≤ 1099511627775
  | 0, _, x, h => by simp [textL] at h
  | f + 1, l, x, h => by
    simp only [textL, List.mem_cons] at h
    rcases h with rfl | h
    · exact chunkL_word l
    · split at h
      · simp at h
      · exact textL_word f _ x h
theorem words_word (v : V) (h : v.right = true) : ∀ x ∈ v.words, 0 ≤ x ∧ x ≤ 1099511627775 := by
  intro x hx
  obtain ⟨k, n, s⟩ := v
  rcases right_cases h with h1 | h1 | h1 | h1
  · obtain ⟨e1, e2, e3⟩ := h1; simp only at e1 e2 e3; subst e1
    simp [V.words] at hx; omega
  · obtain ⟨e1, e2, e3⟩ := h1; simp only at e1 e2 e3; subst e1
    simp [V.words] at hx; omega
  · obtain ⟨e1, e2, e3⟩ := h1; simp only at e1 e2 e3; subst e1
    simp [V.words] at hx
    rcases hx with rfl | hx
    · omega
    · rw [textW_list] at hx
      exact textL_word _ _ x hx
  · obtain ⟨e1, e2, e3⟩ := h1; simp only at e1 e2 e3; subst e1
    simp [V.words] at hx; omega
theorem keyAll_word (l : List V) (h : rowRight l = true) : ∀ x ∈ keyAll l, 0 ≤ x ∧ x ≤ 1099511627775 := by
  intro x hx
  simp only [keyAll, List.mem_flatMap] at hx
  obtain ⟨v, hv, hx⟩ := hx
  exact words_word v (List.all_eq_true.1 h v hv) x hx
end Go.Proofs.YtbpnnhdhpahbjaaDoor
