/-
  Walks: slices.Clone at integers, Key of the package value. Conditions: at most a million integers; a right row of at most a thousand values.
-/
import Derived.Test.YtbpnnhdhpahbjaaDoorWf
namespace Go.Proofs.YtbpnnhdhpahbjaaDoor
open Go.RowKit Go.Sort

/-- Cells that hold these integers. -/
def IntsAt (w : World) (b off : Nat) (l : List Int) : Prop := ∀ (j : Nat) (u : Int), l[j]? = some u → w.cell? ⟨b, off + j, none⟩ = some (.int .i64 u)
theorem IntsAt.kept {w w' : World} {b off : Nat} {l : List Int} (h : IntsAt w b off l) (hb : Below w.heap.size w w') : IntsAt w' b off l := fun j u hu => hb.cell_kept (h j u hu)
theorem IntsAt.take {w : World} {b off : Nat} {l : List Int} (h : IntsAt w b off l) (n : Nat) : IntsAt w b off (l.take n) := fun j u hu => h j u (by
  rw [List.getElem?_take] at hu; split at hu <;> simp_all)
theorem addr_add (b j : Nat) : (⟨b, 0, none⟩ : Addr).add j = ⟨b, j, none⟩ := by unfold Addr.add; split <;> simp_all
theorem addr_add' (b o j : Nat) : (⟨b, o, none⟩ : Addr).add j = ⟨b, o + j, none⟩ := by unfold Addr.add; split <;> simp_all
/-- A slice of integers: nil and no element, or cells that hold them. -/
def IntSlice (w : World) (v : Value) (l : List Int) : Prop := (v = .slice none 0 0 ∧ l = []) ∨ ∃ b off cap, v = .slice (some ⟨b, off, none⟩) l.length cap ∧ l.length ≤ cap ∧ IntsAt w b off l
theorem IntSlice.kept {w w' : World} {v : Value} {l : List Int} (h : IntSlice w v l) (hb : Below w.heap.size w w') : IntSlice w' v l := by
  rcases h with h | ⟨b, off, cap, h1, h2, h3⟩
  · exact Or.inl h
  · exact Or.inr ⟨b, off, cap, h1, h2, h3.kept hb⟩
theorem OwnsInts.slice {w : World} {base : Nat} {v : Value} {l : List Int} (h : OwnsInts w base v l) : IntSlice w v l := by
  obtain ⟨h1, h2⟩ := h
  rcases h2 with ⟨h3, h4⟩ | ⟨g, cap, cur, hv, hg, hblk, hn, hm, hs, ht⟩
  · exact Or.inl ⟨h3, List.eq_nil_of_length_eq_zero h4⟩
  · refine Or.inr ⟨g, 0, cap, hv, hn, fun j u hu => ?_⟩
    rw [Nat.zero_add]
    have e : cur.toList[j]? = some (.int .i64 u) := by
      have hj : j < l.length := (List.getElem?_eq_some_iff.1 hu).1
      have : (cur.toList.take (l.length * 1))[j]? = some (.int .i64 u) := by rw [ht]; simp [ints, hu]
      rwa [List.getElem?_take_of_lt (by omega)] at this
    simp [World.cell?, hblk]
    simpa using e
theorem OwnsInts.lower {w : World} {base base' : Nat} {v : Value} {l : List Int} (h : OwnsInts w base v l) (hb : base' ≤ base) : OwnsInts w base' v l := by
  obtain ⟨h1, h2⟩ := h
  refine ⟨h1, ?_⟩
  rcases h2 with h2 | ⟨g, cap, cur, hv, hg, r⟩
  · exact Or.inl h2
  · exact Or.inr ⟨g, cap, cur, hv, Nat.le_trans hb hg, r⟩
theorem OwnsInts.shape {w : World} {base : Nat} {v : Value} {l : List Int} (h : OwnsInts w base v l) : ∃ a cap, v = .slice a l.length cap := by
  rcases h.2 with ⟨h3, h4⟩ | ⟨g, cap, cur, hv, _⟩
  · exact ⟨none, 0, by rw [h3, h4]⟩
  · exact ⟨_, cap, hv⟩
theorem OwnsInts.kept {w w' : World} {base : Nat} {v : Value} {l : List Int} (h : OwnsInts w base v l) (hb : Below w.heap.size w w') : OwnsInts w' base v l :=
  World.ownsRow.kept (row := none) h ⟨hb.os, hb.tape, hb.output, hb.size, fun k hk _ => hb.block k hk⟩ (by cases v.ownBlock <;> simp)

set_option maxRecDepth 100000 in
theorem clone_any (v : Value) (l : List Int) (w : World) (h : IntSlice w v l) (hl : l.length ≤ 1000000) :
    Calls Tryd.prog 61 #[v] w fun e w' => ∃ v', e = .returned v' ∧ OwnsInts w' w.heap.size v' l ∧ Below w.heap.size w w' := by
  obtain ⟨i0, hi, hz0, hz1, hz2⟩ := info_parts info3
  have e1 := fun w a n c => Lib.run_eql_slice_nil (P := Tryd.prog) w 28 3 a n c 0 0 Tryd.underlying28
  rcases h with ⟨rfl, rfl⟩ | ⟨b, off, cap, rfl, hcap, hc⟩
  · go_enter Tryd.func61, Tryd.ntmps61
    go_wp2_with fail
    go_returns
    exact ⟨_, rfl, World.ownsRow_nil _ _ _ _, Below.refl _ _⟩
  · have HC := Lib.hid hc
    clear hc
    go_enter Tryd.func61, Tryd.ntmps61
    go_wp2_with (at_builtin; refine wpList_append_own _ rfl _ _ 28 rfl w.heap.size 3 i0 (.int .i64 0) 1 8 Tryd.underlying28 hi hz0 hz1 hz2 rfl (by decide) _ 0 [] rfl (World.ownsRow_made w #[] 0 (Nat.le_refl _) (by simp [maxLen]) rfl) ⟨b, off, none⟩ l.length cap (ints l) rfl (by simp [ints]) ?h2 ?h3 ?h4 ?h5 ?h6 ?_)
    case h2 =>
      intro j u hu
      obtain ⟨x, hx, rfl⟩ : ∃ x, l[j]? = some x ∧ Value.int .i64 x = u := by simpa [ints, List.getElem?_map, Option.map_eq_some_iff] using hu
      rw [addr_add']
      exact (HC.out.kept (by go_grown)) j x hx
    case h3 =>
      intro u hu
      obtain ⟨x, _, rfl⟩ := List.mem_map.1 hu
      rfl
    case h4 => simp [maxLen]; omega
    case h5 => omega
    case h6 => simp
    intro v1 w1 hown1 hg1 _
    have HO1 := Lib.hid hown1
    have HB1 : Hid (Below w.heap.size w w1) := Below.grown (by go_grown) hg1 (by simp) (fun k hk => by simp [Value.ownBlock] at hk; omega)
    clear hown1 hg1 e1
    go_wp2_with fail
    go_returns
    exact ⟨v1, rfl, OwnsInts.of HO1.out (by simp), HB1.out⟩

/-- The words of a row. -/
def keyAll (r : List V) : List Int := r.flatMap V.words
def rowRight (r : List V) : Bool := r.all V.right
theorem textW_len : ∀ (f : Nat) (u : ByteArray), (textW f u).length ≤ f
  | 0, _ => by simp [textW]
  | f + 1, u => by
    simp only [textW]
    split
    · simp
    · have := textW_len f (u.extract 4 u.size); simp; omega
theorem words_len (v : V) (h : v.right = true) : v.words.length ≤ 42 := by
  unfold V.words
  split
  · simp
  split
  · simp
  split
  · simp
  · rename_i h1 h3 h0
    have hs : v.s.size ≤ 40 := by
      simp [V.right, h0, h1, h3] at h; omega
    have := textW_len (v.s.size + 1) v.s
    simp; omega
theorem keyAll_len (r : List V) (h : rowRight r = true) : (keyAll r).length ≤ 42 * r.length := by
  induction r with
  | nil => simp [keyAll]
  | cons v r ih =>
    simp only [rowRight, List.all_cons, Bool.and_eq_true] at h
    have h1 := words_len v h.1
    have h2 := ih h.2
    simp only [keyAll, List.flatMap_cons, List.length_append, List.length_cons] at *
    omega
theorem keyAll_snoc (r : List V) (k : Nat) (v : V) (hv : r[k]? = some v) : keyAll (r.take (k + 1)) = keyAll (r.take k) ++ v.words := by
  rw [List.take_add_one, hv]; simp [keyAll]
theorem keyAll_take (r : List V) (k : Nat) : ∃ rest, keyAll r = keyAll (r.take k) ++ rest := ⟨keyAll (r.drop k), by
  unfold keyAll
  rw [← List.flatMap_append, List.take_append_drop]⟩

/-- A slice of values: nil and none, or cells that hold them. -/
def RowSlice (w : World) (v : Value) (l : List V) : Prop := (v = .slice none 0 0 ∧ l = []) ∨ ∃ b off cap, v = .slice (some ⟨b, off, none⟩) l.length cap ∧ RowAt w b off l
theorem RowSlice.kept {w w' : World} {v : Value} {l : List V} (h : RowSlice w v l) (hb : Below w.heap.size w w') : RowSlice w' v l := by
  rcases h with h | ⟨b, off, cap, h1, h3⟩
  · exact Or.inl h
  · exact Or.inr ⟨b, off, cap, h1, h3.kept hb⟩

set_option maxRecDepth 100000 in
set_option maxHeartbeats 800000 in
theorem key_any (r : List V) (b off cap : Nat) (most : Int) (w : World) (h : RowAt w b off r) (hl : r.length ≤ 1000) (hr : rowRight r = true) :
    Calls Tryd.prog 35 #[.slice (some ⟨b, off, none⟩) r.length cap, .int .i64 most] w fun e w' => ∃ v', e = .returned v' ∧ OwnsInts w' w.heap.size v' ((keyAll r).take most.toNat) ∧ Below w.heap.size w w' := by
  have HR := Lib.hid h
  have HRR := Lib.hid hr
  clear h hr
  go_enter Tryd.func35, Tryd.ntmps35
  go_wp2_with fail
  go_loopw [5, 10] (fun o i wr => ∃ k j : Nat, k ≤ r.length ∧ j ≤ k ∧ i = .int .i64 k ∧ OwnsInts wr w.heap.size o (keyAll (r.take j)) ∧ Hid (j = k ∨ most ≤ (keyAll (r.take j)).length) ∧ Below w.heap.size w wr) (fun _ i _ => r.length - (intOf i).toNat)
  case atStart => exact ⟨0, 0, by omega, by omega, rfl, World.ownsRow_nil _ _ _ _, Or.inl rfl, Below.refl _ _⟩
  case round =>
    obtain ⟨k, j, hk, hj, rfl, hown, HJ, hb⟩ := hrel
    have HO := Lib.hid hown
    have HB := Lib.hid hb
    clear hown hb
    by_cases hlt : k < r.length
    · obtain ⟨v, hv⟩ : ∃ v, r[k]? = some v := ⟨r[k], by simp [hlt]⟩
      obtain ⟨c0, c1, c2⟩ := (HR.out.kept HB.out) k v hv
      have HV := Lib.hid hv
      clear hv
      obtain ⟨a, cp, rfl⟩ := HO.out.shape
      have hlen : (keyAll (r.take j)).length ≤ 42000 := by
        have := keyAll_len (r.take j) (by have := HRR.out; simp only [rowRight, List.all_eq_true] at *; intro x hx; exact this x (List.mem_of_mem_take hx))
        simp at this
        omega
      by_cases hm : ((keyAll (r.take j)).length : Int) < most
      · have hjk : j = k := by rcases HJ.out with h | h; exact h; omega
        subst hjk
        go_wp2_with fail
        refine (words_any w.heap.size _ (keyAll (r.take j)) v _ (by have := HB.out.size; simp; omega) (HO.out.kept (by go_grown)) (by omega) (by have := HRR.out; simp only [rowRight, List.all_eq_true] at this; exact this v (List.mem_of_getElem? HV.out))).mono ?_
        rintro e w1 ⟨v1, rfl, hown1, hb1⟩
        have HO1 := Lib.hid hown1
        have HB1 : Hid (Below w.heap.size w w1) := (HB.out.alloc HB.out.size _).trans hb1
        clear hown1 hb1
        go_wp2_with fail
        go_roundw
        case rel => exact ⟨j + 1, j + 1, by omega, by omega, by go_num, by rw [keyAll_snoc r j v HV.out]; exact HO1.out, Or.inl rfl, HB1.out⟩
        case measure => simp [intOf]; omega
      · go_wp2_with fail
        go_roundw
        case rel => exact ⟨k + 1, j, by omega, by omega, by go_num, HO.out.kept (by go_grown), Or.inr (by omega), HB.out.alloc HB.out.size _⟩
        case measure => simp [intOf]; omega
    · obtain rfl : k = r.length := by omega
      obtain ⟨L, hL⟩ : ∃ L, L = keyAll (r.take j) := ⟨_, rfl⟩
      have HS := Lib.hid HO.out.slice
      have HK : Hid ((keyAll r).take most.toNat = L.take most.toNat) := by
        show _ = _
        rcases HJ.out with h | h
        · subst h; rw [hL, List.take_length]
        · obtain ⟨rest, e⟩ := keyAll_take r j
          rw [e, List.take_append_of_le_length (by omega), hL]
      have hlen : (keyAll (r.take j)).length ≤ 42000 := by
        have := keyAll_len (r.take j) (by have := HRR.out; simp only [rowRight, List.all_eq_true] at *; intro x hx; exact this x (List.mem_of_mem_take hx))
        simp at this
        omega
      rw [← hL] at HS hlen
      clear HO HJ hL
      rcases HS.out with ⟨rfl, rfl⟩ | ⟨b1, o1, c1, rfl, hc1, hi1⟩
      · go_wp2_with fail
        all_goals
          refine (clone_any _ [] _ (Or.inl ⟨rfl, rfl⟩) (by simp)).mono ?_
          rintro e w1 ⟨v1, rfl, hown1, hb1⟩
          have HO1 := Lib.hid hown1
          have HB1 : Hid (Below w.heap.size w w1) := HB.out.trans (hb1.mono HB.out.size)
          clear hown1 hb1
          go_wp2_with fail
          go_returns
          exact ⟨v1, rfl, by rw [HK.out]; exact OwnsInts.lower (by simpa using HO1.out) HB.out.size, HB1.out⟩
      · have HI := Lib.hid hi1
        clear hi1
        go_wp2_with fail
        all_goals
          refine (clone_any _ (L.take most.toNat) _ (Or.inr ⟨b1, o1, c1, by congr 1; simp; omega, by simp; omega, HI.out.take _⟩) (by simp; omega)).mono ?_
          rintro e w1 ⟨v1, rfl, hown1, hb1⟩
          have HO1 := Lib.hid hown1
          have HB1 : Hid (Below w.heap.size w w1) := HB.out.trans (hb1.mono HB.out.size)
          clear hown1 hb1
          go_wp2_with fail
          go_returns
          exact ⟨v1, rfl, by rw [HK.out]; exact OwnsInts.lower HO1.out HB.out.size, HB1.out⟩
end Go.Proofs.YtbpnnhdhpahbjaaDoor
