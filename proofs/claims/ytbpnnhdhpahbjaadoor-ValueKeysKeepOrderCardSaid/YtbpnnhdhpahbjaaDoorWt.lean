/-
  Walks: words and Key of the reference. Conditions: right values; rows of at most a thousand values.
-/
import Derived.Test.YtbpnnhdhpahbjaaDoorWs
namespace Go.Proofs.YtbpnnhdhpahbjaaDoor
open Go.RowKit Go.Sort

/-- The first j bytes from i on as one number. -/
def accAt (s : ByteArray) (i : Nat) : Nat → Int
  | 0 => 0
  | j + 1 => accAt s i j * 256 + byteAt s (i + j)
def chunkAt (s : ByteArray) (i : Nat) : Int := accAt s i 4 * 256 + min ((s.size - i : Nat) : Int) 4
theorem accAt_bound (s : ByteArray) (i : Nat) : ∀ j, j ≤ 4 → 0 ≤ accAt s i j ∧ accAt s i j < 4294967296 := by
  intro j hj
  have h0 := byteAt_nonneg s i; have h1 := byteAt_nonneg s (i + 1); have h2 := byteAt_nonneg s (i + 2); have h3 := byteAt_nonneg s (i + 3)
  obtain rfl | rfl | rfl | rfl | rfl : j = 0 ∨ j = 1 ∨ j = 2 ∨ j = 3 ∨ j = 4 := by omega
  all_goals (simp only [accAt, Nat.add_zero]; omega)
theorem byteAt_extract (s : ByteArray) (i j : Nat) : byteAt (s.extract i s.size) j = byteAt s (i + j) := by
  unfold byteAt
  by_cases h : j < (s.extract i s.size).size
  · rw [dif_pos h, dif_pos (by simp at h; omega), ByteArray.getElem_extract]
  · rw [dif_neg h, dif_neg (by simp at h; omega)]
theorem chunk_extract (s : ByteArray) (i : Nat) : chunk (s.extract i s.size) = chunkAt s i := by
  unfold chunk chunkAt
  simp only [byteAt_extract, accAt, ByteArray.size_extract, Nat.add_zero, Int.zero_mul, Int.zero_add, Nat.min_self]
/-- The chunks from i on. -/
def chunks (s : ByteArray) : Nat → Nat → List Int
  | 0, _ => []
  | f + 1, i => chunkAt s i :: if s.size < i + 4 then [] else chunks s f (i + 4)
theorem textW_chunks (s : ByteArray) : ∀ (f i : Nat), i ≤ s.size → textW f (s.extract i s.size) = chunks s f i
  | 0, _, _ => rfl
  | f + 1, i, hi => by
    simp only [textW, chunks, chunk_extract, ByteArray.size_extract, Nat.min_self]
    congr 1
    by_cases h : s.size < i + 4
    · rw [if_pos (by omega), if_pos h]
    · rw [if_neg (by omega), if_neg h]
      have e : (s.extract i s.size).extract 4 (s.size - i) = s.extract (i + 4) s.size := by
        rw [ByteArray.extract_extract]; congr 1; omega
      rw [e]
      exact textW_chunks s f (i + 4) (by omega)
theorem textW_all (s : ByteArray) (f : Nat) : textW f s = chunks s f 0 := by
  have := textW_chunks s f 0 (Nat.zero_le _)
  rwa [show s.extract 0 s.size = s by simp] at this
theorem chunks_fuel (s : ByteArray) : ∀ (f g i : Nat), i ≤ s.size → s.size < i + 4 * f → s.size < i + 4 * g → chunks s f i = chunks s g i
  | 0, _, _, _, h, _ => by omega
  | _, 0, _, _, _, h => by omega
  | f + 1, g + 1, i, hi, h1, h2 => by
    simp only [chunks]
    split
    · rfl
    · rw [chunks_fuel s f g (i + 4) (by omega) (by omega) (by omega)]

/-- A block that the call has just laid, as a slice of its own. -/
theorem owns_new {w : World} {base g : Nat} {n : Nat} {cs : Array Value} {l : List Int} (hb : base ≤ g) (h : w.heap[g]? = some (.cells cs 3 (0, 0))) (hn : n = cs.size) (hm : cs.size ≤ maxLen) (e : cs.toList = ints l) : OwnsInts w base (.slice (some ⟨g, 0, none⟩) n n) l := by
  have hl : l.length = cs.size := by have := congrArg List.length e; simpa [ints] using this.symm
  subst hn
  exact ⟨by simp [ints], Or.inr ⟨g, cs.size, cs, by rw [hl], hb, h, by omega, hm, by simp, by rw [← e, hl, Nat.mul_one]; exact List.take_of_length_le (by simp)⟩⟩

set_option maxRecDepth 100000 in
set_option maxHeartbeats 1000000 in
theorem refWords_text (s : ByteArray) (w : World) (hs : s.size ≤ 40) :
    Calls Tryd.prog 62 #[.agg #[.int .i64 2, .int .i64 0, .string s]] w fun e w' => ∃ v', e = .returned v' ∧ OwnsInts w' w.heap.size v' (2 :: textW (s.size + 1) s) ∧ Below w.heap.size w w' := by
  rw [textW_all]
  go_enter Tryd.func62, Tryd.ntmps62
  go_wp2_with fail
  go_loopw [3, 4] (fun o i wr => ∃ (j : Nat) (l : List Int), 4 * j ≤ s.size + 4 ∧ l.length = j + 1 ∧ i = .int .i64 ((4 * j : Nat) : Int) ∧ Hid (OwnsInts wr (w.heap.size + 1) o l) ∧ Hid (2 :: chunks s (s.size + 1) 0 = if s.size < 4 * j then l else l ++ chunks s (s.size + 1) (4 * j)) ∧ Hid (Below (w.heap.size + 1) (w.alloc (Obj.cells #[.int .i64 2, .int .i64 0, .string s] 23)) wr)) (fun _ i _ => s.size + 4 - (intOf i).toNat)
  case atStart => exact ⟨0, [2], by omega, rfl, rfl, owns_new (Nat.le_refl _) (by repeat (first | (refine blk_same _ _ _ ?_; focus (simp; done)) | (refine blk_old ?_ ?_; focus (first | omega | (simp; done) | (simp; omega))))) rfl (by simp [maxLen]) rfl, by show _ = _; simp, (Below.refl _ _).alloc (by simp) _⟩
  case round =>
    obtain ⟨j, l, hj, hjl, rfl, HO, HE, HB⟩ := hrel
    have x2 : wr.cell? ⟨w.heap.size, 2, none⟩ = some (.string s) := HB.out.cell_some (by omega) (by go_cell)
    have HJ := Lib.hid hjl
    obtain ⟨i, hi⟩ : ∃ i, i = 4 * j := ⟨_, rfl⟩
    rw [← hi] at HE ⊢
    have HI := Lib.hid hi
    have hi2 : i ≤ s.size + 4 := by omega
    clear hi hjl
    by_cases hle : i ≤ s.size
    · go_wp2_with fail
      go_loop [5, 6, 7] (fun x n k => ∃ t : Nat, t ≤ 4 ∧ k = .int .i64 ((i + t : Nat) : Int) ∧ x = .int .i64 (accAt s i t) ∧ n = .int .i64 (min ((s.size - i : Nat) : Int) (t : Int))) (fun _ _ k => i + 4 - (intOf k).toNat)
      case atStart => exact ⟨0, by omega, by go_num, rfl, by go_num⟩
      case round =>
        obtain ⟨t, ht, rfl, rfl, rfl⟩ := hrel
        have hab := accAt_bound s i t ht
        by_cases hlt : t < 4
        · have hab1 := accAt_bound s i (t + 1) (by omega)
          have HA : Hid (accAt s i (t + 1) = accAt s i t * 256 + byteAt s (i + t)) := by show _ = _; rfl
          by_cases hin : i + t < s.size
          · have HY := Lib.hid (byteAt_of hin)
            have hby := byteAt_nonneg s (i + t)
            rw [HY.out] at hby
            go_wp2_with fail
            go_round
            case rel => exact ⟨t + 1, by omega, by go_num, by rw [HA.out, HY.out], by go_num⟩
            case measure => simp [intOf]; omega
          · have HY := Lib.hid (byteAt_ge (u := s) (i := i + t) (by omega))
            go_wp2_with fail
            go_round
            case rel => exact ⟨t + 1, by omega, by go_num, by rw [HA.out, HY.out]; go_num, by go_num⟩
            case measure => simp [intOf]; omega
        · obtain rfl : t = 4 := by omega
          have hlen : l.length ≤ 100 := by have := HJ.out; omega
          have HC : Hid (accAt s i 4 * 256 + min ((s.size - i : Nat) : Int) ((4 : Nat) : Int) = chunkAt s i) := by show _ = _; rfl
          go_wp2_with (at_builtin; go_must (refine wpList_append_new rfl _ _ 28 rfl 3 (.int .i64 0) 8 Tryd.underlying28 info3 rfl (w.heap.size + 1) u3 _ _ rfl HO.out #[.int .i64 (accAt s i 4 * 256 + min ((s.size - i : Nat) : Int) ((4 : Nat) : Int))] wr.heap.size rfl rfl (by simp [Value.oneCell']) (by simp; omega) (by simp [maxLen]; omega) (by have := HB.out.size; simp at this; omega) ?_))
          intro v3 w3 hown3 hg3
          have HO3 := Lib.hid hown3
          have HB3 : Hid (Below (w.heap.size + 1) (w.alloc (Obj.cells #[.int .i64 2, .int .i64 0, .string s] 23)) w3) := Below.grown HB.out hg3 (by have := HB.out.size; simp at this; omega) (fun k hk => (World.ownsRow.lt HO.out k hk).1)
          clear hown3 hg3
          go_wp2_with fail
          go_roundw
          case rel => exact ⟨j + 1, l ++ [chunkAt s i], by have := HI.out; omega, by have := HJ.out; simp; omega, by have := HI.out; go_num, OwnsInts.of HO3.out (by rw [ints_append, ← HC.out]; rfl), by
            show _ = _
            have hi4 := HI.out
            rw [HE.out, if_neg (by omega), show 4 * (j + 1) = i + 4 by omega]
            rw [chunks]
            split
            · rfl
            · rw [List.append_assoc]
              congr 2
              exact chunks_fuel s _ _ _ (by omega) (by omega) (by omega), HB3.out⟩
          case measure => simp [intOf]; omega
    · have HR : Hid (2 :: chunks s (s.size + 1) 0 = l) := by show _ = _; rw [HE.out, if_pos (by omega)]
      go_wp2_with fail
      go_returns
      exact ⟨_, rfl, by rw [HR.out]; exact OwnsInts.lower HO.out (by omega), ((Below.refl _ w).alloc (Nat.le_refl _) _).trans (HB.out.mono (by omega))⟩

set_option maxRecDepth 100000 in
theorem refWords_any (v : V) (hv : v.right = true) (w : World) :
    Calls Tryd.prog 62 #[v.val] w fun e w' => ∃ v', e = .returned v' ∧ OwnsInts w' w.heap.size v' v.words ∧ Below w.heap.size w w' := by
  obtain ⟨k, n, s⟩ := v
  rcases right_cases hv with h | h | h | h
  · obtain ⟨h1, h2, h3⟩ := h; simp only at h1 h2 h3; subst h1 h2 h3
    clear hv
    unfold V.val
    go_enter Tryd.func62, Tryd.ntmps62
    go_wp2_with fail
    go_returns
    exact ⟨_, rfl, owns_new (by omega) (by repeat (first | (refine blk_same _ _ _ ?_; focus (simp; done)) | (refine blk_old ?_ ?_; focus (first | omega | (simp; done) | (simp; omega))))) rfl (by simp [maxLen]) rfl, by go_grown⟩
  · obtain ⟨h1, h2, h3, h4⟩ := h; simp only at h1 h2 h3 h4; subst h1 h2
    clear hv
    unfold V.val
    go_enter Tryd.func62, Tryd.ntmps62
    go_wp2_with fail
    go_returns
    exact ⟨_, rfl, owns_new (by omega) (by repeat (first | (refine blk_same _ _ _ ?_; focus (simp; done)) | (refine blk_old ?_ ?_; focus (first | omega | (simp; done) | (simp; omega))))) rfl (by simp [maxLen]) (by simp [ints, V.words]), by go_grown⟩
  · obtain ⟨h1, h2, h3⟩ := h; simp only at h1 h2 h3; subst h1 h2
    exact refWords_text s w h3
  · obtain ⟨h1, h2, h3⟩ := h; simp only at h1 h2 h3; subst h1 h3
    clear hv h2
    unfold V.val
    go_enter Tryd.func62, Tryd.ntmps62
    go_wp2_with fail
    go_returns
    exact ⟨_, rfl, owns_new (by omega) (by repeat (first | (refine blk_same _ _ _ ?_; focus (simp; done)) | (refine blk_old ?_ ?_; focus (first | omega | (simp; done) | (simp; omega))))) rfl (by simp [maxLen]) rfl, by go_grown⟩

/-- append of a slice of integers onto one of the call's own. -/
theorem append_ints {ops : Array Oper} {rest : List Oper} {o : Oper} {a : Act} {Q : Exit → Act → World → Prop} {W : World} (hgd : o.guard = none) (s x : Operand)
    (ho : o.op = .call { callee := .builtin .append, args := #[s, x], argTypes := #[28, 28] }) (base : Nat) (v : Value) (l : List Int) (hs : a.eval s = v) (hown : OwnsInts W base v l)
    (g off cap : Nat) (m : List Int) (hx : a.eval x = .slice (some ⟨g, off, none⟩) m.length cap) (hat : IntsAt W g off m) (hn : l.length + m.length ≤ 10000000) (hbase : base ≤ W.heap.size)
    (h : ∀ v' w', OwnsInts w' base v' (l ++ m) → W.grownBy w' v.ownBlock → wpList Tryd.prog ops Q rest (a.put o.dst v') w') : wpList Tryd.prog ops Q (o :: rest) a W := by
  obtain ⟨i0, hi0, hz0, hz1, hz2⟩ := info_parts info3
  refine wpList_append_own _ hgd s x 28 ho base 3 i0 (.int .i64 0) 1 8 Tryd.underlying28 hi0 hz0 hz1 hz2 rfl (by decide) v _ _ hs hown ⟨g, off, none⟩ m.length cap (ints m) hx (by simp [ints]) ?_ ?_ (by simp [maxLen]; omega) (by omega) hbase ?_
  · intro j u hu
    rw [addr_add']
    simp only [ints, List.getElem?_map, Option.map_eq_some_iff] at hu
    obtain ⟨z, hz, rfl⟩ := hu
    exact hat j z hz
  · intro u hu
    simp only [ints, List.mem_map] at hu
    obtain ⟨z, _, rfl⟩ := hu
    rfl
  · intro v' w' h1 h2 _
    exact h v' w' (OwnsInts.of h1 (by rw [ints_append])) h2
theorem words_pos (v : V) : 0 < v.words.length := by unfold V.words; repeat' split
                                                     all_goals simp
set_option maxRecDepth 100000 in
set_option maxHeartbeats 1000000 in
theorem refKey_any (a : Option Addr) (r : List V) (cap : Nat) (most : Int) (w : World) (h : VSl w a r) (hl : r.length ≤ 1000) (hr : rowRight r = true) :
    Calls Tryd.prog 36 #[.slice a r.length cap, .int .i64 most] w fun e w' => ∃ v', e = .returned v' ∧ IntSlice w' v' ((keyAll r).take most.toNat) ∧ Below w.heap.size w w' := by
  have HS := Lib.hid h
  have HR := Lib.hid hr
  have hka := keyAll_len r hr
  clear h hr
  go_enter Tryd.func36, Tryd.ntmps36
  go_wp2_with fail
  go_loopw [5, 6] (fun o i wr => ∃ k : Nat, k ≤ r.length ∧ i = .int .i64 k ∧ Hid (OwnsInts wr w.heap.size o (keyAll (r.take k))) ∧ Hid (Below w.heap.size w wr)) (fun _ i _ => r.length - (intOf i).toNat)
  case atStart => exact ⟨0, by omega, rfl, by show OwnsInts _ _ _ _; simp only [List.take_zero]; exact World.ownsRow_nil _ _ _ _, Below.refl _ _⟩
  case round =>
    obtain ⟨k, hk, rfl, HO, HB⟩ := hrel
    by_cases hlt : k < r.length
    · obtain ⟨b, off, rfl, hrow⟩ := HS.out (by omega)
      obtain ⟨x, hx⟩ : ∃ x, r[k]? = some x := ⟨r[k], by simp [hlt]⟩
      obtain ⟨c0, c1, c2⟩ := (hrow.kept HB.out) k x hx
      have hxr : x.right = true := List.all_eq_true.1 HR.out x (List.mem_of_getElem? hx)
      have C := Lib.hid (fun w => refWords_any x hxr w)
      have HX := Lib.hid hx
      have hwl := words_len x hxr
      have hwp := words_pos x
      have hkl : (keyAll (r.take k)).length ≤ 42000 := by
        obtain ⟨rest, e⟩ := keyAll_take r k
        have := congrArg List.length e
        simp at this
        omega
      clear hx hrow hxr
      go_wp2_with fail
      refine (C.out _).mono ?_
      rintro e w1 ⟨vw, rfl, hw1, hb1⟩
      have HB1 := Lib.hid (HB.out.step hb1)
      have HO1 := Lib.hid (HO.out.kept hb1)
      obtain ⟨g, o2, cp, rfl, hat⟩ := hw1.slice.at hwp
      have HA := Lib.hid hat
      clear hb1 hw1 hat c0 c1 c2
      go_wp2_with (at_builtin; go_must (refine append_ints rfl _ _ rfl w.heap.size u5 _ rfl HO1.out g o2 cp x.words rfl HA.out (by omega) HB1.out.size ?_))
      intro v3 w3 hown3 hg3
      have HO3 := Lib.hid hown3
      have HB3 : Hid (Below w.heap.size w w3) := Below.grown HB1.out hg3 HB1.out.size (fun k hk => (World.ownsRow.lt HO1.out k hk).1)
      clear hown3 hg3
      go_wp2_with fail
      go_roundw
      case rel => exact ⟨k + 1, by omega, by go_num, by show OwnsInts _ _ _ _; rw [keyAll_snoc r k x HX.out]; exact HO3.out, HB3.out⟩
      case measure => simp [intOf]; omega
    · obtain rfl : k = r.length := by omega
      have hs0 := HO.out.slice
      rw [List.take_length] at hs0
      have HS := Lib.hid hs0
      have hlen : (keyAll r).length ≤ 42000 := by omega
      obtain ⟨L, hL⟩ : ∃ L, L = keyAll r := ⟨_, rfl⟩
      rw [← hL] at HS hlen
      have HL := Lib.hid hL
      clear HO hs0 hL hka
      rcases HS.out with ⟨rfl, rfl⟩ | ⟨b1, o1, c1, rfl, hc1, hi1⟩
      · go_wp2_with fail
        all_goals
          go_returns
          exact ⟨_, rfl, by rw [← HL.out]; exact Or.inl ⟨by first | (simp; done) | (simp; omega), by simp⟩, HB.out⟩
      · have HI := Lib.hid hi1
        clear hi1
        go_wp2_with fail
        all_goals
          go_returns
          exact ⟨_, rfl, by rw [← HL.out]; exact Or.inr ⟨b1, o1, c1, by congr 1; simp; omega, by simp; omega, HI.out.take _⟩, HB.out⟩
end Go.Proofs.YtbpnnhdhpahbjaaDoor
