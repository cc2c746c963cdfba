/-
  Walks: numbers of the package script: isWord, number, numbers. Conditions: the variables of the program's text are there. The memory that was there is as it was.
-/
import Derived.Test.YtialgdnkkjmpbaaGreatDoorWb
import Derived.Test.YtialgdnkkjmpbaaGreatDoorKitA
import Derived.Test.YtialgdnkkjmpbaaGreatDoorShelfA
import Derived.Lib.AppendIntMem
namespace Go.Proofs.YtialgdnkkjmpbaaGreatDoor
open Go.RowKit Go.Sort

def formVals : List Value := forms.flatMap fun f => [.string ⟨f.1.toArray⟩, .int .i64 (f.2 : Int)]
/-- The variables of the program's text, as it lays them. -/
structure Env (w : World) : Prop where
  size : 13 ≤ w.heap.size
  forms : CellsAt w 0 0 formVals
  maxLen : ∃ m : Int, w.cell? ⟨1, 0, none⟩ = some (.int .i64 m)
  pow : Lib.TabIs Tryz.prog w "internal/strconv.uint64pow10" .u64 Lib.pow10Tab
  props : Lib.TabIs Tryz.prog w "unicode.properties" .u8 Lib.propertiesTab
  esyn : ∃ t p, w.cell? ⟨6, 0, none⟩ = some (.iface t p)
  eran : ∃ t p, w.cell? ⟨7, 0, none⟩ = some (.iface t p)
theorem Env.same {w w' : World} (h : Env w) (hs : w.heap.size ≤ w'.heap.size) (hb : ∀ k, k < 13 → w'.heap[k]? = w.heap[k]?) : Env w' := by
  have hc : ∀ (k o : Nat), k < 13 → w'.cell? ⟨k, o, none⟩ = w.cell? ⟨k, o, none⟩ := fun k o hk => World.cell?_of_block (a := ⟨k, o, none⟩) (hb k hk)
  refine ⟨Nat.le_trans h.size hs, h.forms.same (hb 0 (by omega)), ?_, ?_, ?_, ?_, ?_⟩
  · rw [hc 1 0 (by omega)]; exact h.maxLen
  · have := h.pow
    unfold Lib.TabIs World.var? at this ⊢
    rw [show Tryz.prog.globalNamed "internal/strconv.uint64pow10" = some 2 by kernel_rfl] at this ⊢
    simp only [Option.bind_some] at this ⊢
    rw [hb 2 (by omega)]; exact this
  · have := h.props
    unfold Lib.TabIs World.var? at this ⊢
    rw [show Tryz.prog.globalNamed "unicode.properties" = some 10 by kernel_rfl] at this ⊢
    simp only [Option.bind_some] at this ⊢
    rw [hb 10 (by omega)]; exact this
  · rw [hc 6 0 (by omega)]; exact h.esyn
  · rw [hc 7 0 (by omega)]; exact h.eran
theorem Env.kept {w w' : World} (h : Env w) (hb : Below w.heap.size w w') : Env w' := h.same hb.size (fun k hk => hb.block k (Nat.lt_of_lt_of_le hk h.size))
theorem Env.turned {M : Nat → Prop} {w w' : World} (h : Env w) (ht : Turn M w w') (hM : ∀ k, M k → 13 ≤ k) : Env w' :=
  h.same ht.size (fun k hk => ht.block k (Nat.lt_of_lt_of_le hk h.size) (fun hm => by have := hM k hm; omega))

theorem itoa_any (n : Int) (h0 : -9223372036854775808 ≤ n) (h1 : n ≤ 9223372036854775807) (w : World) (he : Env w) :
    Calls Tryz.prog 27 #[.int .i64 n] w fun e w' => e = .returned (.string ⟨(Lib.itoa n).toArray⟩) ∧ Below w.heap.size w w' :=
  (Tryz.strconv_Itoa n h0 h1 w he.pow).mono (by rintro e w'' ⟨rfl, k, os, rfl⟩; exact ⟨rfl, Lib.below_grow _ _ (Nat.le_refl _) _ _⟩)
theorem atoi_ok (s : ByteArray) (hs : s.size ≤ 1000000) (v : Int) (h : Lib.atoiAll s.data.toList = .ok v) (w : World) :
    Calls Tryz.prog 83 #[.string s] w fun e w' => e = .returned (.tuple #[.int .i64 v, .nilIface]) ∧ Below w.heap.size w w' :=
  (Tryz.strconv_Atoi_ok s (by omega) v h w).mono (by
    rintro e w' ⟨rfl, rfl | ⟨t, rfl⟩⟩
    · exact ⟨rfl, Below.refl _ _⟩
    · exact ⟨rfl, Lib.bytesWorld_below _ _ _⟩)
theorem atoi_bad (s : ByteArray) (hs : s.size ≤ 1000000) (h : ∀ v, Lib.atoiAll s.data.toList ≠ .ok v) (w : World) (he : Env w) :
    Calls Tryz.prog 83 #[.string s] w fun e w' => ∃ x t N, e = .returned (.tuple #[.int .i64 x, .iface t (.pointer (some ⟨N, 0, none⟩))]) ∧ Below w.heap.size w w' := by
  obtain ⟨t1, p1, h1⟩ := he.esyn
  obtain ⟨t2, p2, h2⟩ := he.eran
  cases hc : Lib.atoiAll s.data.toList
  case ok v => exact absurd hc (h v)
  case range => exact (Any.strconv_Atoi_range Tryz.laysC172 s (by omega) hc _ w h2 (Or.inr ⟨t2, p2, rfl⟩)).mono (by rintro e w' ⟨N, rfl, _, _, hb⟩; exact ⟨_, _, N, rfl, hb⟩)
  all_goals exact (Any.strconv_Atoi_syntax Tryz.laysC172 s (by omega) hc _ w h1 (Or.inr ⟨t1, p1, rfl⟩)).mono (by rintro e w' ⟨N, rfl, _, _, hb⟩; exact ⟨_, _, N, rfl, hb⟩)

theorem notW (n : Int) : (!isW n) = true ↔ n < 0 ∨ 1099511627775 < n := by
  simp only [isW, Bool.not_eq_true', Bool.and_eq_false_iff, decide_eq_false_iff_not]; omega
theorem isWord1_pred (w : World) : PredAt Tryz.prog 70 #[] (fun n : Int => .int .i64 n) (fun n => !isW n) w := fun W n hb => by
  unfold FnGives
  by_cases h1 : n < 0
  · have HW : Hid ((!isW n) = true) := (notW n).2 (.inl h1)
    have t1 : decide (n < 0) = true := decide_eq_true h1
    clear h1
    go_enter Tryz.func70, Tryz.ntmps70
    go_wp2
    go_returns
    exact ⟨ret_bool HW.out.symm, 0, rfl⟩
  · have t1 : decide (n < 0) = false := decide_eq_false h1
    by_cases h2 : 1099511627775 < n
    · have HW : Hid ((!isW n) = true) := (notW n).2 (.inr h2)
      have t2 : decide (1099511627775 < n) = true := decide_eq_true h2
      clear h1 h2
      go_enter Tryz.func70, Tryz.ntmps70
      go_wp2
      go_returns
      exact ⟨ret_bool HW.out.symm, 0, rfl⟩
    · have HW : Hid ((!isW n) = false) := by
        show _ = _
        rw [Bool.eq_false_iff]; intro h; rcases (notW n).1 h with h | h
        · exact h1 h
        · exact h2 h
      have t2 : decide (1099511627775 < n) = false := decide_eq_false h2
      clear h1 h2
      go_enter Tryz.func70, Tryz.ntmps70
      go_wp2
      go_returns
      exact ⟨ret_bool HW.out.symm, 0, rfl⟩
theorem anyNot_all (l : List Int) : l.any (fun n => !isW n) = !l.all isW := by
  induction l with
  | nil => rfl
  | cons a l ih => simp [List.any_cons, List.all_cons, ih]
/-- Integers as they lie in a slice. -/
def zvals (l : List Int) : List Value := l.map fun n => .int .i64 n
theorem containsW (v : Value) (l : List Int) (w : World) (h : SlAt w v l.length (zvals l)) (hl : l.length ≤ 1000000) :
    Calls Tryz.prog 58 #[v, .func (.func 70) #[] #[]] w fun e w' => e = .returned (.bool (!l.all isW)) ∧ Below w.heap.size w w' := by
  obtain ⟨a, cap, rfl, hc, hcells⟩ := h
  by_cases h0 : 0 < l.length
  · obtain ⟨b, o, rfl, hat⟩ := hcells h0
    refine (Tryz.slices_ContainsFunc_f58 (fun n : Int => .int .i64 n) (fun n => !isW n) 70 #[] (enters_of Tryz.func70 (by kernel_rfl) rfl) b o l.length cap l w (isWord1_pred w) (Nat.le_refl _) (by omega) (fun j hj => ?_)).mono ?_
    · exact hat j _ (by simp [zvals, hj])
    · rintro e w' ⟨rfl, q, rfl⟩
      refine ⟨?_, Below.drewN _ _ _⟩
      rw [List.take_length, anyNot_all]
  · have : l = [] := List.eq_nil_of_length_eq_zero (by omega)
    subst this
    refine (Tryz.slices_ContainsFunc_empty_f58 (α := Int) a cap _ w).mono ?_
    rintro e w' ⟨rfl, rfl⟩
    exact ⟨rfl, Below.refl _ _⟩
theorem isWord_any (v : Value) (l : List Int) (w : World) (h : SlAt w v l.length (zvals l)) (hl : l.length ≤ 1000000) :
    Calls Tryz.prog 47 #[v] w fun e w' => e = .returned (.bool (l.all isW)) ∧ Below w.heap.size w w' := by
  have C := Lib.hid (fun w h => containsW v l w h hl)
  have HS := Lib.hid h
  clear h
  generalize hb : l.all isW = b at *
  have HB := Lib.hid hb
  clear hb
  cases b
  all_goals
    go_enter Tryz.func47, Tryz.ntmps47
    go_wp2_with fail
    refine (C.out _ HS.out).mono ?_
    rintro e w1 ⟨rfl, hb1⟩
    have HB1 := Lib.hid hb1
    clear hb1
    go_wp2_with fail
    go_returns
    exact ⟨rfl, HB1.out⟩
theorem slAt_new (w : World) (cs : Array Value) (t : TypeId) (n cap : Nat) (hn : n ≤ cap) : SlAt (w.alloc (.cells cs t)) (.slice (some ⟨w.heap.size, 0, none⟩) n cap) n cs.toList :=
  ⟨_, cap, rfl, hn, fun _ => ⟨_, 0, rfl, fun j u hu => by rw [Nat.zero_add, World.cell?_alloc_at _ _ _ _ rfl]; simpa using hu⟩⟩
theorem slAt_blk {w : World} {b : Nat} {cs : Array Value} {t : TypeId} {fr : Nat × Nat} (h : w.heap[b]? = some (.cells cs t fr)) (n cap : Nat) (hn : n ≤ cap) : SlAt w (.slice (some ⟨b, 0, none⟩) n cap) n cs.toList :=
  ⟨_, cap, rfl, hn, fun _ => ⟨_, 0, rfl, fun j u hu => by simp only [World.cell?, h, Nat.zero_add]; simpa using hu⟩⟩

set_option maxHeartbeats 1000000 in
theorem number_any (s : ByteArray) (hs : s.size ≤ 1000000) (w : World) (he : Env w) : Calls Tryz.prog 60 #[.string s] w fun e w' => NumRes s.data.toList e ∧ Below w.heap.size w w' := by
  have HE := Lib.hid he
  clear he
  rcases num_atoi s.data.toList with ⟨n, hn, ha, hw, hi⟩ | ⟨hn, ha⟩
  · have A := Lib.hid (fun w => atoi_ok s hs n ha w)
    have I := Lib.hid (fun w he => itoa_any n (by simp [isW] at hw; omega) (by simp [isW] at hw; omega) w he)
    have W := Lib.hid (fun w v h => isWord_any v [(n : Int)] w h (by simp))
    simp only [List.all_cons, List.all_nil, Bool.and_true, hw, List.length_cons, List.length_nil, zvals, List.map_cons, List.map_nil] at W
    have HN := Lib.hid hn
    obtain ⟨X, hX⟩ : ∃ X, X = Lib.itoa (n : Int) := ⟨_, rfl⟩
    have f1 : ((⟨X.toArray⟩ : ByteArray).toList == s.toList) = true := by rw [beq_str]; simp [hX, hi]
    have f2 : (X == s.toList) = true := by rw [beq_str']; simp [hX, hi]
    rw [← hX] at I
    clear hn ha hw hi hX
    go_enter Tryz.func60, Tryz.ntmps60
    go_wp2_with fail
    refine Calls.mono (A.out _) ?_
    rintro e w1 ⟨rfl, hb1⟩
    have HB1 := Lib.hid hb1
    clear hb1
    go_wp2_with fail
    refine Calls.mono (W.out _ _ (slAt_new _ _ _ _ _ (by decide))) ?_
    rintro e w2 ⟨rfl, hb2⟩
    have HB2 : Hid (Below w.heap.size w w2) := HB1.out.step (((Below.refl _ _).alloc (Nat.le_refl _) _).step hb2)
    clear hb2 HB1
    go_wp2_with fail
    refine Calls.mono (I.out _ (HE.out.kept HB2.out)) ?_
    rintro e w3 ⟨rfl, hb3⟩
    have HB3 := Lib.hid (HB2.out.step hb3)
    clear hb3 HB2
    go_wp2_with fail
    go_returns
    exact ⟨by simp only [NumRes, HN.out]; rfl, HB3.out⟩
  · have HN := Lib.hid hn
    by_cases hok : ∃ v, Lib.atoiAll s.data.toList = .ok v
    · obtain ⟨v, hv⟩ := hok
      have hb := Lib.atoiAll_bounds hv
      have hf := ha v hv
      have A := Lib.hid (fun w => atoi_ok s hs v hv w)
      have W := Lib.hid (fun w v' h => isWord_any v' [v] w h (by simp))
      simp only [List.all_cons, List.all_nil, Bool.and_true, List.length_cons, List.length_nil, zvals, List.map_cons, List.map_nil] at W
      clear ha hv
      cases hw : isW v
      · rw [hw] at W
        clear hn hf hw hb
        go_enter Tryz.func60, Tryz.ntmps60
        go_wp2_with fail
        refine Calls.mono (A.out _) ?_
        rintro e w1 ⟨rfl, hb1⟩
        have HB1 := Lib.hid hb1
        clear hb1
        go_wp2_with fail
        refine Calls.mono (W.out _ _ (slAt_new _ _ _ _ _ (by decide))) ?_
        rintro e w2 ⟨rfl, hb2⟩
        have HB2 : Hid (Below w.heap.size w w2) := HB1.out.step (((Below.refl _ _).alloc (Nat.le_refl _) _).step hb2)
        clear hb2 HB1
        go_wp2_with fail
        go_returns
        exact ⟨by simp only [NumRes, HN.out]; exact ⟨_, rfl⟩, HB2.out⟩
      · rw [hw] at W
        have I := Lib.hid (fun w he => itoa_any v hb.1 hb.2 w he)
        rw [hw, Bool.true_and, decide_eq_false_iff_not] at hf
        obtain ⟨X, hX⟩ : ∃ X, X = Lib.itoa v := ⟨_, rfl⟩
        have f1 : ((⟨X.toArray⟩ : ByteArray).toList == s.toList) = false := by rw [beq_str]; simp [hX, hf]
        have f2 : (X == s.toList) = false := by rw [beq_str']; simp [hX, hf]
        rw [← hX] at I
        clear hn hf hw hb hX
        go_enter Tryz.func60, Tryz.ntmps60
        go_wp2_with fail
        refine Calls.mono (A.out _) ?_
        rintro e w1 ⟨rfl, hb1⟩
        have HB1 := Lib.hid hb1
        clear hb1
        go_wp2_with fail
        refine Calls.mono (W.out _ _ (slAt_new _ _ _ _ _ (by decide))) ?_
        rintro e w2 ⟨rfl, hb2⟩
        have HB2 : Hid (Below w.heap.size w w2) := HB1.out.step (((Below.refl _ _).alloc (Nat.le_refl _) _).step hb2)
        clear hb2 HB1
        go_wp2_with fail
        refine Calls.mono (I.out _ (HE.out.kept HB2.out)) ?_
        rintro e w3 ⟨rfl, hb3⟩
        have HB3 := Lib.hid (HB2.out.step hb3)
        clear hb3 HB2
        go_wp2_with fail
        go_returns
        exact ⟨by simp only [NumRes, HN.out]; exact ⟨_, rfl⟩, HB3.out⟩
    · have A := Lib.hid (fun w he => atoi_bad s hs (fun v hv => hok ⟨v, hv⟩) w he)
      clear hn hok ha
      go_enter Tryz.func60, Tryz.ntmps60
      go_wp2_with fail
      refine Calls.mono (A.out _ HE.out) ?_
      rintro e w1 ⟨x, t, N, rfl, hb1⟩
      have HB1 := Lib.hid hb1
      clear hb1
      go_wp2_with fail
      go_returns
      exact ⟨by simp only [NumRes, HN.out]; exact ⟨_, rfl⟩, HB1.out⟩

set_option maxRecDepth 100000 in
set_option maxHeartbeats 1000000 in
theorem numbers_any (v : Value) (ps : List Bytes) (w : World) (he : Env w) (h : SlAt w v ps.length (svals ps)) (hl : ps.length ≤ 1000000) (hs : ∀ p ∈ ps, p.length ≤ 1000000) :
    Calls Tryz.prog 37 #[v] w (NumsRes ps (.int .i64 0) (.int .i64 381) w) := by
  obtain ⟨a, cap, rfl, hcap, hcells⟩ := h
  have HC := Lib.hid hcells
  have HS := Lib.hid hs
  have HE := Lib.hid he
  clear hcells hs he
  go_enter Tryz.func37, Tryz.ntmps37
  go_wp2_with fail
  go_loopw [4, 11] (fun o i wr => ∃ (k : Nat) (l : List Nat), k ≤ ps.length ∧ i = .int .i64 k ∧ Hid (nums (ps.take k) = some l) ∧ Hid (l.length = k) ∧ Hid (wr.ownsRow w.heap.size 3 1 o l.length (ivals l)) ∧ Hid (Below w.heap.size w wr)) (fun _ i _ => ps.length - (intOf i).toNat)
  case atStart => exact ⟨0, [], by omega, rfl, by show _ = _; simp [nums], rfl, World.ownsRow_nil _ _ _ _, Below.refl _ _⟩
  case round =>
    obtain ⟨k, l, hk, rfl, HN, HL, HO, HB⟩ := hrel
    by_cases hlt : k < ps.length
    · obtain ⟨b, o, rfl, hc⟩ := HC.out (by omega)
      obtain ⟨p, hp⟩ : ∃ p, ps[k]? = some p := ⟨ps[k], by simp [hlt]⟩
      have x1 : wr.cell? ⟨b, o + k, none⟩ = some (.string ⟨p.toArray⟩) := (hc.kept HB.out) k _ (by simp [svals, hp])
      have HP := Lib.hid hp
      have C := Lib.hid (fun w he => number_any ⟨p.toArray⟩ (HS.out p (List.mem_of_getElem? hp)) w he)
      clear hp hc
      cases hn : num p with
      | none =>
        have HNN : Hid (nums ps = none) := nums_take_none HP.out HN.out hn
        have HZ := Lib.hid hn
        clear hn
        go_wp2_with fail
        refine (C.out _ (HE.out.kept HB.out)).mono ?_
        rintro e w1 ⟨he, hb1⟩
        have HB1 := Lib.hid (HB.out.step hb1)
        clear hb1
        unfold NumRes at he
        rw [show num (ByteArray.mk p.toArray).data.toList = none from HZ.out] at he
        obtain ⟨z, rfl⟩ := he
        go_wp2_with fail
        go_returns
        unfold NumsRes
        rw [HNN.out]
        exact ⟨rfl, HB1.out⟩
      | some n =>
        have HNN : Hid (nums (ps.take (k + 1)) = some (l ++ [n])) := nums_take_some HP.out HN.out hn
        have HZ := Lib.hid hn
        clear hn
        go_wp2_with fail
        refine (C.out _ (HE.out.kept HB.out)).mono ?_
        rintro e w1 ⟨he, hb1⟩
        have HO1 : Hid (w1.ownsRow w.heap.size 3 1 u4 l.length (ivals l)) := HO.out.later hb1
        have HB1 := Lib.hid (HB.out.step hb1)
        clear hb1
        unfold NumRes at he
        rw [show num (ByteArray.mk p.toArray).data.toList = some n from HZ.out] at he
        simp only at he
        subst he
        have hl1 : l.length = k := HL.out
        have hlk := Lib.hid hl1
        have hle : l.length ≤ 1000000 := by omega
        clear hl1
        go_wp2_with (at_builtin; go_must (refine wpList_append_new rfl _ _ 71 rfl 3 (.int .i64 0) 8 Tryz.underlying71 info3 rfl w.heap.size u4 _ _ rfl HO1.out #[.int .i64 (n : Int)] w1.heap.size rfl rfl (by simp [Value.oneCell']) (by simp; omega) (by simp [maxLen]; omega) HB1.out.size ?_))
        intro v3 w3 hown3 hg3
        have HO3 : Hid (w3.ownsRow w.heap.size 3 1 v3 (l ++ [n]).length (ivals (l ++ [n]))) := by show World.ownsRow _ _ _ _ _ _ _; simpa [ivals] using hown3
        have HB3 : Hid (Below w.heap.size w w3) := HB1.out.own HO1.out hg3 (Nat.le_refl _) HB1.out.size
        clear hown3 hg3
        go_wp2_with fail
        go_roundw
        case rel => exact ⟨k + 1, l ++ [n], by omega, by go_num, HNN.out, by show _ = _; simp [hlk.out], HO3.out, HB3.out⟩
        case measure => simp [intOf]; omega
    · obtain rfl : k = ps.length := by omega
      have HN2 : Hid (nums ps = some l) := by have := HN.out; rwa [List.take_length] at this
      clear HN
      go_wp2_with fail
      go_returns
      unfold NumsRes
      rw [HN2.out]
      exact ⟨_, rfl, HO.out, HB.out⟩
end Go.Proofs.YtialgdnkkjmpbaaGreatDoor
