/-
  The walk of ValueMatchesSpec: for every two values and every operator it returns true; the memory that was there is as it was. Condition: the table of powers of ten reads as laid.
-/
import Derived.Test.YtbpnnhdhpahbjaaDoorWq
import Derived.Test.YtbpnnhdhpahbjaaDoorPlainO
import Derived.Test.YtbpnnhdhpahbjaaDoorKit6
namespace Go.Proofs.YtbpnnhdhpahbjaaDoor
open Go.RowKit Go.Sort

theorem less_cmp : ∀ a b : List UInt8, Op.bytesLess a b = decide (Lib.compareBytes a b < 0)
  | [], [] => by simp [Op.bytesLess, Lib.compareBytes]
  | _ :: _, [] => by simp [Op.bytesLess, Lib.compareBytes]
  | [], _ :: _ => by simp [Op.bytesLess, Lib.compareBytes]
  | a :: x, b :: y => by
    simp only [Op.bytesLess, Lib.compareBytes]
    by_cases h1 : a < b
    · simp [h1]
    · by_cases h2 : b < a
      · have : a ≠ b := fun e => by subst e; exact h1 h2
        simp [h1, h2, this]
      · have : a = b := UInt8.le_antisymm (UInt8.not_lt.1 h2) (UInt8.not_lt.1 h1)
        subst this
        simp [h1, less_cmp x y]
theorem right_cases {v : V} (h : v.right = true) : (v.k = 0 ∧ v.n = 0 ∧ v.s = ⟨#[]⟩) ∨ (v.k = 1 ∧ v.s = ⟨#[]⟩ ∧ -549755813888 ≤ v.n ∧ v.n ≤ 549755813887) ∨ (v.k = 2 ∧ v.n = 0 ∧ v.s.size ≤ 40) ∨ (v.k = 3 ∧ (v.n = 0 ∨ v.n = 1) ∧ v.s = ⟨#[]⟩) := by
  have hs : ∀ s : ByteArray, s.toList.isEmpty = true → s = ⟨#[]⟩ := fun s h => (toList_inj _ _).1 (by rw [List.isEmpty_iff.1 h]; simp [ByteArray.toList_eq])
  unfold V.right at h
  split at h
  · simp at h; exact .inl ⟨by assumption, h.1, hs _ (by simp [h.2])⟩
  split at h
  · simp at h; exact .inr (.inl ⟨by assumption, hs _ (by simp [h.2]), h.1.1, h.1.2⟩)
  split at h
  · simp at h; exact .inr (.inr (.inl ⟨by assumption, h.1, h.2⟩))
  split at h
  · simp at h; exact .inr (.inr (.inr ⟨by assumption, h.1, hs _ (by simp [h.2])⟩))
  · cases h
theorem cmpS_self (s : ByteArray) : cmpS s s = 0 := (cmpB_zero _ _).2 rfl
theorem cmpI_self (n : Int) : cmpI n n = 0 := (cmpI_zero _ _).2 rfl
theorem V.cmp_rcmp (a b : V) (ha : a.right = true) (hb : b.right = true) : a.cmp b = a.rcmp b := by
  unfold V.cmp V.rcmp
  by_cases hk : a.k = b.k
  · have h0 : cmpI a.k b.k = 0 := (cmpI_zero _ _).2 hk
    rw [h0]
    simp only [hk, bne_self_eq_false, Bool.false_eq_true, if_false]
    have hor : ∀ x y, or3 0 x y = or2 x y := fun x y => by rw [or3_or2, or2_zero rfl]
    rw [hor]
    have hlt : Op.bytesLess a.s.toList b.s.toList = decide (cmpS a.s b.s < 0) := by rw [less_cmp, ByteArray.toList_eq, ByteArray.toList_eq]; rfl
    have heq : (a.s.toList == b.s.toList) = decide (cmpS a.s b.s = 0) := by
      rw [Bool.eq_iff_iff]; simp only [beq_iff_eq, decide_eq_true_eq, cmpS, cmpB_zero, ByteArray.toList_eq]
    rw [hlt, heq]
    have hbd := cmpB_bound a.s.data.toList b.s.data.toList
    have hbd' : -1 ≤ cmpS a.s b.s ∧ cmpS a.s b.s ≤ 1 := hbd
    have hz : cmpI a.n b.n = 0 ∨ cmpS a.s b.s = 0 := by
      rcases right_cases ha with h | h | h | h <;> rcases right_cases hb with h' | h' | h' | h' <;> first | omega | skip
      · exact .inl ((cmpI_zero _ _).2 (by rw [h.2.1, h'.2.1]))
      · exact .inr (by rw [h.2.1, h'.2.1]; exact cmpS_self _)
      · exact .inl ((cmpI_zero _ _).2 (by rw [h.2.1, h'.2.1]))
      · exact .inr (by rw [h.2.2, h'.2.2]; exact cmpS_self _)
    generalize cmpS a.s b.s = y at *
    generalize cmpI a.n b.n = x at *
    unfold or2
    by_cases h1 : x = 0
    · subst h1
      simp
      by_cases h2 : y < 0
      · simp [h2]; omega
      · simp [h2]
        split <;> omega
    · have : y = 0 := by omega
      subst this
      simp [h1]
  · have h0 : cmpI a.k b.k ≠ 0 := fun h => hk ((cmpI_zero _ _).1 h)
    rw [if_pos (by simp [hk]), or3_or2, or2_of h0]
theorem V.decideL_rdec (st : Bool) (a b : V) (ha : a.right = true) (hb : b.right = true) : V.decideL st [a, b] = V.rdec st a b := by
  have hn : ∀ v : V, v.right = true → V.same V.null v = (v.k == 0) := fun v hv => by
    rw [Bool.eq_iff_iff]
    simp only [V.same, decide_eq_true_eq, beq_iff_eq]
    constructor
    · intro h; rw [← h]; rfl
    · intro h
      rcases right_cases hv with h' | h' | h' | h' <;> first | omega | skip
      obtain ⟨k, n, s⟩ := v
      obtain ⟨h1, h2, h3⟩ := h'
      simp only at h1 h2 h3
      rw [h1, h2, h3]; rfl
  have hc : ∀ x y : V, V.same x y = V.same y x := fun x y => by unfold V.same; rw [Bool.eq_iff_iff]; simp [eq_comm]
  unfold V.decideL V.rdec
  simp only [List.all_cons, List.all_nil, List.any_cons, List.any_nil, hn a ha, hn b hb, hc (V.bool st), Bool.and_true, Bool.or_false, Bool.not_and]
theorem V.not_rnot (a : V) (ha : a.right = true) : V.not a = V.rnot a := by
  obtain ⟨k, n, s⟩ := a
  rcases right_cases ha with h | h | h | h
  · obtain ⟨h1, h2, h3⟩ := h; simp only at h1 h2 h3; subst h1 h2 h3; rfl
  · obtain ⟨h1, h2, h3⟩ := h; simp only at h1 h2 h3; subst h1 h2; rfl
  · obtain ⟨h1, h2, h3⟩ := h; simp only at h1 h2 h3; subst h1 h2; rfl
  · obtain ⟨h1, h2, h3⟩ := h; simp only at h1 h2 h3; subst h1 h3
    rcases h2 with rfl | rfl <;> rfl

/-- A call that hands back a value and an error, and lays blocks at most. -/
def Gives (f : Nat) (args : Array Value) (k n : Int) (s : ByteArray) (e : Int) : Prop :=
  ∀ w, Calls Tryd.prog f args w fun x w' => x = .returned (.tuple #[.agg #[.int .i64 k, .int .i64 n, .string s], .int .i64 e]) ∧ Below w.heap.size w w'
theorem gives_of {f g : Nat} {args : Array Value} (r r' : V × Int) (h : r = r') (h1 : ∀ w, Calls Tryd.prog f args w fun e w' => e = .returned (V.pair r) ∧ Below w.heap.size w w') (h2 : ∀ w, Calls Tryd.prog g args w fun e w' => e = .returned (V.pair r') ∧ Below w.heap.size w w') :
    ∃ k n s e, Gives f args k n s e ∧ Gives g args k n s e := by
  subst h
  exact ⟨r.1.k, r.1.n, r.1.s, r.2, h1, h2⟩
theorem neq_same (k n : Int) (s : ByteArray) (w : World) : (binOp .neq 23 (.agg #[.int .i64 k, .int .i64 n, .string s]) (.agg #[.int .i64 k, .int .i64 n, .string s])).run Tryd.prog w = .ok (.bool false) w := by
  rw [neq_V]; simp [V.same]
theorem eql_same (k n : Int) (s : ByteArray) (w : World) : (binOp .eql 23 (.agg #[.int .i64 k, .int .i64 n, .string s]) (.agg #[.int .i64 k, .int .i64 n, .string s])).run Tryd.prog w = .ok (.bool true) w := by
  rw [eql_V]; simp [V.same]

set_option maxRecDepth 100000 in
set_option maxHeartbeats 4000000 in
theorem matches_wrong (a b : V) (wa : a.Wf) (wb : b.Wf) (op : Int) (hr : (a.right && b.right) = false) (w : World) :
    Calls Tryd.prog 5 #[a.val, b.val, .int .i64 op] w fun e w' => e = .returned (.bool true) ∧ Below w.heap.size w w' := by
  have R1 : Hid (∀ w, Calls Tryd.prog 11 #[.agg #[.int .i64 a.k, .int .i64 a.n, .string a.s]] w fun e w' => e = .returned (.bool a.right) ∧ Laid w w') := fun w => refRight_any a w
  have R2 : Hid (∀ w, Calls Tryd.prog 11 #[.agg #[.int .i64 b.k, .int .i64 b.n, .string b.s]] w fun e w' => e = .returned (.bool b.right) ∧ Laid w w') := fun w => refRight_any b w
  have A1 := Lib.hid (fun w => right_any a wa w)
  have A2 := Lib.hid (fun w => right_any b wb w)
  have A3 : Hid (∀ (b0 : Nat) (w : World), RowAt w b0 0 [a, b] → Calls Tryd.prog 20 #[.slice (some ⟨b0, 0, none⟩) 2 2] w fun e w' => e = .returned (.bool (a.right && b.right)) ∧ Below w.heap.size w w') := fun b0 w h =>
    (rightRow_any b0 0 [a, b] 2 w h (by simp) (by simp [wa, wb])).mono (by simp)
  clear wa wb
  generalize a.right = x at *
  generalize b.right = y at *
  unfold V.val
  go_enter Tryd.func5, Tryd.ntmps5
  go_wp2_with fail
  refine St.gen (St.alloc (St.alloc (St.start _))) ?_
  intro w1 S1
  try (simp only [World.size_alloc] at S1)
  have F1 := S1.out.factsG
  simp only [St.FactsG, cellFactsG, and_true] at F1
  refine wp_region_mixed 6 [(0, false), (1, false), (2, false), (3, false), (4, false), (5, false)] (by kernel_rfl) (by kernel_rfl) ?_
  repeat (refine wpM_mild rfl (fun K hK => ?_); go_simp; first | (refine hK _ ?_; clear hK K) | (apply Exists.intro; refine ⟨fun _ => ?_, hK _ ?_⟩; (first | with_reducible exact R1.out _ | with_reducible exact R2.out _); clear hK K))
  refine wpM_end ?_
  intro w2 _ hb2
  refine St.call (S1.out) hb2 ?_
  intro S2
  clear hb2
  try (simp only [List.set_cons_zero, List.set_cons_succ, List.setIfInBounds_toArray, World.size_alloc] at S2)
  clear F1
  have F2 := S2.out.facts
  simp only [St.Facts, cellFacts, apartFacts, and_true] at F2
  go_wp2_with fail
  refine Calls.mono (A1.out _) ?_
  rintro e w3 ⟨rfl, hb3⟩
  refine St.call (S2.out) hb3 ?_
  intro S3
  clear hb3
  try (simp only [List.set_cons_zero, List.set_cons_succ, List.setIfInBounds_toArray, World.size_alloc] at S3)
  clear F2
  have F3 := S3.out.facts
  simp only [St.Facts, cellFacts, apartFacts, and_true] at F3
  have xx : (x != x) = false := by cases x <;> rfl
  have yy : (y != y) = false := by cases y <;> rfl
  go_wp2_with fail
  refine Calls.mono (A2.out _) ?_
  rintro e w4 ⟨rfl, hb4⟩
  refine St.call (S3.out) hb4 ?_
  intro S4
  clear hb4
  try (simp only [List.set_cons_zero, List.set_cons_succ, List.setIfInBounds_toArray, World.size_alloc] at S4)
  clear F3
  have F4 := S4.out.facts
  simp only [St.Facts, cellFacts, apartFacts, and_true] at F4
  go_wp2_with fail
  refine Calls.mono (A3.out _ _ (rowAt_two _ _ a b 23 (by repeat (first | (refine blk_same _ _ _ ?_; focus (simp; done)) | (refine blk_old ?_ ?_; focus (first | omega | (simp; done) | (simp; omega))))))) ?_
  rintro e w5 ⟨rfl, hb5⟩
  refine St.call (St.alloc (S4.out)) hb5 ?_
  intro S5
  clear hb5
  try (simp only [List.set_cons_zero, List.set_cons_succ, List.setIfInBounds_toArray, World.size_alloc] at S5)
  clear F4
  have F5 := S5.out.facts
  simp only [St.Facts, cellFacts, apartFacts, and_true] at F5
  have zz : ((x && y) != (x && y)) = false := by cases x <;> cases y <;> rfl
  cases x
  all_goals cases y
  all_goals first | (cases hr; done) | skip
  all_goals
    go_wp2_with fail
    refine (sanity_any _).mono ?_
    rintro e w6 ⟨rfl, hb6⟩
    refine St.call S5.out hb6 ?_
    intro S6
    clear F5 hb6
    go_wp2_with fail
    go_returns
    exact ⟨rfl, S6.out.below⟩

set_option maxRecDepth 100000 in
set_option maxHeartbeats 8000000 in
theorem matches_right (a b : V) (wa : a.Wf) (wb : b.Wf) (op : Int) (ha : a.right = true) (hb : b.right = true) (w : World) (htab : Lib.TabIs Tryd.prog w "internal/strconv.uint64pow10" .u64 Lib.pow10Tab) :
    Calls Tryd.prog 5 #[a.val, b.val, .int .i64 op] w fun e w' => e = .returned (.bool true) ∧ Below w.heap.size w w' := by
  have R1 : Hid (∀ w, Calls Tryd.prog 11 #[.agg #[.int .i64 a.k, .int .i64 a.n, .string a.s]] w fun e w' => e = .returned (.bool true) ∧ Laid w w') := by have := fun w => refRight_any a w; rw [ha] at this; exact this
  have R2 : Hid (∀ w, Calls Tryd.prog 11 #[.agg #[.int .i64 b.k, .int .i64 b.n, .string b.s]] w fun e w' => e = .returned (.bool true) ∧ Laid w w') := by have := fun w => refRight_any b w; rw [hb] at this; exact this
  have A1 := Lib.hid (fun w => right_any a wa w)
  rw [ha] at A1
  have A2 := Lib.hid (fun w => right_any b wb w)
  rw [hb] at A2
  have A3 : Hid (∀ (b0 : Nat) (w : World), RowAt w b0 0 [a, b] → Calls Tryd.prog 20 #[.slice (some ⟨b0, 0, none⟩) 2 2] w fun e w' => e = .returned (.bool true) ∧ Below w.heap.size w w') := fun b0 w h =>
    (rightRow_any b0 0 [a, b] 2 w h (by simp) (by simp [wa, wb])).mono (by simp [ha, hb])
  obtain ⟨k1, n1, s1, e1, hT1, hT2⟩ := gives_of _ _ (by unfold V.test; rw [V.cmp_rcmp a b ha hb]) (fun w => test_any op a b w) (fun w => refTest_any op a b w)
  obtain ⟨k2, n2, s2, e2, hA1, hA2⟩ := gives_of _ _ (V.decideL_rdec false a b ha hb) (fun w => and_any a b w) (fun w => refAnd_any a b w)
  obtain ⟨k3, n3, s3, e3, hO1, hO2⟩ := gives_of _ _ (V.decideL_rdec true a b ha hb) (fun w => or_any a b w) (fun w => refOr_any a b w)
  have hn0 : -9223372036854775806 ≤ a.n ∧ a.n ≤ 9223372036854775807 := by rcases right_cases ha with h | h | h | h <;> omega
  obtain ⟨k4, n4, s4, e4, hN1, hN2⟩ := gives_of _ _ (V.not_rnot a ha) (fun w => not_any a w hn0.1 hn0.2) (fun w => refNot_any a w)
  have T1 := Lib.hid hT1
  have T2 := Lib.hid hT2
  have B1 := Lib.hid hA1
  have B2 := Lib.hid hA2
  have O1 := Lib.hid hO1
  have O2 := Lib.hid hO2
  have N1 := Lib.hid hN1
  have N2 := Lib.hid hN2
  have C0 : Hid (∀ w, Calls Tryd.prog 12 #[] w fun e w' => e = .returned (.bool true) ∧ Laid w w') := fun w => sanity_any w
  have C1 : Hid (∀ w, Calls Tryd.prog 13 #[.agg #[.int .i64 a.k, .int .i64 a.n, .string a.s], .agg #[.int .i64 b.k, .int .i64 b.n, .string b.s]] w fun e w' => e = .returned (.int .i64 (a.cmp b)) ∧ Laid w w') := fun w => compare_any a b w
  have C2 : Hid (∀ w, Calls Tryd.prog 28 #[.agg #[.int .i64 a.k, .int .i64 a.n, .string a.s], .agg #[.int .i64 b.k, .int .i64 b.n, .string b.s]] w fun e w' => e = .returned (.int .i64 (a.cmp b)) ∧ Laid w w') := fun w => by rw [V.cmp_rcmp a b ha hb]; exact refCompare_any a b w
  have C3 : Hid (∀ w', Below w.heap.size w w' → Calls Tryd.prog 29 #[.agg #[.int .i64 a.k, .int .i64 a.n, .string a.s]] w' fun e w'' => e = .returned (.string ⟨a.print.toArray⟩) ∧ Laid w' w'') := fun w' h => print_any a ha w' (Lib.tabBelow_of_tabIs htab w' h)
  have C4 : Hid (∀ w, Calls Tryd.prog 30 #[.agg #[.int .i64 a.k, .int .i64 a.n, .string a.s]] w fun e w' => e = .returned (.string ⟨a.print.toArray⟩) ∧ Laid w w') := fun w => refPrint_any a ha w
  clear wa wb ha hb hT1 hT2 hA1 hA2 hO1 hO2 hN1 hN2 hn0 htab
  generalize a.cmp b = c at *
  generalize a.print.toArray = tx at *
  unfold V.val at *
  go_enter Tryd.func5, Tryd.ntmps5
  go_wp2_with fail
  refine St.gen (St.alloc (St.alloc (St.start _))) ?_
  intro w1 S1
  try (simp only [World.size_alloc] at S1)
  have F1 := S1.out.factsG
  simp only [St.FactsG, cellFactsG, and_true] at F1
  refine wp_region_mixed 6 [(0, false), (1, false), (2, false), (3, false), (4, false), (5, false)] (by kernel_rfl) (by kernel_rfl) ?_
  repeat (refine wpM_mild rfl (fun K hK => ?_); go_simp; first | (refine hK _ ?_; clear hK K) | (apply Exists.intro; refine ⟨fun _ => ?_, hK _ ?_⟩; (first | with_reducible exact R1.out _ | with_reducible exact R2.out _); clear hK K))
  refine wpM_end ?_
  intro w2 _ hb2
  refine St.call (S1.out) hb2 ?_
  intro S2
  clear hb2
  try (simp only [List.set_cons_zero, List.set_cons_succ, List.setIfInBounds_toArray, World.size_alloc] at S2)
  clear F1
  have F2 := S2.out.facts
  simp only [St.Facts, cellFacts, apartFacts, and_true] at F2
  go_wp2_with fail
  refine Calls.mono (A1.out _) ?_
  rintro e w3 ⟨rfl, hb3⟩
  refine St.call (S2.out) hb3 ?_
  intro S3
  clear hb3
  try (simp only [List.set_cons_zero, List.set_cons_succ, List.setIfInBounds_toArray, World.size_alloc] at S3)
  clear F2
  have F3 := S3.out.facts
  simp only [St.Facts, cellFacts, apartFacts, and_true] at F3
  go_wp2_with fail
  refine Calls.mono (A2.out _) ?_
  rintro e w4 ⟨rfl, hb4⟩
  refine St.call (S3.out) hb4 ?_
  intro S4
  clear hb4
  try (simp only [List.set_cons_zero, List.set_cons_succ, List.setIfInBounds_toArray, World.size_alloc] at S4)
  clear F3
  have F4 := S4.out.facts
  simp only [St.Facts, cellFacts, apartFacts, and_true] at F4
  go_wp2_with fail
  refine Calls.mono (A3.out _ _ (rowAt_two _ _ a b 23 (by repeat (first | (refine blk_same _ _ _ ?_; focus (simp; done)) | (refine blk_old ?_ ?_; focus (first | omega | (simp; done) | (simp; omega))))))) ?_
  rintro e w5 ⟨rfl, hb5⟩
  refine St.call (St.laid (S4.out)) hb5 ?_
  intro S5
  clear hb5
  try (simp only [List.set_cons_zero, List.set_cons_succ, List.setIfInBounds_toArray, World.size_alloc] at S5)
  clear F4
  have F5 := S5.out.facts
  simp only [St.Facts, cellFacts, apartFacts, and_true] at F5
  go_wp2_with fail
  refine Calls.mono (T1.out _) ?_
  rintro e w6 ⟨rfl, hb6⟩
  refine St.call (S5.out) hb6 ?_
  intro S6
  clear hb6
  try (simp only [List.set_cons_zero, List.set_cons_succ, List.setIfInBounds_toArray, World.size_alloc] at S6)
  clear F5
  have F6 := S6.out.facts
  simp only [St.Facts, cellFacts, apartFacts, and_true] at F6
  go_wp2_with fail
  refine Calls.mono (T2.out _) ?_
  rintro e w7 ⟨rfl, hb7⟩
  refine St.call (St.alloc (S6.out)) hb7 ?_
  intro S7
  clear hb7
  try (simp only [List.set_cons_zero, List.set_cons_succ, List.setIfInBounds_toArray, World.size_alloc] at S7)
  clear F6
  have F7 := S7.out.facts
  simp only [St.Facts, cellFacts, apartFacts, and_true] at F7
  have nq := neq_same
  have eq1 := eql_same
  go_wp2_with fail
  refine Calls.mono (B1.out _) ?_
  rintro e w8 ⟨rfl, hb8⟩
  refine St.call (St.alloc (S7.out)) hb8 ?_
  intro S8
  clear hb8
  try (simp only [List.set_cons_zero, List.set_cons_succ, List.setIfInBounds_toArray, World.size_alloc] at S8)
  clear F7
  have F8 := S8.out.facts
  simp only [St.Facts, cellFacts, apartFacts, and_true] at F8
  go_wp2_with fail
  refine Calls.mono (B2.out _) ?_
  rintro e w9 ⟨rfl, hb9⟩
  refine St.call (St.set 1 (St.set 1 (St.set 1 (S8.out) rfl) rfl) rfl) hb9 ?_
  intro S9
  clear hb9
  try (simp only [List.set_cons_zero, List.set_cons_succ, List.setIfInBounds_toArray] at S9)
  clear F8
  have F9 := S9.out.facts
  simp only [St.Facts, cellFacts, apartFacts, and_true] at F9
  go_wp2_with fail
  refine Calls.mono (O1.out _) ?_
  rintro e w10 ⟨rfl, hb10⟩
  refine St.call (St.set 0 (St.set 0 (St.set 0 (S9.out) rfl) rfl) rfl) hb10 ?_
  intro S10
  clear hb10
  try (simp only [List.set_cons_zero, List.set_cons_succ, List.setIfInBounds_toArray] at S10)
  clear F9
  have F10 := S10.out.facts
  simp only [St.Facts, cellFacts, apartFacts, and_true] at F10
  go_wp2_with fail
  refine Calls.mono (O2.out _) ?_
  rintro e w11 ⟨rfl, hb11⟩
  refine St.call (St.set 1 (St.set 1 (St.set 1 (S10.out) rfl) rfl) rfl) hb11 ?_
  intro S11
  clear hb11
  try (simp only [List.set_cons_zero, List.set_cons_succ, List.setIfInBounds_toArray] at S11)
  clear F10
  have F11 := S11.out.facts
  simp only [St.Facts, cellFacts, apartFacts, and_true] at F11
  go_wp2_with fail
  refine Calls.mono (N1.out _) ?_
  rintro e w12 ⟨rfl, hb12⟩
  refine St.call (St.set 0 (St.set 0 (St.set 0 (S11.out) rfl) rfl) rfl) hb12 ?_
  intro S12
  clear hb12
  try (simp only [List.set_cons_zero, List.set_cons_succ, List.setIfInBounds_toArray] at S12)
  clear F11
  have F12 := S12.out.facts
  simp only [St.Facts, cellFacts, apartFacts, and_true] at F12
  go_wp2_with fail
  refine Calls.mono (N2.out _) ?_
  rintro e w13 ⟨rfl, hb13⟩
  refine St.call (St.set 1 (St.set 1 (St.set 1 (S12.out) rfl) rfl) rfl) hb13 ?_
  intro S13
  clear hb13
  try (simp only [List.set_cons_zero, List.set_cons_succ, List.setIfInBounds_toArray] at S13)
  clear F12
  have F13 := S13.out.facts
  simp only [St.Facts, cellFacts, apartFacts, and_true] at F13
  go_wp2_with fail
  refine St.gen (St.set 0 (St.set 0 (St.set 0 (S13.out) rfl) rfl) rfl) ?_
  intro w14 S14
  try (simp only [List.set_cons_zero, List.set_cons_succ, List.setIfInBounds_toArray] at S14)
  clear F13
  have F14 := S14.out.factsG
  simp only [St.FactsG, cellFactsG, and_true] at F14
  have C5 : Hid (∀ d os, Calls Tryd.prog 29 #[.agg #[.int .i64 a.k, .int .i64 a.n, .string a.s]] (grow (redrawn w14 d) os) fun e w'' => e = .returned (.string ⟨tx⟩) ∧ Laid (grow (redrawn w14 d) os) w'') := fun d os => C3.out _ (S14.out.below.step (below_regrown _ _ _))
  refine wp_region_mixed 28 [(0, false), (1, false), (2, false), (3, false), (4, false), (5, false), (6, false), (7, false), (8, false), (9, false), (10, false), (11, false), (12, false), (13, false), (14, false), (15, false), (16, false), (17, false), (18, false), (19, false), (20, false), (21, false), (22, false), (23, false), (24, false), (25, false), (26, false), (27, false)] (by kernel_rfl) (by kernel_rfl) ?_
  repeat (refine wpM_mild rfl (fun K hK => ?_); go_simp; first | (refine hK _ ?_; clear hK K) | (apply Exists.intro; refine ⟨fun _ => ?_, hK _ ?_⟩; (first | with_reducible exact C0.out _ | with_reducible exact C1.out _ | with_reducible exact C2.out _ | with_reducible exact C5.out _ _ | with_reducible exact C4.out _); clear hK K))
  refine wpM_end ?_
  intro w15 _ hb15
  refine St.call (S14.out) hb15 ?_
  intro S15
  clear hb15
  try (simp only [List.set_cons_zero, List.set_cons_succ, List.setIfInBounds_toArray, World.size_alloc] at S15)
  clear F14
  go_wp2_with fail
  go_returns
  exact ⟨rfl, S15.out.below⟩

theorem matches_any (a b : V) (wa : a.Wf) (wb : b.Wf) (op : Int) (w : World) (htab : Lib.TabIs Tryd.prog w "internal/strconv.uint64pow10" .u64 Lib.pow10Tab) :
    Calls Tryd.prog 5 #[a.val, b.val, .int .i64 op] w fun e w' => e = .returned (.bool true) ∧ Below w.heap.size w w' := by
  cases ha : a.right
  · exact matches_wrong a b wa wb op (by simp [ha]) w
  · cases hb : b.right
    · exact matches_wrong a b wa wb op (by simp [hb]) w
    · exact matches_right a b wa wb op ha hb w htab
end Go.Proofs.YtbpnnhdhpahbjaaDoor
