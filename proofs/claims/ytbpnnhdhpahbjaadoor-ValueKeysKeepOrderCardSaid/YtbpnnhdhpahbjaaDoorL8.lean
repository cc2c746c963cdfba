/-
  The walk of ValueKeysKeepOrder: for every two rows and every number it returns true; the memory that was there is as it was.
-/
import Derived.Test.YtbpnnhdhpahbjaaDoorPlainK
namespace Go.Proofs.YtbpnnhdhpahbjaaDoor
open Go.RowKit Go.Sort

set_option maxRecDepth 100000 in
set_option maxHeartbeats 1000000 in
theorem same_any (a1 a2 : Option Addr) (l1 l2 : List V) (c1 c2 : Nat) (w : World) (h1 : VSl w a1 l1) (h2 : VSl w a2 l2) (hl1 : l1.length ≤ 1000000) (hl : l1.length = l2.length) :
    Calls Tryd.prog 39 #[.slice a1 l1.length c1, .slice a2 l1.length c2] w fun e w' => e = .returned (.bool (decide (l1 = l2))) ∧ Below w.heap.size w w' := by
  have H1 := Lib.hid h1
  have H2 := Lib.hid h2
  have HL := Lib.hid hl
  clear h1 h2 hl
  go_enter Tryd.func39, Tryd.ntmps39
  go_wp2_with fail
  go_loopw [5] (fun i wr => ∃ k : Nat, k ≤ l1.length ∧ i = .int .i64 k ∧ Hid (l1.take k = l2.take k) ∧ Hid (Below w.heap.size w wr)) (fun i _ => l1.length - (intOf i).toNat)
  case atStart => exact ⟨0, by omega, rfl, by show _ = _; simp, Below.refl _ _⟩
  case round =>
    obtain ⟨k, hk1, rfl, HT, HB⟩ := hrel
    by_cases hlt1 : k < l1.length
    · have hlt2 : k < l2.length := by have := HL.out; omega
      obtain ⟨b1, o1, rfl, hr1⟩ := H1.out (by omega)
      obtain ⟨b2, o2, rfl, hr2⟩ := H2.out (by omega)
      obtain ⟨x, hx⟩ : ∃ x, l1[k]? = some x := ⟨l1[k], by simp [hlt1]⟩
      obtain ⟨y, hy⟩ : ∃ y, l2[k]? = some y := ⟨l2[k], by simp [hlt2]⟩
      obtain ⟨p0, p1, p2⟩ := (hr1.kept HB.out) k x hx
      obtain ⟨q0, q1, q2⟩ := (hr2.kept HB.out) k y hy
      replace p0 := cell_regrown p0; replace p1 := cell_regrown p1; replace p2 := cell_regrown p2
      replace q0 := cell_regrown q0; replace q1 := cell_regrown q1; replace q2 := cell_regrown q2
      have HX := Lib.hid hx
      have HY := Lib.hid hy
      clear hx hy hr1 hr2
      go_wp2_with fail
      have nq := fun w => neq_V x.k x.n x.s y.k y.n y.s w
      have hs : V.same ⟨x.k, x.n, x.s⟩ ⟨y.k, y.n, y.s⟩ = V.same x y := rfl
      rw [hs] at nq
      clear hs
      cases hc : V.same x y
      all_goals
        rw [hc] at nq
        have HC := Lib.hid hc
        clear hc
        refine wp_region_mixed 9 [(0, false), (1, false), (2, false), (3, false), (4, false), (5, false), (6, false), (7, false), (8, false)] (by kernel_rfl) (by kernel_rfl) ?_
        repeat (refine wpM_mild rfl (fun K hK => ?_); go_simp; first | (refine hK _ ?_; clear hK K) | (apply Exists.intro; refine ⟨fun _ => ?_, hK _ ?_⟩; (fail); clear hK K))
        refine wpM_end ?_
        intro w1 _ hb1
        have HB1 := Lib.hid (HB.out.step hb1)
        clear hb1 p0 p1 p2 q0 q1 q2 nq
        go_wp2_with fail
      · go_returns
        refine ⟨ret_bool ?_, HB1.out⟩
        symm
        rw [decide_eq_false_iff_not]
        intro e
        have hxy : x = y := by
          have h3 := HX.out
          rw [e, HY.out] at h3
          exact (Option.some.inj h3).symm
        have := HC.out
        simp [V.same, hxy] at this
      · have hxy : x = y := by have := HC.out; simpa [V.same] using this
        have HE := Lib.hid hxy
        clear hxy
        go_roundw
        case rel => exact ⟨k + 1, by omega, by go_num, by show _ = _; rw [List.take_add_one, List.take_add_one, HT.out, HX.out, HY.out, HE.out], HB1.out⟩
        case measure => simp [intOf]; omega
    · obtain rfl : k = l1.length := by omega
      have HE : Hid (l1 = l2) := by
        show _ = _
        have h3 := HT.out
        rw [List.take_length] at h3
        rw [h3, HL.out, List.take_length]
      go_wp2_with fail
      go_returns
      exact ⟨ret_bool (by symm; rw [decide_eq_true_eq]; exact HE.out), HB.out⟩

theorem cmpRows_bound (l m : List V) : -1 ≤ cmpRows l m ∧ cmpRows l m ≤ 1 := by
  induction l generalizing m with
  | nil => cases m <;> simp [cmpRows]
  | cons a l ih =>
    cases m with
    | nil => simp [cmpRows]
    | cons b m =>
      simp only [cmpRows]
      split
      · exact ih m
      · exact V.cmp_bound a b
theorem VSl.take {w : World} {a : Option Addr} {l : List V} (h : VSl w a l) (n : Nat) : VSl w a (l.take n) := fun hl => by
  obtain ⟨b, off, e, h⟩ := h (by simp at hl; omega)
  refine ⟨b, off, e, fun i v hv => h i v ?_⟩
  rw [List.getElem?_take] at hv
  split at hv <;> simp_all

set_option maxRecDepth 100000 in
set_option maxHeartbeats 4000000 in
theorem keep_wrong (v1 v2 : Value) (l1 l2 : List V) (most : Int) (w : World) (s1 : RowLike w v1 l1) (s2 : RowLike w v2 l2) (m1 : l1.length ≤ 9223372036854775807) (m2 : l2.length ≤ 9223372036854775807)
    (hr : (fewB l1 && fewB l2) = false) :
    Calls Tryd.prog 8 #[v1, v2, .int .i64 most] w fun e w' => e = .returned (.bool true) ∧ Below w.heap.size w w' := by
  obtain ⟨a1, c1, rfl, h1⟩ := s1
  obtain ⟨a2, c2, rfl, h2⟩ := s2
  have F1 : Hid (∀ w, VSl w a1 l1 → Calls Tryd.prog 32 #[.slice a1 l1.length c1] w fun e w' => e = .returned (.bool (fewB l1)) ∧ Below w.heap.size w w') := fun w h => few_any a1 l1 c1 w h m1
  have F2 : Hid (∀ w, VSl w a2 l2 → Calls Tryd.prog 32 #[.slice a2 l2.length c2] w fun e w' => e = .returned (.bool (fewB l2)) ∧ Below w.heap.size w w') := fun w h => few_any a2 l2 c2 w h m2
  have H1 := Lib.hid h1
  have H2 := Lib.hid h2
  clear h1 h2
  cases f1 : fewB l1
  all_goals rw [f1] at F1 hr
  · clear f1 hr
    go_enter Tryd.func8, Tryd.ntmps8
    go_wp2_with fail
    refine Calls.mono (F1.out _ H1.out) ?_
    rintro e w1 ⟨rfl, hb1⟩
    refine St.call (St.start _) hb1 ?_
    intro S1
    clear hb1
    try (simp only [List.set_cons_zero, List.set_cons_succ, List.setIfInBounds_toArray, World.size_alloc] at S1)
    go_wp2_with fail
    refine Calls.mono (sanity_any _) ?_
    rintro e w2 ⟨rfl, hb2⟩
    refine St.call (S1.out) hb2 ?_
    intro S2
    clear hb2
    try (simp only [List.set_cons_zero, List.set_cons_succ, List.setIfInBounds_toArray, World.size_alloc] at S2)
    go_wp2_with fail
    go_returns
    exact ⟨rfl, S2.out.below⟩
  · clear f1
    rw [Bool.true_and] at hr
    rw [hr] at F2
    clear hr
    go_enter Tryd.func8, Tryd.ntmps8
    go_wp2_with fail
    refine Calls.mono (F1.out _ H1.out) ?_
    rintro e w1 ⟨rfl, hb1⟩
    refine St.call (St.start _) hb1 ?_
    intro S1
    clear hb1
    try (simp only [List.set_cons_zero, List.set_cons_succ, List.setIfInBounds_toArray, World.size_alloc] at S1)
    go_wp2_with fail
    refine Calls.mono (F2.out _ (H2.out.kept S1.out.below)) ?_
    rintro e w2 ⟨rfl, hb2⟩
    refine St.call (S1.out) hb2 ?_
    intro S2
    clear hb2
    try (simp only [List.set_cons_zero, List.set_cons_succ, List.setIfInBounds_toArray, World.size_alloc] at S2)
    go_wp2_with fail
    refine Calls.mono (sanity_any _) ?_
    rintro e w3 ⟨rfl, hb3⟩
    refine St.call (S2.out) hb3 ?_
    intro S3
    clear hb3
    try (simp only [List.set_cons_zero, List.set_cons_succ, List.setIfInBounds_toArray, World.size_alloc] at S3)
    go_wp2_with fail
    go_returns
    exact ⟨rfl, S3.out.below⟩

set_option maxRecDepth 100000 in
set_option maxHeartbeats 8000000 in
theorem keep_right (v1 v2 : Value) (l1 l2 : List V) (most : Int) (w : World) (s1 : RowLike w v1 l1) (s2 : RowLike w v2 l2) (k1 : ∀ a c, v1 = .slice a l1.length c → l1.length ≤ c) (k2 : ∀ a c, v2 = .slice a l2.length c → l2.length ≤ c)
    (r1 : fewB l1 = true) (r2 : fewB l2 = true) :
    Calls Tryd.prog 8 #[v1, v2, .int .i64 most] w fun e w' => e = .returned (.bool true) ∧ Below w.heap.size w w' := by
  have s1' := s1
  have s2' := s2
  obtain ⟨a1, c1, rfl, h1⟩ := s1'
  obtain ⟨a2, c2, rfl, h2⟩ := s2'
  have q1 := k1 a1 c1 rfl
  have q2 := k2 a2 c2 rfl
  have g1 : l1.length ≤ 20 ∧ l1.all V.right = true := by unfold fewB at r1; simpa using r1
  have g2 : l2.length ≤ 20 ∧ l2.all V.right = true := by unfold fewB at r2; simpa using r2
  have hk1 := keyAll_len l1 g1.2
  have hk2 := keyAll_len l2 g2.2
  have hw1 := keyAll_word l1 g1.2
  obtain ⟨o1, o2⟩ := keys_order l1 l2 g1.2 g2.2
  have F1 : Hid (∀ w, VSl w a1 l1 → Calls Tryd.prog 32 #[.slice a1 l1.length c1] w fun e w' => e = .returned (.bool true) ∧ Below w.heap.size w w') := fun w h => (few_any a1 l1 c1 w h (by omega)).mono (by intro e w' he; simpa [g1] using he)
  have F2 : Hid (∀ w, VSl w a2 l2 → Calls Tryd.prog 32 #[.slice a2 l2.length c2] w fun e w' => e = .returned (.bool true) ∧ Below w.heap.size w w') := fun w h => (few_any a2 l2 c2 w h (by omega)).mono (by intro e w' he; simpa [g2] using he)
  have C1 : Hid (∀ w, RowLike w (.slice a1 l1.length c1) l1 → RowLike w (.slice a2 l2.length c2) l2 → Calls Tryd.prog 31 #[.slice a1 l1.length c1, .slice a2 l2.length c2] w fun e w' => e = .returned (.int .i64 (cmpRows l1 l2)) ∧ Below w.heap.size w w') := fun w h h' => compareRowsL_any _ _ l1 l2 w h h' (by omega) (by omega)
  have K1 : Hid (∀ (n : Int) w, RowLike w (.slice a1 l1.length c1) l1 → Calls Tryd.prog 35 #[.slice a1 l1.length c1, .int .i64 n] w fun e w' => ∃ v', e = .returned v' ∧ OwnsInts w' w.heap.size v' ((keyAll l1).take n.toNat) ∧ Below w.heap.size w w') := fun n w h => key_slice _ l1 n w h (by omega) g1.2
  have K2 : Hid (∀ (n : Int) w, RowLike w (.slice a2 l2.length c2) l2 → Calls Tryd.prog 35 #[.slice a2 l2.length c2, .int .i64 n] w fun e w' => ∃ v', e = .returned v' ∧ OwnsInts w' w.heap.size v' ((keyAll l2).take n.toNat) ∧ Below w.heap.size w w') := fun n w h => key_slice _ l2 n w h (by omega) g2.2
  have D1 : Hid (∀ (a3 a4 : Option Addr) (l3 l4 : List Int) (c3 c4 : Nat) (w : World), l3.length ≤ 1000000 → l4.length ≤ 1000000 → ISl w a3 l3 → ISl w a4 l4 → Calls Tryd.prog 37 #[.slice a3 l3.length c3, .slice a4 l4.length c4] w fun e w' => e = .returned (.int .i64 (cmpInts l3 l4)) ∧ Below w.heap.size w w') := fun a3 a4 l3 l4 c3 c4 w m3 m4 h h' => (compareKeys_any a3 a4 l3 l4 c3 c4 w h h' m3 m4).mono (by rintro e w' ⟨rfl, rfl⟩; exact ⟨rfl, Below.refl _ _⟩)
  obtain ⟨n, hn⟩ : ∃ n, n = min l1.length l2.length := ⟨_, rfl⟩
  have hmin : min (l1.length : Int) (l2.length : Int) = (n : Int) := by omega
  have HM := Lib.hid hmin
  have E1 : Hid (∀ w, VSl w a1 l1 → VSl w a2 l2 → Calls Tryd.prog 39 #[.slice a1 n c1, .slice a2 n c2] w fun e w' => e = .returned (.bool (decide (l1.take n = l2.take n))) ∧ Laid w w') := fun w h h' => by
    have := same_any a1 a2 (l1.take n) (l2.take n) c1 c2 w (h.take n) (h'.take n) (by simp; omega) (by simp; omega)
    rwa [show (l1.take n).length = n by simp; omega] at this
  have O2 : Hid ((decide (l1.take n = l2.take n) && (l1.length != l2.length)) = false → cmpInts (keyAll l1) (keyAll l2) = cmpRows l1 l2) := by rw [hn]; exact o2
  have hcb := cmpRows_bound l1 l2
  have hn1 : n ≤ c1 := by omega
  have hn2 : n ≤ c2 := by omega
  have hl20 : l1.length ≤ 20 := g1.1
  have hl21 : l2.length ≤ 20 := g2.1
  have hkk1 : (keyAll l1).length ≤ 840 := by omega
  have hkk2 : (keyAll l2).length ≤ 840 := by omega
  have T1 : Hid ((keyAll l1).take (1000 : Int).toNat = keyAll l1) := List.take_of_length_le (by have : (1000 : Int).toNat = 1000 := rfl; omega)
  have T2 : Hid ((keyAll l2).take (1000 : Int).toNat = keyAll l2) := List.take_of_length_le (by have : (1000 : Int).toNat = 1000 := rfl; omega)
  have S1' := Lib.hid s1
  have S2' := Lib.hid s2
  have H1 := Lib.hid h1
  have H2 := Lib.hid h2
  have HO := Lib.hid (o1 most.toNat)
  have HW := Lib.hid hw1
  clear s1 s2 h1 h2 g1 g2 r1 r2 hk1 hk2 hw1 o1 o2 k1 k2 hn hmin
  go_enter Tryd.func8, Tryd.ntmps8
  go_wp2_with fail
  refine Calls.mono (F1.out _ H1.out) ?_
  rintro e w1 ⟨rfl, hb1⟩
  refine St.call (St.start _) hb1 ?_
  intro S1
  clear hb1
  try (simp only [List.set_cons_zero, List.set_cons_succ, List.setIfInBounds_toArray, World.size_alloc] at S1)
  go_wp2_with fail
  refine Calls.mono (F2.out _ (H2.out.kept S1.out.below)) ?_
  rintro e w2 ⟨rfl, hb2⟩
  refine St.call (S1.out) hb2 ?_
  intro S2
  clear hb2
  try (simp only [List.set_cons_zero, List.set_cons_succ, List.setIfInBounds_toArray, World.size_alloc] at S2)
  go_wp2_with fail
  refine Calls.mono (C1.out _ (S1'.out.kept S2.out.below) (S2'.out.kept S2.out.below)) ?_
  rintro e w3 ⟨rfl, hb3⟩
  refine St.call (S2.out) hb3 ?_
  intro S3
  clear hb3
  try (simp only [List.set_cons_zero, List.set_cons_succ, List.setIfInBounds_toArray, World.size_alloc] at S3)
  go_wp2_with fail
  refine Calls.mono (K1.out _ _ (S1'.out.kept S3.out.below)) ?_
  rintro e w4 ⟨x1, rfl, ho4, hb4⟩
  have I4 := Lib.hid ho4.slice
  refine St.call (S3.out) hb4 ?_
  intro S4
  clear hb4
  try (simp only [List.set_cons_zero, List.set_cons_succ, List.setIfInBounds_toArray, World.size_alloc] at S4)
  clear ho4
  go_wp2_with fail
  refine Calls.mono (K2.out _ _ (S2'.out.kept S4.out.below)) ?_
  rintro e w5 ⟨x2, rfl, ho5, hb5⟩
  have I5 := Lib.hid (I4.out.kept hb5)
  have J5 := Lib.hid ho5.slice
  refine St.call (S4.out) hb5 ?_
  intro S5
  clear hb5
  try (simp only [List.set_cons_zero, List.set_cons_succ, List.setIfInBounds_toArray, World.size_alloc] at S5)
  clear ho5 I4
  obtain ⟨a3, c3, rfl, hi3⟩ := I5.out.sl
  obtain ⟨a4, c4, rfl, hi4⟩ := J5.out.sl
  have hx1 : ((keyAll l1).take most.toNat).length ≤ 840 := by simp; omega
  have hx2 : ((keyAll l2).take most.toNat).length ≤ 840 := by simp; omega
  have hx3 : (((keyAll l1).take most.toNat).length : Int) ≤ max most 0 := by simp; omega
  generalize (keyAll l1).take most.toNat = X1 at *
  generalize (keyAll l2).take most.toNat = X2 at *
  go_wp2_with fail
  refine Calls.mono (D1.out a3 a4 X1 X2 c3 c4 _ (by omega) (by omega) hi3 hi4) ?_
  rintro e w6 ⟨rfl, hb6⟩
  refine St.call (S5.out) hb6 ?_
  intro S6
  clear hb6
  try (simp only [List.set_cons_zero, List.set_cons_succ, List.setIfInBounds_toArray, World.size_alloc] at S6)
  clear hi3 hi4 I5 J5
  obtain ⟨c, hc⟩ : ∃ c, c = cmpRows l1 l2 := ⟨_, rfl⟩
  rw [← hc] at HO O2 hcb ⊢
  clear hc
  obtain ⟨d, hd⟩ : ∃ d, d = cmpInts X1 X2 := ⟨_, rfl⟩
  rw [← hd] at HO ⊢
  clear hd
  have hp : ∃ p : Int, 0 ≤ p ∧ p ≤ 1 ∧ d * c = p := by
    have hcc : c = -1 ∨ c = 0 ∨ c = 1 := by omega
    rcases HO.out with rfl | rfl <;> rcases hcc with rfl | rfl | rfl <;> first | exact ⟨0, by decide, by decide, rfl⟩ | exact ⟨1, by decide, by decide, rfl⟩
  obtain ⟨p, hp0, hp1, hpe⟩ := hp
  have hneg : decide (wrap64 (d * c) < 0) = false := by
    rw [hpe, IntWalk.wrap64_in p ⟨by omega, by omega⟩]
    simpa using hp0
  clear hpe HO hcb hp0 hp1
  go_wp2_with fail
  refine Calls.mono (K1.out _ _ (S1'.out.kept S6.out.below)) ?_
  rintro e w7 ⟨y1, rfl, ho7, hb7⟩
  rw [T1.out] at ho7
  have I7 := Lib.hid ho7.slice
  refine St.call (S6.out) hb7 ?_
  intro S7
  clear hb7
  try (simp only [List.set_cons_zero, List.set_cons_succ, List.setIfInBounds_toArray, World.size_alloc] at S7)
  clear ho7
  go_wp2_with fail
  refine Calls.mono (K2.out _ _ (S2'.out.kept S7.out.below)) ?_
  rintro e w8 ⟨y2, rfl, ho8, hb8⟩
  rw [T2.out] at ho8
  have I8 := Lib.hid (I7.out.kept hb8)
  have J8 := Lib.hid ho8.slice
  refine St.call (S7.out) hb8 ?_
  intro S8
  clear hb8
  try (simp only [List.set_cons_zero, List.set_cons_succ, List.setIfInBounds_toArray, World.size_alloc] at S8)
  clear ho8 I7 K1 K2 T1 T2
  obtain ⟨a5, c5, rfl, hi5⟩ := I8.out.sl
  obtain ⟨a6, c6, rfl, hi6⟩ := J8.out.sl
  generalize keyAll l1 = Y1 at *
  generalize keyAll l2 = Y2 at *
  have A5 := Lib.hid hi5
  have A6 := Lib.hid hi6
  clear hi5 hi6 I8 J8
  obtain ⟨sb, hsb⟩ : ∃ sb, sb = decide (l1.take n = l2.take n) := ⟨_, rfl⟩
  rw [← hsb] at E1 O2
  clear hsb
  obtain ⟨nb, hnb⟩ : ∃ nb, nb = (l1.length != l2.length) := ⟨_, rfl⟩
  rw [← hnb] at O2
  have hnb2 : ((l1.length : Int) != (l2.length : Int)) = nb := by
    rw [hnb, Bool.eq_iff_iff]; simp; omega
  have NB := Lib.hid hnb
  have NB2 := Lib.hid hnb2
  clear hnb hnb2
  go_wp2_with fail
  go_loop [52] (fun i => ∃ k : Nat, k ≤ Y1.length ∧ i = .int .i64 k) (fun i => Y1.length - (intOf i).toNat)
  case atStart => exact ⟨0, by omega, rfl⟩
  case round =>
    obtain ⟨k, hk, rfl⟩ := hrel
    by_cases hlt : k < Y1.length
    · obtain ⟨b, off, rfl, hat⟩ := A5.out (by omega)
      obtain ⟨x, hx⟩ : ∃ x, Y1[k]? = some x := ⟨Y1[k], by simp [hlt]⟩
      have p0 := hat k x hx
      obtain ⟨hx0, hx1'⟩ := HW.out x (List.mem_of_getElem? hx)
      clear hat hx
      go_wp2_with fail
      go_round
      case rel => exact ⟨k + 1, by omega, by go_num⟩
      case measure => simp [intOf]; omega
    · obtain rfl : k = Y1.length := by omega
      go_wp2_with fail
      have hmin := HM.out
      have E2 : Hid (∀ d os, Calls Tryd.prog 39 #[.slice a1 n c1, .slice a2 n c2] (grow (redrawn w8 d) os) fun e w' => e = .returned (.bool sb) ∧ Laid (grow (redrawn w8 d) os) w') := fun d os =>
        E1.out _ (H1.out.kept (S8.out.below.step (below_regrown _ _ _))) (H2.out.kept (S8.out.below.step (below_regrown _ _ _)))
      have nb1 := NB.out.symm
      have nb2 := NB2.out
      cases sb
      all_goals cases nb
      all_goals
        refine wp_region_mixed 23 [(0, false), (1, false), (2, false), (3, false), (4, false), (5, false), (6, false), (7, false), (8, false), (9, false), (10, false), (11, false), (12, false), (13, false), (14, false), (15, false), (16, false), (17, false), (18, false), (19, false), (20, false), (21, false), (22, false)] (by kernel_rfl) (by kernel_rfl) ?_
        repeat (refine wpM_mild rfl (fun K hK => ?_); go_simp; first | (refine hK _ ?_; clear hK K) | (apply Exists.intro; refine ⟨fun _ => ?_, hK _ ?_⟩; (first | with_reducible exact E2.out _ _); clear hK K))
        refine wpM_end ?_
        intro w9 _ hb9
        refine St.call S8.out hb9 ?_
        intro S9
        have A59 := Lib.hid (A5.out.kept hb9)
        have A69 := Lib.hid (A6.out.kept hb9)
        clear hb9 hmin nb1 nb2
        go_wp2_with fail
        refine Calls.mono (sanity_any _) ?_
        rintro e w10 ⟨rfl, hb10⟩
        refine St.call S9.out hb10 ?_
        intro S10
        have A510 := Lib.hid (A59.out.kept hb10)
        have A610 := Lib.hid (A69.out.kept hb10)
        clear hb10
        go_wp2_with fail
      all_goals first
        | (go_returns; exact ⟨rfl, S10.out.below⟩)
        | skip
      all_goals
        have D2 := D1.out a5 a6 Y1 Y2 c5 c6 w10 (by omega) (by omega) A510.out A610.out
        rw [O2.out rfl] at D2
        refine Calls.mono D2 ?_
        rintro e w11 ⟨rfl, hb11⟩
        refine St.call S10.out hb11 ?_
        intro S11
        clear hb11 D2
        go_wp2_with fail
        go_returns
        exact ⟨by simp, S11.out.below⟩

theorem keep_any (v1 v2 : Value) (l1 l2 : List V) (most : Int) (w : World) (s1 : RowLike w v1 l1) (s2 : RowLike w v2 l2) (k1 : ∀ a c, v1 = .slice a l1.length c → l1.length ≤ c) (k2 : ∀ a c, v2 = .slice a l2.length c → l2.length ≤ c)
    (m1 : l1.length ≤ maxLen) (m2 : l2.length ≤ maxLen) :
    Calls Tryd.prog 8 #[v1, v2, .int .i64 most] w fun e w' => e = .returned (.bool true) ∧ Below w.heap.size w w' := by
  unfold maxLen at *
  cases h : (fewB l1 && fewB l2)
  · exact keep_wrong v1 v2 l1 l2 most w s1 s2 (by omega) (by omega) h
  · simp only [Bool.and_eq_true] at h
    exact keep_right v1 v2 l1 l2 most w s1 s2 k1 k2 h.1 h.2
end Go.Proofs.YtbpnnhdhpahbjaaDoor
