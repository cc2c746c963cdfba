/-
  Walks: RightRow and CompareRows of the reference, few. For every row of at most a million values; the memory that was there is as it was.
-/
import Derived.Test.YtbpnnhdhpahbjaaDoorL5
import Derived.Test.YtbpnnhdhpahbjaaDoorWk
namespace Go.Proofs.YtbpnnhdhpahbjaaDoor
open Go.RowKit Go.Sort

/-- A slice of values: where it is not empty its cells hold them. -/
def VSl (w : World) (a : Option Addr) (l : List V) : Prop := 0 < l.length → ∃ b off, a = some ⟨b, off, none⟩ ∧ RowAt w b off l
theorem VSl.kept {w w' : World} {a : Option Addr} {l : List V} (h : VSl w a l) (hb : Below w.heap.size w w') : VSl w' a l := fun hl => by
  obtain ⟨b, off, e, h⟩ := h hl
  exact ⟨b, off, e, h.kept hb⟩
theorem RowSlice.sl {w : World} {v : Value} {l : List V} (h : RowSlice w v l) : ∃ a cap, v = .slice a l.length cap ∧ VSl w a l := by
  rcases h with ⟨rfl, rfl⟩ | ⟨b, off, cap, rfl, h⟩
  · exact ⟨none, 0, rfl, fun h => by simp at h⟩
  · exact ⟨_, cap, rfl, fun _ => ⟨b, off, rfl, h⟩⟩
/-- A slice of integers. -/
def ISl (w : World) (a : Option Addr) (l : List Int) : Prop := 0 < l.length → ∃ b off, a = some ⟨b, off, none⟩ ∧ IntsAt w b off l
theorem ISl.kept {w w' : World} {a : Option Addr} {l : List Int} (h : ISl w a l) (hb : Below w.heap.size w w') : ISl w' a l := fun hl => by
  obtain ⟨b, off, e, h⟩ := h hl
  exact ⟨b, off, e, h.kept hb⟩
theorem IntSlice.sl {w : World} {v : Value} {l : List Int} (h : IntSlice w v l) : ∃ a cap, v = .slice a l.length cap ∧ ISl w a l := by
  rcases h with ⟨rfl, rfl⟩ | ⟨b, off, cap, rfl, _, h⟩
  · exact ⟨none, 0, rfl, fun h => by simp at h⟩
  · exact ⟨_, cap, rfl, fun _ => ⟨b, off, rfl, h⟩⟩

set_option maxRecDepth 100000 in
theorem refRightRow_any (a : Option Addr) (l : List V) (cap : Nat) (w : World) (h : VSl w a l) (hl : l.length ≤ 1000000) :
    Calls Tryd.prog 59 #[.slice a l.length cap] w fun e w' => e = .returned (.bool (l.all V.right)) ∧ Below w.heap.size w w' := by
  have HR := Lib.hid h
  clear h
  go_enter Tryd.func59, Tryd.ntmps59
  go_wp2_with fail
  go_loopw [3] (fun i wr => ∃ k : Nat, k ≤ l.length ∧ i = .int .i64 k ∧ Hid ((l.take k).all V.right = true) ∧ Hid (Below w.heap.size w wr)) (fun i _ => l.length - (intOf i).toNat)
  case atStart => exact ⟨0, by omega, rfl, by show _ = _; simp, Below.refl _ _⟩
  case round =>
    obtain ⟨k, hk, rfl, HN, HB⟩ := hrel
    by_cases hlt : k < l.length
    · obtain ⟨b, off, rfl, hr⟩ := HR.out (by omega)
      obtain ⟨v, hv⟩ : ∃ v, l[k]? = some v := ⟨l[k], by simp [hlt]⟩
      obtain ⟨c0, c1, c2⟩ := (hr.kept HB.out) k v hv
      have HV := Lib.hid hv
      clear hv hr
      have C := Lib.hid (fun w => refRight_any v w)
      cases hp : v.right
      all_goals
        have HP := Lib.hid hp
        rw [hp] at C
        clear hp
        go_wp2_with fail
        refine (C.out _).mono ?_
        rintro e w1 ⟨rfl, hb1⟩
        have HB1 := Lib.hid (HB.out.step hb1)
        clear hb1
        go_wp2_with fail
      · go_returns
        refine ⟨ret_bool ?_, HB1.out⟩
        symm
        rw [Bool.eq_false_iff]
        intro hall
        have := (List.all_eq_true.1 hall) v (List.mem_of_getElem? HV.out)
        rw [HP.out] at this
        cases this
      · go_roundw
        case rel => exact ⟨k + 1, by omega, by go_num, by show _ = _; rw [List.take_add_one, List.all_append, HN.out, HV.out]; simp [HP.out], HB1.out⟩
        case measure => simp [intOf]; omega
    · obtain rfl : k = l.length := by omega
      go_wp2_with fail
      go_returns
      exact ⟨ret_bool (by have := HN.out; rw [List.take_length] at this; rw [this]), HB.out⟩

theorem few_any (a : Option Addr) (l : List V) (cap : Nat) (w : World) (h : VSl w a l) (hl : l.length ≤ 9223372036854775807) :
    Calls Tryd.prog 32 #[.slice a l.length cap] w fun e w' => e = .returned (.bool (decide (l.length ≤ 20) && l.all V.right)) ∧ Below w.heap.size w w' := by
  by_cases h20 : l.length ≤ 20
  · have C := Lib.hid (fun w h => refRightRow_any a l cap w h (by omega))
    have HS := Lib.hid h
    clear h
    go_enter Tryd.func32, Tryd.ntmps32
    go_wp2_with fail
    refine (C.out _ HS.out).mono ?_
    rintro e w1 ⟨rfl, hb1⟩
    have HB1 := Lib.hid hb1
    clear hb1
    go_wp2_with fail
    go_returns
    exact ⟨ret_bool (by simp [h20]), HB1.out⟩
  · have e : (decide (l.length ≤ 20) && l.all V.right) = false := by simp [h20]
    rw [e]
    clear h e
    go_enter Tryd.func32, Tryd.ntmps32
    go_wp2_with fail
    go_returns
    exact ⟨rfl, Below.refl _ _⟩

/-- Value by value. -/
def cmpRowsBy (c : V → V → Int) : List V → List V → Int
  | [], [] => 0
  | [], _ :: _ => -1
  | _ :: _, [] => 1
  | a :: x, b :: y => if c a b = 0 then cmpRowsBy c x y else c a b
theorem cmpRowsBy_end (c : V → V → Int) (x y : List V) (h : x = [] ∨ y = []) : cmpRowsBy c x y = cmpI x.length y.length := by
  cases x <;> cases y <;> simp_all [cmpRowsBy, cmpI] <;> omega
theorem cmpRowsBy_cmp : ∀ x y : List V, x.all V.right = true → y.all V.right = true → cmpRowsBy V.rcmp x y = cmpRows x y
  | [], [], _, _ => rfl
  | [], _ :: _, _, _ => rfl
  | _ :: _, [], _, _ => rfl
  | a :: x, b :: y, h1, h2 => by
    simp only [List.all_cons, Bool.and_eq_true] at h1 h2
    simp only [cmpRowsBy, cmpRows, ← V.cmp_rcmp a b h1.1 h2.1, cmpRowsBy_cmp x y h1.2 h2.2]

set_option maxRecDepth 100000 in
set_option maxHeartbeats 1000000 in
theorem refCompareRows_any (a1 a2 : Option Addr) (l1 l2 : List V) (c1 c2 : Nat) (w : World) (h1 : VSl w a1 l1) (h2 : VSl w a2 l2) (hl1 : l1.length ≤ 1000000) (hl2 : l2.length ≤ 1000000) :
    Calls Tryd.prog 33 #[.slice a1 l1.length c1, .slice a2 l2.length c2] w fun e w' => e = .returned (.int .i64 (cmpRowsBy V.rcmp l1 l2)) ∧ Below w.heap.size w w' := by
  have H1 := Lib.hid h1
  have H2 := Lib.hid h2
  clear h1 h2
  have C := Lib.hid sign_any
  go_enter Tryd.func33, Tryd.ntmps33
  go_wp2_with fail
  go_loopw [5] (fun i wr => ∃ k : Nat, k ≤ l1.length ∧ k ≤ l2.length ∧ i = .int .i64 k ∧ Hid (cmpRowsBy V.rcmp l1 l2 = cmpRowsBy V.rcmp (l1.drop k) (l2.drop k)) ∧ Hid (Below w.heap.size w wr)) (fun i _ => l1.length - (intOf i).toNat)
  case atStart => exact ⟨0, by omega, by omega, rfl, by show _ = _; simp, Below.refl _ _⟩
  case round =>
    obtain ⟨k, hk1, hk2, rfl, HT, HB⟩ := hrel
    by_cases hlt : k < l1.length ∧ k < l2.length
    · obtain ⟨hlt1, hlt2⟩ := hlt
      obtain ⟨b1, o1, rfl, hr1⟩ := H1.out (by omega)
      obtain ⟨b2, o2, rfl, hr2⟩ := H2.out (by omega)
      obtain ⟨x, hx⟩ : ∃ x, l1[k]? = some x := ⟨l1[k], by simp [hlt1]⟩
      obtain ⟨y, hy⟩ : ∃ y, l2[k]? = some y := ⟨l2[k], by simp [hlt2]⟩
      obtain ⟨p0, p1, p2⟩ := (hr1.kept HB.out) k x hx
      obtain ⟨q0, q1, q2⟩ := (hr2.kept HB.out) k y hy
      replace p0 := cell_regrown p0; replace p1 := cell_regrown p1; replace p2 := cell_regrown p2
      replace q0 := cell_regrown q0; replace q1 := cell_regrown q1; replace q2 := cell_regrown q2
      have HX := Lib.hid hx
      have HY := Lib.hid hy
      have C1 : Hid (∀ w, Calls Tryd.prog 28 #[.agg #[.int .i64 x.k, .int .i64 x.n, .string x.s], .agg #[.int .i64 y.k, .int .i64 y.n, .string y.s]] w fun e w' => e = .returned (.int .i64 (x.rcmp y)) ∧ Laid w w') := fun w => refCompare_any x y w
      clear hx hy hr1 hr2
      go_wp2_with fail
      refine wp_region_mixed 10 [(0, false), (1, false), (2, false), (3, false), (4, false), (5, false), (6, false), (7, false), (8, false), (9, false)] (by kernel_rfl) (by kernel_rfl) ?_
      repeat (refine wpM_mild rfl (fun K hK => ?_); go_simp; first | (refine hK _ ?_; clear hK K) | (apply Exists.intro; refine ⟨fun _ => ?_, hK _ ?_⟩; (first | with_reducible exact C1.out _); clear hK K))
      refine wpM_end ?_
      intro w1 _ hb1
      have HB1 := Lib.hid (HB.out.step hb1)
      clear hb1 p0 p1 p2 q0 q1 q2
      cases hc : (x.rcmp y != 0)
      · have hc0 : x.rcmp y = 0 := by simpa using hc
        have HC := Lib.hid hc0
        clear hc0
        go_wp2_with fail
        go_roundw
        case rel => exact ⟨k + 1, by omega, by omega, by go_num, by show _ = _; rw [HT.out, drop_of HX.out, drop_of HY.out, cmpRowsBy, if_pos HC.out], HB1.out⟩
        case measure => simp [intOf]; omega
      · have hc0 : ¬ x.rcmp y = 0 := by simpa using hc
        have HC := Lib.hid hc0
        clear hc0
        go_wp2_with fail
        go_returns
        exact ⟨ret_int (by rw [HT.out, drop_of HX.out, drop_of HY.out, cmpRowsBy, if_neg HC.out]), HB1.out⟩
    · have HE : Hid (cmpRowsBy V.rcmp (l1.drop k) (l2.drop k) = cmpI l1.length l2.length) := by
        show _ = _
        rw [cmpRowsBy_end]
        · simp only [List.length_drop]; unfold cmpI; split <;> split <;> first | rfl | omega | (split <;> first | rfl | omega)
        · rcases Nat.lt_or_ge k l1.length with h | h
          · exact .inr (List.drop_of_length_le (by omega))
          · exact .inl (List.drop_of_length_le (by omega))
      by_cases hlt1 : k < l1.length
      · have hlt2 : ¬ k < l2.length := fun h => hlt ⟨hlt1, h⟩
        clear hlt
        go_wp2_with fail
        refine (C.out _ _ _).mono ?_
        rintro e w1 ⟨rfl, rfl⟩
        go_wp2_with fail
        go_returns
        exact ⟨ret_int (by rw [HT.out, HE.out]), HB.out⟩
      · clear hlt
        go_wp2_with fail
        refine (C.out _ _ _).mono ?_
        rintro e w1 ⟨rfl, rfl⟩
        go_wp2_with fail
        go_returns
        exact ⟨ret_int (by rw [HT.out, HE.out]), HB.out⟩
end Go.Proofs.YtbpnnhdhpahbjaaDoor
