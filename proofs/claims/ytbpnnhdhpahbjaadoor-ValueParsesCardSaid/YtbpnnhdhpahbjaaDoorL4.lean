/-
  Walk: ValueLogic returns true for every three values; the memory that was there is as it was.
-/
import Derived.Test.YtbpnnhdhpahbjaaDoorL3
import Derived.Test.YtbpnnhdhpahbjaaDoorKit5
import Derived.Deep.DeepCutAuto
namespace Go.Proofs.YtbpnnhdhpahbjaaDoor
open Go.RowKit Go.Sort

theorem Own3.alloc {w0 w : World} {b : Nat} {x y z : Value} (h : Own3 w0 w b x y z) (o : Obj) : Own3 w0 (w.alloc o) b x y z := h.kept ((Below.refl _ _).alloc (Nat.le_refl _) _)
/-- A block of the call's own that holds a value. -/
abbrev OwnV (w0 w : World) (b : Nat) (v : V) : Prop := Own3 w0 w b (.int .i64 v.k) (.int .i64 v.n) (.string v.s)
theorem Own3.other1 {w0 w : World} {b : Nat} {x y z : Value} (h : Own3 w0 w b x y z) {b2 : Nat} (hne : b2 ≠ b) (h2 : w0.heap.size ≤ b2) (o : Nat) (v : Value) : Own3 w0 (w.setCell ⟨b2, o, none⟩ v) b x y z :=
  ⟨h.below.setCell h2 _, h.old, by rw [Below.heap_setCell _ _ _ _ (Ne.symm hne)]; exact h.block⟩
theorem Own3.other {w0 w : World} {b : Nat} {x y z : Value} (h : Own3 w0 w b x y z) {b2 : Nat} (hne : b2 ≠ b) (h2 : w0.heap.size ≤ b2) (x' y' z' : Value) :
    Own3 w0 (((w.setCell ⟨b2, 0, none⟩ x').setCell ⟨b2, 1, none⟩ y').setCell ⟨b2, 2, none⟩ z') b x y z := ((h.other1 hne h2 _ _).other1 hne h2 _ _).other1 hne h2 _ _
/-- What stands for an unknown value. -/
def stand (a c : V) : V := if a.k = 0 then c else a
/-- Null or a boolean. -/
def LV (v : V) : Prop := v = V.null ∨ v = V.bool false ∨ v = V.bool true
def andV (a b : V) : V := (V.decideL false [a, b]).1
def orV (a b : V) : V := (V.decideL true [a, b]).1
def notV (a : V) : V := (V.not a).1
theorem LV.and {a b : V} (ha : LV a) (hb : LV b) : LV (andV a b) := by
  rcases ha with rfl | rfl | rfl <;> rcases hb with rfl | rfl | rfl <;> (unfold LV; decide +kernel)
theorem LV.or {a b : V} (ha : LV a) (hb : LV b) : LV (orV a b) := by
  rcases ha with rfl | rfl | rfl <;> rcases hb with rfl | rfl | rfl <;> (unfold LV; decide +kernel)
theorem LV.not {a : V} (ha : LV a) : LV (notV a) := by
  rcases ha with rfl | rfl | rfl <;> (unfold LV; decide +kernel)
theorem LV.of {v : V} (hr : v.right = true) (hl : v.k = 0 ∨ v.k = 3) : LV v := by
  obtain ⟨k, n, s⟩ := v
  simp only at hl
  have he : s.toList = [] → s = ⟨#[]⟩ := fun h => (toList_inj s ⟨#[]⟩).1 (by rw [h, ByteArray.toList_eq])
  rcases hl with rfl | rfl
  · simp [V.right] at hr
    obtain ⟨rfl, h⟩ := hr
    rw [he h]; exact Or.inl rfl
  · simp [V.right] at hr
    obtain ⟨h1, h⟩ := hr
    rw [he h]
    rcases h1 with rfl | rfl
    · exact Or.inr (Or.inl rfl)
    · exact Or.inr (Or.inr rfl)
section
variable {a b c : V} (ha : LV a) (hb : LV b) (hc : LV c)
include ha hb
theorem lg1 : V.same (andV a b) (andV b a) = true := by rcases ha with rfl | rfl | rfl <;> rcases hb with rfl | rfl | rfl <;> decide +kernel
theorem lg2 : V.same (orV a b) (orV b a) = true := by rcases ha with rfl | rfl | rfl <;> rcases hb with rfl | rfl | rfl <;> decide +kernel
theorem lg8 : V.same (notV (andV a b)) (orV (notV a) (notV b)) = true := by rcases ha with rfl | rfl | rfl <;> rcases hb with rfl | rfl | rfl <;> decide +kernel
include hc
theorem lg3 : V.same (andV a (andV b c)) (andV (andV a b) c) = true := by rcases ha with rfl | rfl | rfl <;> rcases hb with rfl | rfl | rfl <;> rcases hc with rfl | rfl | rfl <;> decide +kernel
theorem lg4 : V.same (orV a (orV b c)) (orV (orV a b) c) = true := by rcases ha with rfl | rfl | rfl <;> rcases hb with rfl | rfl | rfl <;> rcases hc with rfl | rfl | rfl <;> decide +kernel
theorem lg5 : V.same (andV a (orV b c)) (orV (andV a b) (andV a c)) = true := by rcases ha with rfl | rfl | rfl <;> rcases hb with rfl | rfl | rfl <;> rcases hc with rfl | rfl | rfl <;> decide +kernel
theorem lg6 : V.same (orV a (andV b c)) (andV (orV a b) (orV a c)) = true := by rcases ha with rfl | rfl | rfl <;> rcases hb with rfl | rfl | rfl <;> rcases hc with rfl | rfl | rfl <;> decide +kernel
/-- The unknown value's stand-in. -/
theorem lg9 (h0 : c.k ≠ 0) : (andV a b).k = 0 ∨ V.same (andV (stand a c) (stand b c)) (andV a b) = true := by
  rcases ha with rfl | rfl | rfl <;> rcases hb with rfl | rfl | rfl <;> rcases hc with rfl | rfl | rfl <;> first | (exact absurd rfl h0) | (clear h0; decide +kernel)
theorem lg10 (h0 : c.k ≠ 0) : (orV a b).k = 0 ∨ V.same (orV (stand a c) (stand b c)) (orV a b) = true := by
  rcases ha with rfl | rfl | rfl <;> rcases hb with rfl | rfl | rfl <;> rcases hc with rfl | rfl | rfl <;> first | (exact absurd rfl h0) | (clear h0; decide +kernel)
end
theorem lg7 {a : V} (ha : LV a) : V.same (notV (notV a)) a = true := by rcases ha with rfl | rfl | rfl <;> decide +kernel

theorem rowAt_three (w : World) (b : Nat) (x y z : V) (t : TypeId) (h : w.heap[b]? = some (.cells #[.int .i64 x.k, .int .i64 x.n, .string x.s, .int .i64 y.k, .int .i64 y.n, .string y.s, .int .i64 z.k, .int .i64 z.n, .string z.s] t (0, 0))) : RowAt w b 0 [x, y, z] := by
  rintro (_ | _ | _ | i) v hv
  · obtain rfl : x = v := by simpa using hv
    simp [World.cell?, h]
  · obtain rfl : y = v := by simpa using hv
    simp [World.cell?, h]
  · obtain rfl : z = v := by simpa using hv
    simp [World.cell?, h]
  · simp at hv
/-- A value's three fields. -/
abbrev V.parts (v : V) : Value := .agg #[.int .i64 v.k, .int .i64 v.n, .string v.s]

set_option maxRecDepth 100000 in
theorem lawAnd_any (a b : V) (w : World) : Calls Tryd.prog 16 #[a.parts, b.parts] w fun e w' => e = .returned (andV a b).parts ∧ Below w.heap.size w w' := by
  unfold andV
  go_enter Tryd.func16, Tryd.ntmps16
  go_wp2_with fail
  refine (and_any a b _).mono ?_
  rintro e w1 ⟨rfl, hb1⟩
  have o1 : Own3 w w1 (w.heap.size + 1 + 1) (.int .i64 0) (.int .i64 0) (.string ⟨#[]⟩) := Own3.kept ⟨by go_grown, by omega, by repeat (first | (refine blk_same _ _ _ ?_; focus (simp; done)) | (refine blk_old ?_ ?_; focus (first | omega | (simp; done) | (simp; omega))))⟩ hb1
  obtain ⟨⟨z1, z2, z3⟩, ⟨f1, f2, f3⟩, hs1⟩ := o1.facts
  have O1 := Lib.hid o1
  clear hb1 o1
  obtain ⟨⟨⟨k, n, s⟩, er⟩, hp⟩ : ∃ p, V.decideL false [a, b] = p := ⟨_, rfl⟩
  rw [hp]
  have HP := Lib.hid hp
  clear hp
  unfold V.pair V.val
  go_wp2_with fail
  have o2 := (O1.out.stored (.int .i64 k) (.int .i64 n) (.string s)).alloc (Obj.cells #[.int .i64 k, .int .i64 n, .string s] 23)
  obtain ⟨⟨y1, y2, y3⟩, _, _⟩ := o2.facts
  refine bodyPost_ret (v := V.parts ⟨k, n, s⟩) (by simp [results, Tryd.results16, go_sem, y1, y2, y3]) rfl ?_
  exact ⟨by rw [HP.out], o2.below⟩
set_option maxRecDepth 100000 in
theorem lawOr_any (a b : V) (w : World) : Calls Tryd.prog 17 #[a.parts, b.parts] w fun e w' => e = .returned (orV a b).parts ∧ Below w.heap.size w w' := by
  unfold orV
  go_enter Tryd.func17, Tryd.ntmps17
  go_wp2_with fail
  refine (or_any a b _).mono ?_
  rintro e w1 ⟨rfl, hb1⟩
  have o1 : Own3 w w1 (w.heap.size + 1 + 1) (.int .i64 0) (.int .i64 0) (.string ⟨#[]⟩) := Own3.kept ⟨by go_grown, by omega, by repeat (first | (refine blk_same _ _ _ ?_; focus (simp; done)) | (refine blk_old ?_ ?_; focus (first | omega | (simp; done) | (simp; omega))))⟩ hb1
  obtain ⟨⟨z1, z2, z3⟩, ⟨f1, f2, f3⟩, hs1⟩ := o1.facts
  have O1 := Lib.hid o1
  clear hb1 o1
  obtain ⟨⟨⟨k, n, s⟩, er⟩, hp⟩ : ∃ p, V.decideL true [a, b] = p := ⟨_, rfl⟩
  rw [hp]
  have HP := Lib.hid hp
  clear hp
  unfold V.pair V.val
  go_wp2_with fail
  have o2 := (O1.out.stored (.int .i64 k) (.int .i64 n) (.string s)).alloc (Obj.cells #[.int .i64 k, .int .i64 n, .string s] 23)
  obtain ⟨⟨y1, y2, y3⟩, _, _⟩ := o2.facts
  refine bodyPost_ret (v := V.parts ⟨k, n, s⟩) (by simp [results, Tryd.results17, go_sem, y1, y2, y3]) rfl ?_
  exact ⟨by rw [HP.out], o2.below⟩
theorem LV.n {a : V} (h : LV a) : 0 ≤ a.n ∧ a.n ≤ 1 := by rcases h with rfl | rfl | rfl <;> decide
set_option maxRecDepth 100000 in
theorem lawNot_any (a : V) (ha : LV a) (w : World) : Calls Tryd.prog 18 #[a.parts] w fun e w' => e = .returned (notV a).parts ∧ Below w.heap.size w w' := by
  have hn := ha.n
  unfold notV
  have HN : Hid (∀ w, Calls Tryd.prog 26 #[a.val] w fun e w' => e = .returned (V.pair (V.not a)) ∧ Below w.heap.size w w') := fun w => not_any a w (by omega) (by omega)
  clear hn ha
  go_enter Tryd.func18, Tryd.ntmps18
  go_wp2_with fail
  refine (HN.out _).mono ?_
  rintro e w1 ⟨rfl, hb1⟩
  have o1 : Own3 w w1 (w.heap.size + 1) (.int .i64 0) (.int .i64 0) (.string ⟨#[]⟩) := Own3.kept ⟨by go_grown, by omega, by repeat (first | (refine blk_same _ _ _ ?_; focus (simp; done)) | (refine blk_old ?_ ?_; focus (first | omega | (simp; done) | (simp; omega))))⟩ hb1
  obtain ⟨⟨z1, z2, z3⟩, ⟨f1, f2, f3⟩, hs1⟩ := o1.facts
  have O1 := Lib.hid o1
  clear hb1 o1 HN
  obtain ⟨⟨⟨k, n, s⟩, er⟩, hp⟩ : ∃ p, V.not a = p := ⟨_, rfl⟩
  rw [hp]
  have HP := Lib.hid hp
  clear hp
  unfold V.pair V.val
  go_wp2_with fail
  have o2 := (O1.out.stored (.int .i64 k) (.int .i64 n) (.string s)).alloc (Obj.cells #[.int .i64 k, .int .i64 n, .string s] 23)
  obtain ⟨⟨y1, y2, y3⟩, _, _⟩ := o2.facts
  refine bodyPost_ret (v := V.parts ⟨k, n, s⟩) (by simp [results, Tryd.results18, go_sem, y1, y2, y3]) rfl ?_
  exact ⟨by rw [HP.out], o2.below⟩

def rl (v : V) : Bool := v.right && (decide (v.k = 0) || decide (v.k = 3))

set_option maxRecDepth 100000 in
set_option maxHeartbeats 4000000 in
theorem logic_any (a b c : V) (w : World) : Calls Tryd.prog 4 #[a.parts, b.parts, c.parts] w fun e w' => e = .returned (.bool true) ∧ Below w.heap.size w w' := by
  go_enter Tryd.func4, Tryd.ntmps4
  go_wp2_with fail
  refine wp_gen (fun W => HasV W w.heap.size a ∧ HasV W (w.heap.size + 1) b ∧ HasV W (w.heap.size + 1 + 1) c ∧ RowAt W (w.heap.size + 1 + 1 + 1) 0 [a, b, c] ∧ Below w.heap.size w W) ⟨by show _ = _; repeat (first | (refine blk_same _ _ _ ?_; focus (simp; done)) | (refine blk_old ?_ ?_; focus (first | omega | (simp; done) | (simp; omega)))), by show _ = _; repeat (first | (refine blk_same _ _ _ ?_; focus (simp; done)) | (refine blk_old ?_ ?_; focus (first | omega | (simp; done) | (simp; omega)))), by show _ = _; repeat (first | (refine blk_same _ _ _ ?_; focus (simp; done)) | (refine blk_old ?_ ?_; focus (first | omega | (simp; done) | (simp; omega)))), rowAt_three _ _ a b c 23 (by repeat (first | (refine blk_same _ _ _ ?_; focus (simp; done)) | (refine blk_old ?_ ?_; focus (first | omega | (simp; done) | (simp; omega))))), by go_grown⟩ ?_
  rintro w0 ⟨ha, hb, hc, hr, hl⟩
  have HA := Lib.hid ha; have HB := Lib.hid hb; have HC := Lib.hid hc; have HR := Lib.hid hr; have HL := Lib.hid hl
  clear ha hb hc hr hl
  go_loopw [7, 19] (fun o i wr => ∃ k : Nat, k ≤ 3 ∧ i = .int .i64 k ∧ o = .bool (([a, b, c].take k).all rl) ∧ Below w0.heap.size w0 wr) (fun _ i _ => 3 - (intOf i).toNat)
  case atStart => exact ⟨0, by omega, rfl, rfl, Below.refl _ _⟩
  case round =>
    obtain ⟨k, hk, rfl, rfl, hbr⟩ := hrel
    have HW := Lib.hid hbr
    clear hbr
    by_cases hlt : k < 3
    · obtain ⟨v, hv⟩ : ∃ v, [a, b, c][k]? = some v := ⟨[a, b, c][k], by simp [hlt]⟩
      obtain ⟨c0, c1, c2⟩ := (HR.out.kept HW.out) k v hv
      simp only [Nat.zero_add] at c0 c1 c2
      have HS : Hid (([a, b, c].take (k + 1)).all rl = (([a, b, c].take k).all rl && rl v)) := by
        show _ = _
        rw [List.take_add_one, hv]; simp
      clear hv
      generalize ([a, b, c].take k).all rl = lb at *
      cases lb
      · go_wp2_with fail
        go_roundw
        case rel => exact ⟨k + 1, by omega, by go_num, by rw [HS.out]; rfl, HW.out.alloc HW.out.size _⟩
        case measure => simp [intOf]; omega
      · have RR := Lib.hid (fun w => refRight_any v w)
        go_wp2_with fail
        refine (RR.out _).mono ?_
        rintro e w1 ⟨rfl, hb1⟩
        have o1 : Own3 wr w1 wr.heap.size (.int .i64 v.k) (.int .i64 v.n) (.string v.s) := (own3_new wr _ _ _).kept hb1
        obtain ⟨⟨z1, _, _⟩, _, _⟩ := o1.facts
        replace HW := Lib.hid (HW.out.step o1.below)
        clear hb1 o1 c0 c1 c2
        cases hvr : v.right
        · go_wp2_with fail
          go_roundw
          case rel => exact ⟨k + 1, by omega, by go_num, by rw [HS.out, rl, hvr]; rfl, HW.out⟩
          case measure => simp [intOf]; omega
        · go_wp2_with fail
          all_goals
            go_roundw
            case rel => exact ⟨k + 1, by omega, by go_num, by rw [HS.out, rl, hvr]; first | (simp [*]; done) | (simp [*]; grind), HW.out⟩
            case measure => simp [intOf]; omega
    · obtain rfl : k = 3 := by omega
      cases hall : ([a, b, c].take 3).all rl
      · go_wp2_with fail
        refine (sanity_any _).mono ?_
        rintro e w5 ⟨rfl, hb5⟩
        go_wp2_with fail
        go_returns
        exact ⟨rfl, (HL.out.step HW.out).step hb5⟩
      · as_aux_lemma =>
          have hall' : rl a = true ∧ rl b = true ∧ rl c = true := by simpa using hall
          obtain ⟨ra, rb, rc⟩ := hall'
          simp only [rl, Bool.and_eq_true, Bool.or_eq_true, decide_eq_true_eq] at ra rb rc
          have la := LV.of ra.1 ra.2
          have lb := LV.of rb.1 rb.2
          have lc := LV.of rc.1 rc.2
          have F1 := lg1 la lb; have F2 := lg2 la lb; have F3 := lg3 la lb lc; have F4 := lg4 la lb lc
          have C1 : Hid (∀ x y w, Calls Tryd.prog 16 #[V.parts x, V.parts y] w fun e w' => e = .returned (andV x y).parts ∧ Laid w w') := fun x y w => lawAnd_any x y w
          have C2 : Hid (∀ x y w, Calls Tryd.prog 17 #[V.parts x, V.parts y] w fun e w' => e = .returned (orV x y).parts ∧ Laid w w') := fun x y w => lawOr_any x y w
          have C3 : Hid (∀ x (_ : LV x) w, Calls Tryd.prog 18 #[V.parts x] w fun e w' => e = .returned (notV x).parts ∧ Laid w w') := fun x h w => lawNot_any x h w
          have LA := Lib.hid la; have LB := Lib.hid lb; have LC := Lib.hid lc
          clear la lb lc ra rb rc hall
          replace HA := Lib.hid (HA.out.kept HW.out); replace HB := Lib.hid (HB.out.kept HW.out); replace HC := Lib.hid (HC.out.kept HW.out); replace HL := Lib.hid (HL.out.step HW.out)
          clear HR HW
          go_wp2_with fail
          obtain ⟨a0, a1, a2⟩ := HA.out.cells
          replace a0 := cell_regrown a0; replace a1 := cell_regrown a1; replace a2 := cell_regrown a2
          obtain ⟨b0, b1, b2⟩ := HB.out.cells
          replace b0 := cell_regrown b0; replace b1 := cell_regrown b1; replace b2 := cell_regrown b2
          obtain ⟨c0, c1, c2⟩ := HC.out.cells
          replace c0 := cell_regrown c0; replace c1 := cell_regrown c1; replace c2 := cell_regrown c2
          have neq := neq_V
          refine wp_region_mixed 42 [(0, false), (1, false), (2, false), (3, false), (4, false), (5, false), (6, false), (7, false), (8, false), (9, false), (10, false), (11, false), (12, false), (13, false), (14, false), (15, false), (16, false), (17, false), (18, false), (19, false), (20, false), (21, false), (22, false), (23, false), (24, false), (25, false), (26, false), (27, false), (28, false), (29, false), (30, false), (31, false), (32, false), (33, false), (34, false), (35, false), (36, false), (37, false), (38, false), (39, false), (40, false), (41, false)] (by kernel_rfl) (by kernel_rfl) ?_
          repeat (refine wpM_mild rfl (fun K hK => ?_); go_simp; first | (refine hK _ ?_; clear hK K) | (apply Exists.intro; refine ⟨fun _ => ?_, hK _ ?_⟩; (first | with_reducible exact C1.out _ _ _ | with_reducible exact C2.out _ _ _); clear hK K))
          refine wpM_end ?_
          intro w1 _ hb1
          replace HA := Lib.hid (HA.out.kept hb1); replace HB := Lib.hid (HB.out.kept hb1); replace HC := Lib.hid (HC.out.kept hb1); replace HL := Lib.hid (HL.out.step hb1)
          clear hb1 F1 F2 F3 F4 a0 a1 a2 b0 b1 b2 c0 c1 c2
          go_wp2_with fail
          have F5 := lg5 LA.out LB.out LC.out; have F6 := lg6 LA.out LB.out LC.out; have F7 := lg7 LA.out; have F8 := lg8 LA.out LB.out
          obtain ⟨a0, a1, a2⟩ := HA.out.cells
          replace a0 := cell_regrown a0; replace a1 := cell_regrown a1; replace a2 := cell_regrown a2
          obtain ⟨b0, b1, b2⟩ := HB.out.cells
          replace b0 := cell_regrown b0; replace b1 := cell_regrown b1; replace b2 := cell_regrown b2
          obtain ⟨c0, c1, c2⟩ := HC.out.cells
          replace c0 := cell_regrown c0; replace c1 := cell_regrown c1; replace c2 := cell_regrown c2
          refine wp_region_mixed 47 [(0, false), (1, false), (2, false), (3, false), (4, false), (5, false), (6, false), (7, false), (8, false), (9, false), (10, false), (11, false), (12, false), (13, false), (14, false), (15, false), (16, false), (17, false), (18, false), (19, false), (20, false), (21, false), (22, false), (23, false), (24, false), (25, false), (26, false), (27, false), (28, false), (29, false), (30, false), (31, false), (32, false), (33, false), (34, false), (35, false), (36, false), (37, false), (38, false), (39, false), (40, false), (41, false), (42, false), (43, false), (44, false), (45, false), (46, false)] (by kernel_rfl) (by kernel_rfl) ?_
          repeat (refine wpM_mild rfl (fun K hK => ?_); go_simp; first | (refine hK _ ?_; clear hK K) | (apply Exists.intro; refine ⟨fun _ => ?_, hK _ ?_⟩; (first | with_reducible exact C1.out _ _ _ | with_reducible exact C2.out _ _ _ | with_reducible exact C3.out _ LA.out _ | with_reducible exact C3.out _ LB.out _ | with_reducible exact C3.out _ LA.out.not _ | with_reducible exact C3.out _ (LA.out.and LB.out) _); clear hK K))
          refine wpM_end ?_
          intro w2 _ hb1
          replace HA := Lib.hid (HA.out.kept hb1); replace HB := Lib.hid (HB.out.kept hb1); replace HC := Lib.hid (HC.out.kept hb1); replace HL := Lib.hid (HL.out.step hb1)
          clear hb1 F5 F6 F7 F8 a0 a1 a2 b0 b1 b2 c0 c1 c2 neq
          go_upto_region 13 with fail
          go_cut [10, 11] (fun x y wx => ∃ bx cy : Nat, x = .pointer (some ⟨bx, 0, none⟩) ∧ y = .pointer (some ⟨cy, 0, none⟩) ∧ bx ≠ cy ∧ OwnV w2 wx bx a ∧ OwnV w2 wx cy b)
          case first =>
            as_aux_lemma =>
              obtain ⟨a0, a1, a2⟩ := HA.out.cells
              replace a0 := cell_regrown a0; replace a1 := cell_regrown a1; replace a2 := cell_regrown a2
              obtain ⟨b0, b1, b2⟩ := HB.out.cells
              replace b0 := cell_regrown b0; replace b1 := cell_regrown b1; replace b2 := cell_regrown b2
              refine wp_region_plan 6 (.mild 0 (.mild 1 (.two 2 (.eff 3 (.eff 4 (.eff 5 .stop))) 3 (.eff 2 (.eff 4 (.eff 5 .stop)))))) (by kernel_rfl) (by kernel_rfl) ?_
              repeat (refine wpP_mild rfl (fun K hK => ?_); go_simp; first | (refine hK _ ?_; clear hK K) | (apply Exists.intro; refine ⟨fun _ => ?_, hK _ ?_⟩; (fail); clear hK K))
              clear a0 a1 a2 b0 b1 b2
              refine wpP_two ?_ ?_
              · as_aux_lemma =>
                  refine wpP_eff rfl ?_
                  intro w3 hb3 _
                  go_wp2_with fail
                  refine ⟨hb3.alloc hb3.size _, wpP_eff rfl ?_⟩
                  intro w4 hb4 hb42
                  have o4 : Own3 w2 w4 w3.heap.size (.int .i64 0) (.int .i64 0) (.string ⟨#[]⟩) := Own3.kept ⟨hb3.alloc hb3.size _, hb3.size, blk_new _ _⟩ hb4
                  have O4 := Lib.hid o4
                  have HB42 := Lib.hid hb42
                  clear hb3 hb4 hb42 o4
                  go_wp2_with fail
                  refine ⟨HB42.out.alloc HB42.out.size _, wpP_eff rfl ?_⟩
                  intro w5 hb5 hb52
                  have o5 : Own3 w2 w5 w4.heap.size (.int .i64 0) (.int .i64 0) (.string ⟨#[]⟩) := Own3.kept ⟨HB42.out.alloc HB42.out.size _, HB42.out.size, blk_new _ _⟩ hb5
                  have o4 := (O4.out.alloc _).kept hb5
                  have hne4 : w3.heap.size ≠ w4.heap.size := by have := O4.out.facts.2.2; omega
                  have hne5 : w4.heap.size ≠ w3.heap.size := Ne.symm hne4
                  have HNE4 := Lib.hid hne4
                  have HNE5 := Lib.hid hne5
                  clear O4 hne4 hne5
                  have O4 := Lib.hid o4
                  have O5 := Lib.hid o5
                  obtain ⟨⟨z1, z2, z3⟩, ⟨f1, f2, f3⟩, hs1⟩ := o4.facts
                  clear hb5 hb52 o5 o4
                  go_wp2_with fail
                  refine ⟨(O4.out.stored _ _ _).below, wpP_eff rfl ?_⟩
                  intro w6 hb6 _
                  have p4 : OwnV w2 w6 w3.heap.size a := (O4.out.stored _ _ _).kept hb6
                  have p5 := (O5.out.other HNE4.out O4.out.old _ _ _).kept hb6
                  clear O4 O5 z1 z2 z3 f1 f2 f3 hs1
                  have O4 := Lib.hid p4
                  have O5 := Lib.hid p5
                  obtain ⟨⟨z1, z2, z3⟩, ⟨f1, f2, f3⟩, hs1⟩ := p5.facts
                  clear hb6 p4 p5
                  go_wp2_with fail
                  refine ⟨(O5.out.stored _ _ _).below, wpP_end ?_⟩
                  intro w7 hb7 _
                  have p5 : OwnV w2 w7 w4.heap.size b := (O5.out.stored _ _ _).kept hb7
                  have p4 := (O4.out.other HNE5.out O5.out.old _ _ _).kept hb7
                  clear O4 O5 z1 z2 z3 f1 f2 f3 hs1
                  have O4 := Lib.hid p4
                  have O5 := Lib.hid p5
                  clear hb7 p4 p5
                  go_wp2_with fail
                  go_meet
                  exact ⟨_, _, rfl, rfl, HNE4.out, O4.out, O5.out⟩
              · as_aux_lemma =>
                  refine wpP_eff rfl ?_
                  intro w3 hb3 _
                  go_wp2_with fail
                  refine ⟨hb3.alloc hb3.size _, wpP_eff rfl ?_⟩
                  intro w4 hb4 hb42
                  have o4 : Own3 w2 w4 w3.heap.size (.int .i64 0) (.int .i64 0) (.string ⟨#[]⟩) := Own3.kept ⟨hb3.alloc hb3.size _, hb3.size, blk_new _ _⟩ hb4
                  have O4 := Lib.hid o4
                  have HB42 := Lib.hid hb42
                  clear hb3 hb4 hb42 o4
                  go_wp2_with fail
                  refine ⟨HB42.out.alloc HB42.out.size _, wpP_eff rfl ?_⟩
                  intro w5 hb5 hb52
                  have o5 : Own3 w2 w5 w4.heap.size (.int .i64 0) (.int .i64 0) (.string ⟨#[]⟩) := Own3.kept ⟨HB42.out.alloc HB42.out.size _, HB42.out.size, blk_new _ _⟩ hb5
                  have o4 := (O4.out.alloc _).kept hb5
                  have hne4 : w3.heap.size ≠ w4.heap.size := by have := O4.out.facts.2.2; omega
                  have hne5 : w4.heap.size ≠ w3.heap.size := Ne.symm hne4
                  have HNE4 := Lib.hid hne4
                  have HNE5 := Lib.hid hne5
                  clear O4 hne4 hne5
                  have O4 := Lib.hid o4
                  have O5 := Lib.hid o5
                  obtain ⟨⟨z1, z2, z3⟩, ⟨f1, f2, f3⟩, hs1⟩ := o5.facts
                  clear hb5 hb52 o5 o4
                  go_wp2_with fail
                  refine ⟨(O5.out.stored _ _ _).below, wpP_eff rfl ?_⟩
                  intro w6 hb6 _
                  have p5 : OwnV w2 w6 w4.heap.size a := (O5.out.stored _ _ _).kept hb6
                  have p4 := (O4.out.other HNE5.out O5.out.old _ _ _).kept hb6
                  clear O4 O5 z1 z2 z3 f1 f2 f3 hs1
                  have O4 := Lib.hid p4
                  have O5 := Lib.hid p5
                  obtain ⟨⟨z1, z2, z3⟩, ⟨f1, f2, f3⟩, hs1⟩ := p4.facts
                  clear hb6 p4 p5
                  go_wp2_with fail
                  refine ⟨(O4.out.stored _ _ _).below, wpP_end ?_⟩
                  intro w7 hb7 _
                  have p4 : OwnV w2 w7 w3.heap.size b := (O4.out.stored _ _ _).kept hb7
                  have p5 := (O5.out.other HNE4.out O4.out.old _ _ _).kept hb7
                  clear O4 O5 z1 z2 z3 f1 f2 f3 hs1
                  have O4 := Lib.hid p4
                  have O5 := Lib.hid p5
                  clear hb7 p4 p5
                  go_wp2_with fail
                  go_meet
                  exact ⟨_, _, rfl, rfl, HNE5.out, O5.out, O4.out⟩
          case rest =>
            as_aux_lemma =>
              obtain ⟨bx, cy, rfl, rfl, hne, hx, hy⟩ := hcut
              have HNE := Lib.hid hne
              have HX := Lib.hid hx
              have HY := Lib.hid hy
              obtain ⟨⟨x1, x2, x3⟩, ⟨f1, f2, f3⟩, hs1⟩ := hx.facts
              obtain ⟨c1, c2, c3⟩ := (HC.out.kept hx.below).cells
              clear hne hx hy
              go_upto_if 135 with fail
              go_cut [] (fun wx => OwnV w2 wx bx (stand a c) ∧ OwnV w2 wx cy b)
              case first =>
                as_aux_lemma =>
                  by_cases h0 : a.k = 0
                  · have h1 : (a.k == 0) = true := by simpa using h0
                    have HS : Hid (stand a c = c) := if_pos h0
                    clear h0
                    go_wp2_with fail
                    go_meet
                    exact ⟨by rw [HS.out]; exact HX.out.stored _ _ _, HY.out.other HNE.out HX.out.old _ _ _⟩
                  · have h1 : (a.k == 0) = false := beq_eq_false_iff_ne.2 h0
                    have HS : Hid (stand a c = a) := if_neg h0
                    clear h0
                    go_wp2_with fail
                    go_meet
                    exact ⟨by rw [HS.out]; exact HX.out, HY.out⟩
              case rest =>
                as_aux_lemma =>
                  clear x1 x2 x3 f1 f2 f3 hs1 c1 c2 c3 HX HY
                  obtain ⟨hx, hy⟩ := hcut
                  have HX := Lib.hid hx
                  have HY := Lib.hid hy
                  obtain ⟨⟨x1, x2, x3⟩, ⟨f1, f2, f3⟩, hs1⟩ := hy.facts
                  obtain ⟨c1, c2, c3⟩ := (HC.out.kept hx.below).cells
                  clear hx hy
                  go_upto_if 139 with fail
                  go_cut [] (fun wx => OwnV w2 wx bx (stand a c) ∧ OwnV w2 wx cy (stand b c))
                  case first =>
                    as_aux_lemma =>
                      by_cases h0 : b.k = 0
                      · have h1 : (b.k == 0) = true := by simpa using h0
                        have HS : Hid (stand b c = c) := if_pos h0
                        clear h0
                        go_wp2_with fail
                        go_meet
                        exact ⟨HX.out.other (Ne.symm HNE.out) HY.out.old _ _ _, by rw [HS.out]; exact HY.out.stored _ _ _⟩
                      · have h1 : (b.k == 0) = false := beq_eq_false_iff_ne.2 h0
                        have HS : Hid (stand b c = b) := if_neg h0
                        clear h0
                        go_wp2_with fail
                        go_meet
                        exact ⟨HX.out, by rw [HS.out]; exact HY.out⟩
                  case rest =>
                    as_aux_lemma =>
                      clear x1 x2 x3 f1 f2 f3 hs1 c1 c2 c3 HX HY
                      obtain ⟨hx, hy⟩ := hcut
                      have HX := Lib.hid hx
                      have HY := Lib.hid hy
                      obtain ⟨c1, _, _⟩ := (HC.out.kept hx.below).cells
                      clear hx hy
                      by_cases h0 : c.k = 0
                      · have h1 : (c.k == 0) = true := by simpa using h0
                        clear h0
                        go_wp2_with fail
                        refine (sanity_any _).mono ?_
                        rintro e w5 ⟨rfl, hb5⟩
                        go_wp2_with fail
                        go_returns
                        exact ⟨rfl, (HL.out.step HX.out.below).step hb5⟩
                      · have h1 : (c.k == 0) = false := beq_eq_false_iff_ne.2 h0
                        have L9 := Lib.hid (lg9 LA.out LB.out LC.out h0)
                        have L10 := Lib.hid (lg10 LA.out LB.out LC.out h0)
                        clear h0
                        go_upto_region 20 with fail
                        clear h1 c1
                        replace HA := Lib.hid (HA.out.kept HX.out.below); replace HB := Lib.hid (HB.out.kept HX.out.below); replace HL := Lib.hid (HL.out.step HX.out.below)
                        have GX : Hid (HasV wc bx (stand a c)) := HX.out.block
                        have GY : Hid (HasV wc cy (stand b c)) := HY.out.block
                        obtain ⟨w8, rfl⟩ : ∃ w8 : World, w8 = wc := ⟨_, rfl⟩
                        clear HX HY
                        go_cut [12, 13] (fun x y wx => ∃ bp bq : Nat, x = .pointer (some ⟨bp, 0, none⟩) ∧ y = .pointer (some ⟨bq, 0, none⟩) ∧ OwnV w8 wx bp (andV a b) ∧ OwnV w8 wx bq (orV a b))
                        case first =>
                          as_aux_lemma =>
                            obtain ⟨a0, a1, a2⟩ := HA.out.cells
                            replace a0 := cell_regrown a0; replace a1 := cell_regrown a1; replace a2 := cell_regrown a2
                            obtain ⟨b0, b1, b2⟩ := HB.out.cells
                            replace b0 := cell_regrown b0; replace b1 := cell_regrown b1; replace b2 := cell_regrown b2
                            refine wp_region_plan 10 (.mild 0 (.mild 1 (.mild 2 (.mild 3 (.mild 4 (.mild 5 (.two 6 (.eff 7 (.eff 8 (.eff 9 .stop))) 7 (.eff 6 (.eff 8 (.eff 9 .stop)))))))))) (by kernel_rfl) (by kernel_rfl) ?_
                            repeat (refine wpP_mild rfl (fun K hK => ?_); go_simp; first | (refine hK _ ?_; clear hK K) | (apply Exists.intro; refine ⟨fun _ => ?_, hK _ ?_⟩; (first | with_reducible exact C1.out _ _ _ | with_reducible exact C2.out _ _ _); clear hK K))
                            clear a0 a1 a2 b0 b1 b2
                            refine wpP_two ?_ ?_
                            · as_aux_lemma =>
                                refine wpP_eff rfl ?_
                                intro w3 hb3 _
                                go_wp2_with fail
                                refine ⟨hb3.alloc hb3.size _, wpP_eff rfl ?_⟩
                                intro w4 hb4 hb42
                                have o4 : Own3 w8 w4 w3.heap.size (.int .i64 0) (.int .i64 0) (.string ⟨#[]⟩) := Own3.kept ⟨hb3.alloc hb3.size _, hb3.size, blk_new _ _⟩ hb4
                                have O4 := Lib.hid o4
                                have HB42 := Lib.hid hb42
                                clear hb3 hb4 hb42 o4
                                go_wp2_with fail
                                refine ⟨HB42.out.alloc HB42.out.size _, wpP_eff rfl ?_⟩
                                intro w5 hb5 hb52
                                have o5 : Own3 w8 w5 w4.heap.size (.int .i64 0) (.int .i64 0) (.string ⟨#[]⟩) := Own3.kept ⟨HB42.out.alloc HB42.out.size _, HB42.out.size, blk_new _ _⟩ hb5
                                have o4 := (O4.out.alloc _).kept hb5
                                have hne4 : w3.heap.size ≠ w4.heap.size := by have := O4.out.facts.2.2; omega
                                have hne5 : w4.heap.size ≠ w3.heap.size := Ne.symm hne4
                                have HNE4 := Lib.hid hne4
                                have HNE5 := Lib.hid hne5
                                clear O4 hne4 hne5
                                have O4 := Lib.hid o4
                                have O5 := Lib.hid o5
                                obtain ⟨⟨z1, z2, z3⟩, ⟨f1, f2, f3⟩, hs1⟩ := o4.facts
                                clear hb5 hb52 o5 o4
                                go_wp2_with fail
                                refine ⟨(O4.out.stored _ _ _).below, wpP_eff rfl ?_⟩
                                intro w6 hb6 _
                                have p4 : OwnV w8 w6 w3.heap.size (andV a b) := (O4.out.stored _ _ _).kept hb6
                                have p5 := (O5.out.other HNE4.out O4.out.old _ _ _).kept hb6
                                clear O4 O5 z1 z2 z3 f1 f2 f3 hs1
                                have O4 := Lib.hid p4
                                have O5 := Lib.hid p5
                                obtain ⟨⟨z1, z2, z3⟩, ⟨f1, f2, f3⟩, hs1⟩ := p5.facts
                                clear hb6 p4 p5
                                go_wp2_with fail
                                refine ⟨(O5.out.stored _ _ _).below, wpP_end ?_⟩
                                intro w7 hb7 _
                                have p5 : OwnV w8 w7 w4.heap.size (orV a b) := (O5.out.stored _ _ _).kept hb7
                                have p4 := (O4.out.other HNE5.out O5.out.old _ _ _).kept hb7
                                clear O4 O5 z1 z2 z3 f1 f2 f3 hs1
                                have O4 := Lib.hid p4
                                have O5 := Lib.hid p5
                                clear hb7 p4 p5
                                go_wp2_with fail
                                go_meet
                                exact ⟨_, _, rfl, rfl, O4.out, O5.out⟩
                            · as_aux_lemma =>
                                refine wpP_eff rfl ?_
                                intro w3 hb3 _
                                go_wp2_with fail
                                refine ⟨hb3.alloc hb3.size _, wpP_eff rfl ?_⟩
                                intro w4 hb4 hb42
                                have o4 : Own3 w8 w4 w3.heap.size (.int .i64 0) (.int .i64 0) (.string ⟨#[]⟩) := Own3.kept ⟨hb3.alloc hb3.size _, hb3.size, blk_new _ _⟩ hb4
                                have O4 := Lib.hid o4
                                have HB42 := Lib.hid hb42
                                clear hb3 hb4 hb42 o4
                                go_wp2_with fail
                                refine ⟨HB42.out.alloc HB42.out.size _, wpP_eff rfl ?_⟩
                                intro w5 hb5 hb52
                                have o5 : Own3 w8 w5 w4.heap.size (.int .i64 0) (.int .i64 0) (.string ⟨#[]⟩) := Own3.kept ⟨HB42.out.alloc HB42.out.size _, HB42.out.size, blk_new _ _⟩ hb5
                                have o4 := (O4.out.alloc _).kept hb5
                                have hne4 : w3.heap.size ≠ w4.heap.size := by have := O4.out.facts.2.2; omega
                                have hne5 : w4.heap.size ≠ w3.heap.size := Ne.symm hne4
                                have HNE4 := Lib.hid hne4
                                have HNE5 := Lib.hid hne5
                                clear O4 hne4 hne5
                                have O4 := Lib.hid o4
                                have O5 := Lib.hid o5
                                obtain ⟨⟨z1, z2, z3⟩, ⟨f1, f2, f3⟩, hs1⟩ := o5.facts
                                clear hb5 hb52 o5 o4
                                go_wp2_with fail
                                refine ⟨(O5.out.stored _ _ _).below, wpP_eff rfl ?_⟩
                                intro w6 hb6 _
                                have p5 : OwnV w8 w6 w4.heap.size (andV a b) := (O5.out.stored _ _ _).kept hb6
                                have p4 := (O4.out.other HNE5.out O5.out.old _ _ _).kept hb6
                                clear O4 O5 z1 z2 z3 f1 f2 f3 hs1
                                have O4 := Lib.hid p4
                                have O5 := Lib.hid p5
                                obtain ⟨⟨z1, z2, z3⟩, ⟨f1, f2, f3⟩, hs1⟩ := p4.facts
                                clear hb6 p4 p5
                                go_wp2_with fail
                                refine ⟨(O4.out.stored _ _ _).below, wpP_end ?_⟩
                                intro w7 hb7 _
                                have p4 : OwnV w8 w7 w3.heap.size (orV a b) := (O4.out.stored _ _ _).kept hb7
                                have p5 := (O5.out.other HNE4.out O4.out.old _ _ _).kept hb7
                                clear O4 O5 z1 z2 z3 f1 f2 f3 hs1
                                have O4 := Lib.hid p4
                                have O5 := Lib.hid p5
                                clear hb7 p4 p5
                                go_wp2_with fail
                                go_meet
                                exact ⟨_, _, rfl, rfl, O5.out, O4.out⟩
                        case rest =>
                          as_aux_lemma =>
                            obtain ⟨bp, bq, rfl, rfl, hp, hq⟩ := hcut
                            replace GX := Lib.hid (GX.out.kept hp.below); replace GY := Lib.hid (GY.out.kept hp.below); replace HL := Lib.hid (HL.out.step hp.below)
                            have GP : Hid (HasV wc bp (andV a b)) := hp.block
                            have GQ : Hid (HasV wc bq (orV a b)) := hq.block
                            clear hp hq
                            obtain ⟨w9, rfl⟩ : ∃ w9 : World, w9 = wc := ⟨_, rfl⟩
                            go_wp2_with fail
                            obtain ⟨a0, a1, a2⟩ := GX.out.cells
                            replace a0 := cell_regrown a0; replace a1 := cell_regrown a1; replace a2 := cell_regrown a2
                            obtain ⟨b0, b1, b2⟩ := GY.out.cells
                            replace b0 := cell_regrown b0; replace b1 := cell_regrown b1; replace b2 := cell_regrown b2
                            obtain ⟨p0, p1, p2⟩ := GP.out.cells
                            replace p0 := cell_regrown p0; replace p1 := cell_regrown p1; replace p2 := cell_regrown p2
                            obtain ⟨q0, q1, q2⟩ := GQ.out.cells
                            replace q0 := cell_regrown q0; replace q1 := cell_regrown q1; replace q2 := cell_regrown q2
                            have eqv := eql_V
                            have C4 : Hid (∀ w, Calls Tryd.prog 12 #[] w fun e w' => e = .returned (.bool true) ∧ Laid w w') := fun w => sanity_any w
                            by_cases h1 : (andV a b).k = 0
                            all_goals by_cases h2 : (orV a b).k = 0
                            · as_aux_lemma =>
                                have k1 : ((andV a b).k == 0) = true := by simpa using h1
                                have k2 : ((orV a b).k == 0) = true := by simpa using h2
                                clear h1 h2
                                refine wp_region_mixed 26 [(0, false), (1, false), (2, false), (3, false), (4, false), (5, false), (6, false), (7, false), (8, false), (9, false), (10, false), (11, false), (12, false), (13, false), (14, false), (15, false), (16, false), (17, false), (18, false), (19, false), (20, false), (21, false), (22, false), (23, false), (24, false), (25, false)] (by kernel_rfl) (by kernel_rfl) ?_
                                repeat (refine wpM_mild rfl (fun K hK => ?_); go_simp; first | (refine hK _ ?_; clear hK K) | (apply Exists.intro; refine ⟨fun _ => ?_, hK _ ?_⟩; (first | with_reducible exact C1.out _ _ _ | with_reducible exact C2.out _ _ _ | with_reducible exact C4.out _); clear hK K))
                                refine wpM_end ?_
                                intro w10 _ hb10
                                go_wp2_with fail
                                go_returns
                                exact ⟨rfl, HL.out.step hb10⟩
                            · as_aux_lemma =>
                                have k1 : ((andV a b).k == 0) = true := by simpa using h1
                                have k2 : ((orV a b).k == 0) = false := beq_eq_false_iff_ne.2 h2
                                have g2 := L10.out.resolve_left h2
                                clear h1 h2
                                refine wp_region_mixed 26 [(0, false), (1, false), (2, false), (3, false), (4, false), (5, false), (6, false), (7, false), (8, false), (9, false), (10, false), (11, false), (12, false), (13, false), (14, false), (15, false), (16, false), (17, false), (18, false), (19, false), (20, false), (21, false), (22, false), (23, false), (24, false), (25, false)] (by kernel_rfl) (by kernel_rfl) ?_
                                repeat (refine wpM_mild rfl (fun K hK => ?_); go_simp; first | (refine hK _ ?_; clear hK K) | (apply Exists.intro; refine ⟨fun _ => ?_, hK _ ?_⟩; (first | with_reducible exact C1.out _ _ _ | with_reducible exact C2.out _ _ _ | with_reducible exact C4.out _); clear hK K))
                                refine wpM_end ?_
                                intro w10 _ hb10
                                go_wp2_with fail
                                go_returns
                                exact ⟨rfl, HL.out.step hb10⟩
                            · as_aux_lemma =>
                                have k1 : ((andV a b).k == 0) = false := beq_eq_false_iff_ne.2 h1
                                have k2 : ((orV a b).k == 0) = true := by simpa using h2
                                have g1 := L9.out.resolve_left h1
                                clear h1 h2
                                refine wp_region_mixed 26 [(0, false), (1, false), (2, false), (3, false), (4, false), (5, false), (6, false), (7, false), (8, false), (9, false), (10, false), (11, false), (12, false), (13, false), (14, false), (15, false), (16, false), (17, false), (18, false), (19, false), (20, false), (21, false), (22, false), (23, false), (24, false), (25, false)] (by kernel_rfl) (by kernel_rfl) ?_
                                repeat (refine wpM_mild rfl (fun K hK => ?_); go_simp; first | (refine hK _ ?_; clear hK K) | (apply Exists.intro; refine ⟨fun _ => ?_, hK _ ?_⟩; (first | with_reducible exact C1.out _ _ _ | with_reducible exact C2.out _ _ _ | with_reducible exact C4.out _); clear hK K))
                                refine wpM_end ?_
                                intro w10 _ hb10
                                go_wp2_with fail
                                go_returns
                                exact ⟨rfl, HL.out.step hb10⟩
                            · as_aux_lemma =>
                                have k1 : ((andV a b).k == 0) = false := beq_eq_false_iff_ne.2 h1
                                have k2 : ((orV a b).k == 0) = false := beq_eq_false_iff_ne.2 h2
                                have g1 := L9.out.resolve_left h1
                                have g2 := L10.out.resolve_left h2
                                clear h1 h2
                                refine wp_region_mixed 26 [(0, false), (1, false), (2, false), (3, false), (4, false), (5, false), (6, false), (7, false), (8, false), (9, false), (10, false), (11, false), (12, false), (13, false), (14, false), (15, false), (16, false), (17, false), (18, false), (19, false), (20, false), (21, false), (22, false), (23, false), (24, false), (25, false)] (by kernel_rfl) (by kernel_rfl) ?_
                                repeat (refine wpM_mild rfl (fun K hK => ?_); go_simp; first | (refine hK _ ?_; clear hK K) | (apply Exists.intro; refine ⟨fun _ => ?_, hK _ ?_⟩; (first | with_reducible exact C1.out _ _ _ | with_reducible exact C2.out _ _ _ | with_reducible exact C4.out _); clear hK K))
                                refine wpM_end ?_
                                intro w10 _ hb10
                                go_wp2_with fail
                                go_returns
                                exact ⟨rfl, HL.out.step hb10⟩
end Go.Proofs.YtbpnnhdhpahbjaaDoor
