/-
  Walks: slices.ContainsFunc, Contains, logical, decide, And, Or, Not of the package value. For every argument; the memory that was there is as it was.
-/
import Derived.Test.YtbpnnhdhpahbjaaDoorWc
namespace Go.Proofs.YtbpnnhdhpahbjaaDoor
open Go.RowKit Go.Sort

theorem containsFunc_any (f : FuncId) (p : V → Bool) (hf : Asks f p) (b off : Nat) (l : List V) (cap : Nat) (w : World) (hr : RowAt w b off l) (hl : l.length ≤ 1000000) :
    Calls Tryd.prog 71 #[.slice (some ⟨b, off, none⟩) l.length cap, .func (.func f) #[] #[]] w fun e w' => e = .returned (.bool (l.any p)) ∧ Below w.heap.size w w' := by
  rw [← idxOf_nonneg]
  go_enter Tryd.func71, Tryd.ntmps71
  go_wp2_with fail
  refine (indexFunc_any f p hf b off l cap _ hr hl).mono ?_
  rintro e w' ⟨rfl, hb⟩
  go_wp2_with fail
  go_returns
  exact ⟨rfl, hb⟩

theorem logical_any (b off : Nat) (l : List V) (cap : Nat) (w : World) (hr : RowAt w b off l) (hl : l.length ≤ 1000000) :
    Calls Tryd.prog 51 #[.slice (some ⟨b, off, none⟩) l.length cap] w fun e w' => e = .returned (.bool (l.all V.logical)) ∧ Below w.heap.size w w' := by
  go_enter Tryd.func51, Tryd.ntmps51
  go_wp2_with fail
  refine (containsFunc_any 72 _ logical1_any b off l cap _ hr hl).mono ?_
  rintro e w' ⟨rfl, hb⟩
  go_wp2_with fail
  go_returns
  exact ⟨ret_bool (by simp [List.all_eq_not_any_not]), hb⟩

set_option maxRecDepth 100000 in
theorem index_any (x : V) (b off : Nat) (l : List V) (cap : Nat) (w : World) (hr : RowAt w b off l) (hl : l.length ≤ 1000000) :
    Calls Tryd.prog 81 #[.slice (some ⟨b, off, none⟩) l.length cap, x.val] w fun e w' => e = .returned (.int .i64 (idxOf (V.same x) l)) ∧ Below w.heap.size w w' := by
  have HR := Lib.hid hr
  clear hr
  unfold V.val
  go_enter Tryd.func81, Tryd.ntmps81
  go_wp2_with fail
  go_loopw [8] (fun i wr => ∃ k : Nat, k ≤ l.length ∧ i = .int .i64 k ∧ (l.take k).findIdx? (V.same x) = none ∧ Below (w.heap.size + 1) (w.alloc (Obj.cells #[Value.int IntKind.i64 x.k, Value.int IntKind.i64 x.n, Value.string x.s] 23)) wr) (fun i _ => l.length - (intOf i).toNat)
  case atStart => exact ⟨0, by omega, rfl, by simp, Below.refl _ _⟩
  case round =>
    obtain ⟨k, hk, rfl, hnone, hb⟩ := hrel
    have HN := Lib.hid hnone
    have HB := Lib.hid hb
    have x0 : wr.cell? ⟨w.heap.size, 0, none⟩ = some (.int .i64 x.k) := hb.cell_some (by omega) (by go_cell)
    have x1 : wr.cell? ⟨w.heap.size, 1, none⟩ = some (.int .i64 x.n) := hb.cell_some (by omega) (by go_cell)
    have x2 : wr.cell? ⟨w.heap.size, 2, none⟩ = some (.string x.s) := hb.cell_some (by omega) (by go_cell)
    clear hnone hb
    by_cases hlt : k < l.length
    · obtain ⟨v, hv⟩ : ∃ v, l[k]? = some v := ⟨l[k], by simp [hlt]⟩
      have hb2 : Below w.heap.size w wr := ((Below.refl _ w).alloc (Nat.le_refl _) _).trans (HB.out.mono (by omega))
      have hc := (HR.out.kept hb2) k v hv
      obtain ⟨c0, c1, c2⟩ := hc
      have HV := Lib.hid hv
      clear hv hb2
      go_wp2_with fail
      have eqv := eql_V
      cases hp : V.same x v
      · go_quiet (fail)
        clear eqv
        go_wp2_with fail
        go_roundw
        case rel => exact ⟨k + 1, by omega, by go_num, by
          rw [List.take_add_one, List.findIdx?_append, HN.out, HV.out]; simp [hp], HB.out.trans (Below.drewN _ _ _)⟩
        case measure => simp [intOf]; omega
      · go_quiet (fail)
        clear eqv
        go_wp2_with fail
        go_returns
        exact ⟨ret_int (by rw [idxOf_some HN.out HV.out hp]), ((Below.refl _ w).alloc (Nat.le_refl _) _).trans (HB.out.mono (by omega)) |>.trans (Below.drewN _ _ _)⟩
    · obtain rfl : k = l.length := by omega
      go_wp2_with fail
      go_returns
      exact ⟨ret_int (by rw [idxOf_none (by have := HN.out; rwa [List.take_length] at this)]), ((Below.refl _ w).alloc (Nat.le_refl _) _).trans (HB.out.mono (by omega))⟩

theorem contains_any (x : V) (b off : Nat) (l : List V) (cap : Nat) (w : World) (hr : RowAt w b off l) (hl : l.length ≤ 1000000) :
    Calls Tryd.prog 70 #[.slice (some ⟨b, off, none⟩) l.length cap, x.val] w fun e w' => e = .returned (.bool (l.any (V.same x))) ∧ Below w.heap.size w w' := by
  rw [← idxOf_nonneg]
  unfold V.val
  go_enter Tryd.func70, Tryd.ntmps70
  go_wp2_with fail
  refine (index_any x b off l cap _ (hr.kept (by go_grown)) hl).mono ?_
  rintro e w' ⟨rfl, hb⟩
  go_wp2_with fail
  go_returns
  exact ⟨rfl, ((Below.refl _ w).alloc (Nat.le_refl _) _).trans (hb.mono (by simp))⟩

/-- P19.4 over a list. -/
def V.decideL (strong : Bool) (l : List V) : V × Int :=
  if !l.all V.logical then (V.null, 7) else if l.any (V.same (V.bool strong)) then (V.bool strong, 0)
  else if l.any (V.same V.null) then (V.null, 0) else (V.bool !strong, 0)

/-- A block of the call's own that holds a struct of three fields; what was there when the call began is as it was. -/
structure Own3 (w0 w : World) (b : Nat) (x y z : Value) : Prop where
  below : Below w0.heap.size w0 w
  old : w0.heap.size ≤ b
  block : w.heap[b]? = some (.cells #[x, y, z] 23 (0, 0))
theorem own3_new (w : World) (x y z : Value) : Own3 w (w.alloc (.cells #[x, y, z] 23)) w.heap.size x y z :=
  ⟨by go_grown, Nat.le_refl _, by show (w.heap.push _)[w.heap.size]? = _; simp⟩
theorem own3_at {w0 w1 : World} {n : Nat} {x y z : Value} (hb : Below w0.heap.size w0 w1) (hn : w1.heap.size = n) : Own3 w0 (w1.alloc (.cells #[x, y, z] 23)) n x y z := by
  subst hn
  exact ⟨hb.alloc hb.size _, hb.size, by show (w1.heap.push _)[w1.heap.size]? = _; simp⟩
theorem Own3.kept {w0 w w' : World} {b : Nat} {x y z : Value} (h : Own3 w0 w b x y z) (hb : Below w.heap.size w w') : Own3 w0 w' b x y z :=
  ⟨h.below.step hb, h.old, by rw [hb.block b (Array.getElem?_eq_some_iff.1 h.block).1]; exact h.block⟩
theorem Own3.facts {w0 w : World} {b : Nat} {x y z : Value} (h : Own3 w0 w b x y z) :
    (w.cell? ⟨b, 0, none⟩ = some x ∧ w.cell? ⟨b, 1, none⟩ = some y ∧ w.cell? ⟨b, 2, none⟩ = some z) ∧ (w.frozen? ⟨b, 0, none⟩ = false ∧ w.frozen? ⟨b, 1, none⟩ = false ∧ w.frozen? ⟨b, 2, none⟩ = false) ∧ b < w.heap.size := by
  have hs := (Array.getElem?_eq_some_iff.1 h.block).1
  refine ⟨⟨?_, ?_, ?_⟩, ⟨?_, ?_, ?_⟩, hs⟩ <;> simp [World.cell?, World.frozen?, h.block]

set_option maxRecDepth 100000 in
theorem decide_any (strong : Bool) (b off : Nat) (l : List V) (cap : Nat) (w : World) (hr : RowAt w b off l) (hl : l.length ≤ 1000000) :
    Calls Tryd.prog 49 #[.bool strong, .slice (some ⟨b, off, none⟩) l.length cap] w fun e w' => e = .returned (V.pair (V.decideL strong l)) ∧ Below w.heap.size w w' := by
  have HR := Lib.hid hr
  clear hr
  go_enter Tryd.func49, Tryd.ntmps49
  go_wp2_with fail
  refine (logical_any b off l cap _ (HR.out.kept (by go_grown)) hl).mono ?_
  rintro e w1 ⟨rfl, hb1⟩
  have o1 : Own3 w w1 w.heap.size (.int .i64 0) (.int .i64 0) (.string ⟨#[]⟩) := (own3_new w _ _ _).kept hb1
  clear hb1
  cases hlog : l.all V.logical
  · obtain ⟨⟨z1, z2, z3⟩, ⟨f1, f2, f3⟩, hs1⟩ := o1.facts
    have O1 := Lib.hid o1
    clear o1
    go_wp2_with fail
    refine bodyPost_ret (v := V.pair (V.null, 7)) (by simp [results, Tryd.results49, go_sem, z1, z2, z3, V.pair, V.val, V.null]) rfl ?_
    refine ⟨by simp [V.decideL, hlog], ?_⟩
    go_grown
    exact O1.out.below
  · have O1 := Lib.hid o1
    clear o1
    go_wp2_with fail
    refine (truth_any _ _).mono ?_
    rintro e w2 ⟨rfl, hb2⟩
    have O2 := Lib.hid (O1.out.kept hb2)
    clear hb2
    go_wp2_with fail
    refine (contains_any (V.bool strong) b off l cap _ (HR.out.kept O2.out.below) hl).mono ?_
    rintro e w3 ⟨rfl, hb3⟩
    have O3 := Lib.hid (O2.out.kept hb3)
    clear hb3
    cases hst : l.any (V.same (V.bool strong))
    · go_wp2_with fail
      refine (contains_any V.null b off l cap _ (HR.out.kept O3.out.below) hl).mono ?_
      rintro e w4 ⟨rfl, hb4⟩
      have O4 := Lib.hid (O3.out.kept hb4)
      clear hb4
      cases hnu : l.any (V.same V.null)
      · go_wp2_with fail
        refine (truth_any _ _).mono ?_
        rintro e w5 ⟨rfl, hb5⟩
        have O5 := Lib.hid (O4.out.kept hb5)
        clear hb5
        obtain ⟨⟨z1, z2, z3⟩, ⟨f1, f2, f3⟩, hs1⟩ := O5.out.facts
        unfold V.val
        go_wp2_with fail
        refine bodyPost_ret (v := V.pair (V.bool !strong, 0)) (by simp [results, Tryd.results49, go_sem, z1, z2, z3, V.pair, V.val]) rfl ?_
        refine ⟨by simp [V.decideL, hlog, hst, hnu], ?_⟩
        go_grown
        exact O5.out.below
      · obtain ⟨⟨z1, z2, z3⟩, ⟨f1, f2, f3⟩, hs1⟩ := O4.out.facts
        go_wp2_with fail
        refine bodyPost_ret (v := V.pair (V.null, 0)) (by simp [results, Tryd.results49, go_sem, z1, z2, z3, V.pair, V.val, V.null]) rfl ?_
        refine ⟨by simp [V.decideL, hlog, hst, hnu], ?_⟩
        go_grown
        exact O4.out.below
    · go_wp2_with fail
      refine (truth_any _ _).mono ?_
      rintro e w5 ⟨rfl, hb5⟩
      have O5 := Lib.hid (O3.out.kept hb5)
      clear hb5
      obtain ⟨⟨z1, z2, z3⟩, ⟨f1, f2, f3⟩, hs1⟩ := O5.out.facts
      unfold V.val
      go_wp2_with fail
      refine bodyPost_ret (v := V.pair (V.bool strong, 0)) (by simp [results, Tryd.results49, go_sem, z1, z2, z3, V.pair, V.val]) rfl ?_
      refine ⟨by simp [V.decideL, hlog, hst], ?_⟩
      go_grown
      exact O5.out.below

theorem rowAt_two (w : World) (b : Nat) (x y : V) (t : TypeId) (h : w.heap[b]? = some (.cells #[.int .i64 x.k, .int .i64 x.n, .string x.s, .int .i64 y.k, .int .i64 y.n, .string y.s] t (0, 0))) : RowAt w b 0 [x, y] := by
  rintro (_ | _ | i) v hv
  · obtain rfl : x = v := by simpa using hv
    simp [World.cell?, h]
  · obtain rfl : y = v := by simpa using hv
    simp [World.cell?, h]
  · simp at hv
theorem rowAt_one (w : World) (b : Nat) (x : V) (t : TypeId) (h : w.heap[b]? = some (.cells #[.int .i64 x.k, .int .i64 x.n, .string x.s] t (0, 0))) : RowAt w b 0 [x] := by
  rintro (_ | i) v hv
  · obtain rfl : x = v := by simpa using hv
    simp [World.cell?, h]
  · simp at hv
theorem blk_same (w : World) (o : Obj) (n : Nat) (h : n = w.heap.size) : (w.alloc o).heap[n]? = some o := by subst h; show (w.heap.push _)[w.heap.size]? = _; simp
theorem blk_old {w : World} {o : Obj} {n : Nat} {x : Option Obj} (h : n < w.heap.size) (hx : w.heap[n]? = x) : (w.alloc o).heap[n]? = x := by
  rw [← hx]; show (w.heap.push _)[n]? = _; rw [Array.getElem?_push, if_neg (by omega)]


set_option maxRecDepth 100000 in
theorem and_any (a b : V) (w : World) : Calls Tryd.prog 22 #[a.val, b.val] w fun e w' => e = .returned (V.pair (V.decideL false [a, b])) ∧ Below w.heap.size w w' := by
  unfold V.val
  go_enter Tryd.func22, Tryd.ntmps22
  go_wp2_with fail
  refine (decide_any false _ 0 [a, b] 2 _ (rowAt_two _ _ a b 23 (by repeat (first | (refine blk_same _ _ _ ?_; focus (simp; done)) | (refine blk_old ?_ ?_; focus (first | omega | (simp; done) | (simp; omega)))))) (by simp)).mono ?_
  rintro e w1 ⟨rfl, hb1⟩
  have o1 : Own3 w w1 (w.heap.size + 1 + 1) (.int .i64 0) (.int .i64 0) (.string ⟨#[]⟩) := Own3.kept ⟨by go_grown, by omega, by repeat (first | (refine blk_same _ _ _ ?_; focus (simp; done)) | (refine blk_old ?_ ?_; focus (first | omega | (simp; done) | (simp; omega))))⟩ hb1
  obtain ⟨⟨z1, z2, z3⟩, ⟨f1, f2, f3⟩, hs1⟩ := o1.facts
  have O1 := Lib.hid o1
  clear hb1 o1
  obtain ⟨⟨⟨k, n, s⟩, er⟩, hd⟩ : ∃ p : V × Int, V.decideL false [a, b] = p := ⟨_, rfl⟩
  rw [hd]
  unfold V.pair V.val
  go_wp2_with fail
  refine bodyPost_ret (v := V.pair (⟨k, n, s⟩, er)) (by simp [results, Tryd.results22, go_sem, z1, z2, z3, V.pair, V.val]) rfl ?_
  refine ⟨by rw [hd], ?_⟩
  go_grown
  exact O1.out.below

set_option maxRecDepth 100000 in
theorem or_any (a b : V) (w : World) : Calls Tryd.prog 24 #[a.val, b.val] w fun e w' => e = .returned (V.pair (V.decideL true [a, b])) ∧ Below w.heap.size w w' := by
  unfold V.val
  go_enter Tryd.func24, Tryd.ntmps24
  go_wp2_with fail
  refine (decide_any true _ 0 [a, b] 2 _ (rowAt_two _ _ a b 23 (by repeat (first | (refine blk_same _ _ _ ?_; focus (simp; done)) | (refine blk_old ?_ ?_; focus (first | omega | (simp; done) | (simp; omega)))))) (by simp)).mono ?_
  rintro e w1 ⟨rfl, hb1⟩
  have o1 : Own3 w w1 (w.heap.size + 1 + 1) (.int .i64 0) (.int .i64 0) (.string ⟨#[]⟩) := Own3.kept ⟨by go_grown, by omega, by repeat (first | (refine blk_same _ _ _ ?_; focus (simp; done)) | (refine blk_old ?_ ?_; focus (first | omega | (simp; done) | (simp; omega))))⟩ hb1
  obtain ⟨⟨z1, z2, z3⟩, ⟨f1, f2, f3⟩, hs1⟩ := o1.facts
  have O1 := Lib.hid o1
  clear hb1 o1
  obtain ⟨⟨⟨k, n, s⟩, er⟩, hd⟩ : ∃ p : V × Int, V.decideL true [a, b] = p := ⟨_, rfl⟩
  rw [hd]
  unfold V.pair V.val
  go_wp2_with fail
  refine bodyPost_ret (v := V.pair (⟨k, n, s⟩, er)) (by simp [results, Tryd.results24, go_sem, z1, z2, z3, V.pair, V.val]) rfl ?_
  refine ⟨by rw [hd], ?_⟩
  go_grown
  exact O1.out.below

set_option maxRecDepth 100000 in
theorem not_any (a : V) (w : World) (hn : -9223372036854775806 ≤ a.n) (hn' : a.n ≤ 9223372036854775807) : Calls Tryd.prog 26 #[a.val] w fun e w' => e = .returned (V.pair (V.not a)) ∧ Below w.heap.size w w' := by
  obtain ⟨k, n, s⟩ := a
  simp only at hn hn'
  unfold V.val
  go_enter Tryd.func26, Tryd.ntmps26
  go_wp2_with fail
  refine (logical_any _ 0 [⟨k, n, s⟩] 1 _ (rowAt_one _ _ _ 23 (by repeat (first | (refine blk_same _ _ _ ?_; focus (simp; done)) | (refine blk_old ?_ ?_; focus (first | omega | (simp; done) | (simp; omega)))))) (by simp)).mono ?_
  rintro e w1 ⟨rfl, hb1⟩
  have o1 : Own3 w w1 w.heap.size (.int .i64 k) (.int .i64 n) (.string s) := Own3.kept ⟨by go_grown, by omega, by repeat (first | (refine blk_same _ _ _ ?_; focus (simp; done)) | (refine blk_old ?_ ?_; focus (first | omega | (simp; done) | (simp; omega))))⟩ hb1
  have p1 : Own3 w w1 (w.heap.size + 1) (.int .i64 0) (.int .i64 0) (.string ⟨#[]⟩) := Own3.kept ⟨by go_grown, by omega, by repeat (first | (refine blk_same _ _ _ ?_; focus (simp; done)) | (refine blk_old ?_ ?_; focus (first | omega | (simp; done) | (simp; omega))))⟩ hb1
  obtain ⟨⟨z1, z2, z3⟩, ⟨f1, f2, f3⟩, hs1⟩ := o1.facts
  obtain ⟨⟨y1, y2, y3⟩, ⟨g1, g2, g3⟩, hs2⟩ := p1.facts
  have O1 := Lib.hid o1
  clear hb1 o1 p1
  have el : [(⟨k, n, s⟩ : V)].all V.logical = V.logical ⟨k, n, s⟩ := by simp
  rw [el]
  clear el
  cases hlog : V.logical ⟨k, n, s⟩
  · go_wp2_with fail
    refine bodyPost_ret (v := V.pair (V.null, 7)) (by simp [results, Tryd.results26, go_sem, y1, y2, y3, V.pair, V.val, V.null]) rfl ?_
    refine ⟨by simp [V.not, hlog], ?_⟩
    go_grown
    exact O1.out.below
  · by_cases h3 : k = 3
    · subst h3
      go_wp2_with fail
      refine bodyPost_ret (v := V.pair (⟨3, 1 - n, s⟩, 0)) (by simp [results, Tryd.results26, go_sem, y1, y2, y3, V.pair, V.val]) rfl ?_
      refine ⟨by simp [V.not, hlog], ?_⟩
      go_grown
      exact O1.out.below
    · go_wp2_with fail
      refine bodyPost_ret (v := V.pair (⟨k, n, s⟩, 0)) (by simp [results, Tryd.results26, go_sem, y1, y2, y3, V.pair, V.val]) rfl ?_
      refine ⟨by simp [V.not, hlog, h3], ?_⟩
      go_grown
      exact O1.out.below
end Go.Proofs.YtbpnnhdhpahbjaaDoor
