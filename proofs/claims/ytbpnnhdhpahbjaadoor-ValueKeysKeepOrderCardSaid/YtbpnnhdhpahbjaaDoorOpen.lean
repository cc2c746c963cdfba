/-
  Arguments opened: a slice of values, a slice of integers, each as the list that it reads as. No condition.
-/
import Derived.Test.YtbpnnhdhpahbjaaDoorBase
import Derived.Test.YtbpnnhdhpahbjaaDoorL7
import Derived.Deep.Slices
import Derived.ChangeSlices
namespace Go.Proofs.YtbpnnhdhpahbjaaDoor
open Go.ChangeShapes Go.WideShapes Go.ChangeAt Go.RowKit Go.Joins Go.Deep

theorem spot_of {w : World} {a : Addr} {v : Value} (h : w.cell? a = some v) : a.spot = none := by
  unfold World.cell? at h
  split at h
  · split at h
    · cases h
    · rename_i hs; simpa using hs
  · cases h
theorem add_block (a : Addr) (n : Nat) : (a.add n).block = a.block := by unfold Addr.add; split <;> rfl
theorem add_none {a : Addr} (h : a.spot = none) (n : Nat) : a.add n = ⟨a.block, a.off + n, none⟩ := by
  obtain ⟨b, o, s⟩ := a
  simp only at h
  subst h
  unfold Addr.add
  split
  · rename_i e; subst e; rfl
  · rfl

set_option maxRecDepth 100000 in
theorem open_ints_like {H : Type} {enc : TypeId × Value → H} {W : World} {b0 : Nat} {v : Value} {d : DataW H} {p : List MemPlace} (hv : Value.okWide Tryd.prog W .any b0 28 v) (h : DataW.Trod enc Tryd.prog W 0 (fun _ => true) true 28 v d p) :
    ∃ l : List Int, IntLike W v l ∧ l.length ≤ maxLen ∧ ∀ n ∈ l, (Lit.int .i64 n).wf = true := by
  obtain ⟨a0, len, cap, rfl⟩ := okWide_slice Tryd.underlying28 hv
  obtain ⟨fuel, hf⟩ := h
  rcases open_ints Tryd.underlying28 Tryd.underlying3 (by kernel_rfl) hf with ⟨h1, _⟩ | ⟨a, len', cap', zs, h1, _, hl, hm, hz, _, hcell, hwf⟩
  · simp only [Value.cells, List.cons.injEq, Value.slice.injEq, and_true] at h1
    obtain ⟨rfl, rfl, rfl⟩ := h1
    exact ⟨[], ⟨none, 0, rfl, fun h => by simp at h⟩, by simp, by simp⟩
  · simp only [Value.cells, List.cons.injEq, Value.slice.injEq, and_true] at h1
    obtain ⟨rfl, rfl, rfl⟩ := h1
    simp only [if_true] at hz
    refine ⟨zs.take len, ⟨some a, cap, by simp; omega, fun hp => ?_⟩, by simp; omega, fun n hn => hwf n (List.mem_of_mem_take hn)⟩
    have hlen : (zs.take len).length = len := by simp; omega
    have hs : a.spot = none := by
      have := spot_of (hcell 0 (by omega))
      simpa [Addr.add] using this
    obtain ⟨b, o, s⟩ := a
    simp only at hs
    subst hs
    refine ⟨b, o, rfl, fun j u hu => ?_⟩
    have hj : j < len := by
      have := (List.getElem?_eq_some_iff.1 hu).1
      omega
    have h2 := hcell j (by omega)
    rw [add_none rfl] at h2
    rw [h2]
    rw [List.getElem?_take_of_lt hj] at hu
    simp [List.getD, hu]

theorem struct3_parts {H : Type} {enc : TypeId × Value → H} {P : Program} {w : World} {base : Nat} {sp : Nat → Bool} {held : Bool} {t : TypeId} {f0 f1 f2 : Field} {fuel : Nat} {cs : List Value} {x : DataW H × List MemPlace}
    (ht : P.underlying t = some (.struct #[f0, f1, f2])) (h : DataW.trod enc P w base sp held fuel t cs = some x) : ∃ y0 y1 y2 n, cs.length = P.cellsOf t ∧
      DataW.trod enc P w base sp held n f0.type ((cs.drop f0.offset).take (P.cellsOf f0.type)) = some y0 ∧ DataW.trod enc P w base sp held n f1.type ((cs.drop f1.offset).take (P.cellsOf f1.type)) = some y1 ∧
      DataW.trod enc P w base sp held n f2.type ((cs.drop f2.offset).take (P.cellsOf f2.type)) = some y2 := by
  obtain ⟨xs, n, _, _, hlen, hxl, hf⟩ := DataW.trod_struct ht h
  match xs, hxl with
  | [x0, x1, x2], _ => exact ⟨x0, x1, x2, n, hlen, hf 0 f0 rfl, hf 1 f1 rfl, hf 2 f2 rfl⟩

set_option maxRecDepth 100000 in
theorem V_of_cells {H : Type} {enc : TypeId × Value → H} {W : World} {fuel : Nat} {cs : List Value} {x : DataW H × List MemPlace} (h : DataW.trod enc Tryd.prog W 0 (fun _ => true) true fuel 23 cs = some x) :
    ∃ y : V, y.Wf ∧ cs = [.int .i64 y.k, .int .i64 y.n, .string y.s] := by
  obtain ⟨x0, x1, x2, n, hlen, t0, t1, t2⟩ := struct3_parts Tryd.underlying23 h
  rw [cells23] at hlen
  obtain ⟨c0, c1, c2, rfl⟩ : ∃ c0 c1 c2, cs = [c0, c1, c2] := by
    match cs, hlen with
    | [c0, c1, c2], _ => exact ⟨c0, c1, c2, rfl⟩
  have e3 : Tryd.prog.cellsOf 3 = 1 := by kernel_rfl
  have e9 : Tryd.prog.cellsOf 9 = 1 := by kernel_rfl
  simp only [e3, e9] at t0 t1 t2
  obtain ⟨k, e0, _, wk⟩ := DataW.trod_int Tryd.underlying3 t0
  obtain ⟨m, e1, _, wn⟩ := DataW.trod_int Tryd.underlying3 t1
  obtain ⟨s, e2, _, ws⟩ := DataW.trod_string Tryd.underlying9 t2
  simp at e0 e1 e2
  subst e0 e1 e2
  exact ⟨⟨k, m, s⟩, bounds_i64 wn, rfl⟩

set_option maxRecDepth 100000 in
theorem open_row_like {H : Type} {enc : TypeId × Value → H} {W : World} {b0 : Nat} {v : Value} {d : DataW H} {p : List MemPlace} (hv : Value.okWide Tryd.prog W .any b0 39 v) (h : DataW.Trod enc Tryd.prog W 0 (fun _ => true) true 39 v d p) :
    ∃ l : List V, RowLike W v l ∧ l.length ≤ maxLen ∧ ∀ x ∈ l, x.Wf := by
  obtain ⟨a0, len, cap, rfl⟩ := okWide_slice Tryd.underlying39 hv
  obtain ⟨fuel, hf⟩ := h
  rcases open_slice Tryd.underlying39 hf with ⟨h1, _⟩ | ⟨a, len', cap', m, n, D, Pl, h1, _, hl, hm, hmm, _, hi⟩
  · simp only [Value.cells, List.cons.injEq, Value.slice.injEq, and_true] at h1
    obtain ⟨rfl, rfl, rfl⟩ := h1
    exact ⟨[], ⟨none, 0, rfl, fun h => by simp at h⟩, by simp, by simp⟩
  · simp only [Value.cells, List.cons.injEq, Value.slice.injEq, and_true] at h1
    obtain ⟨rfl, rfl, rfl⟩ := h1
    simp only [if_true] at hmm
    subst hmm
    rw [cells23] at hi
    have hy : ∀ i, i < m → ∃ y : V, y.Wf ∧ W.cell? (a.add (i * 3)) = some (.int .i64 y.k) ∧ W.cell? ((a.add (i * 3)).add 1) = some (.int .i64 y.n) ∧ W.cell? ((a.add (i * 3)).add 2) = some (.string y.s) := fun i him => by
      obtain ⟨cs', hc, ht⟩ := hi i him
      obtain ⟨y, hw, rfl⟩ := V_of_cells ht
      obtain ⟨_, _, hat⟩ := World.cells?_some hc
      have := hat 0 (by omega); have h1 := hat 1 (by omega); have h2 := hat 2 (by omega)
      refine ⟨y, hw, ?_, ?_, ?_⟩
      · simpa [Addr.add] using this
      · simpa using h1
      · simpa using h2
    let g : Nat → V := fun i => if h : i < m then (hy i h).choose else V.null
    refine ⟨(List.range len).map g, ⟨some a, m, by simp, fun hp => ?_⟩, by simp; omega, ?_⟩
    · simp only [List.length_map, List.length_range] at hp
      have hs : a.spot = none := by
        have := spot_of (hy 0 (by omega)).choose_spec.2.1
        simpa [Addr.add] using this
      obtain ⟨b, o, s⟩ := a
      simp only at hs
      subst hs
      refine ⟨b, o, rfl, fun j u hu => ?_⟩
      simp only [List.getElem?_map, Option.map_eq_some_iff] at hu
      obtain ⟨j', hj', rfl⟩ := hu
      obtain ⟨hlt, rfl⟩ := List.getElem?_eq_some_iff.1 hj'
      simp only [List.length_range] at hlt
      simp only [List.getElem_range]
      have hjm : j < m := by omega
      have hsp := (hy j hjm).choose_spec
      have eg : g j = (hy j hjm).choose := dif_pos hjm
      obtain ⟨y, hyd⟩ : ∃ y, y = (hy j hjm).choose := ⟨_, rfl⟩
      rw [← hyd] at hsp
      rw [eg, ← hyd]
      clear eg hyd
      obtain ⟨_, q0, q1, q2⟩ := hsp
      simp only [addr_add'] at q0 q1 q2
      exact ⟨q0, q1, q2⟩
    · intro x hx
      simp only [List.mem_map, List.mem_range] at hx
      obtain ⟨j, hj, rfl⟩ := hx
      have hjm : j < m := by omega
      have eg : g j = (hy j hjm).choose := dif_pos hjm
      rw [eg]
      exact (hy j hjm).choose_spec.1
set_option maxRecDepth 100000 in
theorem row_cap {H : Type} {enc : TypeId × Value → H} {W : World} {v : Value} {d : DataW H} {p : List MemPlace} (h : DataW.Trod enc Tryd.prog W 0 (fun _ => true) true 39 v d p) (a : Option Addr) (n c : Nat) (e : v = .slice a n c) : n ≤ c := by
  subst e
  obtain ⟨fuel, hf⟩ := h
  rcases open_slice Tryd.underlying39 hf with ⟨h1, _⟩ | ⟨a', len', cap', m, n', D, Pl, h1, _, hl, _⟩
  · simp only [Value.cells, List.cons.injEq, Value.slice.injEq, and_true] at h1
    omega
  · simp only [Value.cells, List.cons.injEq, Value.slice.injEq, and_true] at h1
    omega
end Go.Proofs.YtbpnnhdhpahbjaaDoor
