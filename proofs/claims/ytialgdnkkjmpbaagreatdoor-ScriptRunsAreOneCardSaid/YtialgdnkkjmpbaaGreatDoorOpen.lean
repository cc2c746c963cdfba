/-
  Arguments opened: a script, a slice of bytes, each as what it reads as. No condition.
-/
import Derived.Test.YtialgdnkkjmpbaaGreatDoorBase
import Derived.Test.YtialgdnkkjmpbaaGreatDoorWk
import Derived.Deep.Slices
import Derived.ChangeSlices
namespace Go.Proofs.YtialgdnkkjmpbaaGreatDoor
open Go.ChangeShapes Go.WideShapes Go.ChangeAt Go.RowKit Go.Joins Go.Deep

theorem spot_of {w : World} {a : Addr} {v : Value} (h : w.cell? a = some v) : a.spot = none := by
  unfold World.cell? at h
  split at h
  · split at h
    · cases h
    · rename_i hs; simpa using hs
  · cases h
theorem CellsAt.app {w : World} {b o : Nat} {A B : List Value} (hA : CellsAt w b o A) (hB : CellsAt w b (o + A.length) B) : CellsAt w b o (A ++ B) := by
  intro j u hu
  rw [List.getElem?_append] at hu
  split at hu
  · exact hA j u hu
  · rename_i hj
    have := hB (j - A.length) u hu
    rw [show o + A.length + (j - A.length) = o + j by omega] at this
    exact this
section
variable {H : Type} {enc : TypeId × Value → H} {W : World}
theorem cells_flat {α : Type} (f : α → List Value) (k : Nat) (hf : ∀ x, (f x).length = k) {b o : Nat} : ∀ (l : List α) (s : Nat),
    (∀ (i : Nat) (x : α), l[i]? = some x → ∀ j, j < k → W.cell? ⟨b, o + (s + i) * k + j, none⟩ = (f x)[j]?) → CellsAt W b (o + s * k) (l.flatMap f)
  | [], s, _ => fun j u hu => by simp at hu
  | x :: l, s, h => by
    rw [List.flatMap_cons]
    refine CellsAt.app ?_ ?_
    · intro j u hu
      have hj : j < k := by have := (List.getElem?_eq_some_iff.1 hu).1; rw [hf] at this; exact this
      have := h 0 x rfl j hj
      rw [Nat.add_zero] at this
      rw [this, hu]
    · rw [hf]
      have ih := cells_flat f k hf (b := b) (o := o) l (s + 1) (fun i y hy j hj => by
        have := h (i + 1) y (by simpa using hy) j hj
        rw [show s + 1 + i = s + (i + 1) by omega]; exact this)
      rw [show o + s * k + k = o + (s + 1) * k by rw [Nat.add_mul]; omega]
      exact ih
/-- A slice of elements of k cells each, as the list that it reads as. -/
theorem open_elems {α : Type} {P : Program} (f : α → List Value) (Q : α → Prop) (k : Nat) (hk0 : 0 < k) (hf : ∀ x, (f x).length = k) {t e : TypeId} (ht : P.underlying t = some (.slice e)) (hc : P.cellsOf e = k)
    (hel : ∀ (n : Nat) (cs : List Value) (y : DataW H × List MemPlace), DataW.trod enc P W 0 (fun _ => true) true n e cs = some y → ∃ x, Q x ∧ cs = f x)
    {fuel : Nat} {cs : List Value} {y : DataW H × List MemPlace} (h : DataW.trod enc P W 0 (fun _ => true) true fuel t cs = some y) :
    ∃ (v : Value) (l : List α), cs = [v] ∧ SlAt W v l.length (l.flatMap f) ∧ ∀ x ∈ l, Q x := by
  rcases open_slice ht h with ⟨rfl, _⟩ | ⟨a, len, cap, m, n, D, Pl, rfl, _, hl, _, hm, _, hi⟩
  · exact ⟨_, [], rfl, ⟨none, 0, rfl, Nat.le_refl _, fun h => by simp at h⟩, by simp⟩
  · simp only [if_true] at hm
    rw [hc] at hi
    have hy : ∀ q, q ≤ m → ∃ l : List α, l.length = q ∧ (∀ x ∈ l, Q x) ∧ ∀ (i : Nat) (x : α), l[i]? = some x → ∀ j, j < k → W.cell? ((a.add (i * k)).add j) = (f x)[j]? := by
      intro q
      induction q with
      | zero => intro _; exact ⟨[], rfl, by simp, fun i x hx => by simp at hx⟩
      | succ q ih =>
        intro hq
        obtain ⟨l, hll, hQ, hat⟩ := ih (by omega)
        obtain ⟨cs', hcs, ht'⟩ := hi q (by omega)
        obtain ⟨x, hx, rfl⟩ := hel _ _ _ ht'
        obtain ⟨_, _, hx2⟩ := World.cells?_some hcs
        refine ⟨l ++ [x], by simp [hll], fun z hz => ?_, fun i z hz j hj => ?_⟩
        · rcases List.mem_append.1 hz with hz | hz
          · exact hQ z hz
          · simp only [List.mem_singleton] at hz; subst hz; exact hx
        · rw [List.getElem?_append] at hz
          split at hz
          · exact hat i z hz j hj
          · rename_i hni
            obtain rfl : i = q := by
              have := (List.getElem?_eq_some_iff.1 hz).1
              simp at this; omega
            rw [hll, Nat.sub_self] at hz
            simp only [List.getElem?_cons_zero, Option.some.injEq] at hz
            subst hz
            exact hx2 j hj
    obtain ⟨l, hll, hQ, hat⟩ := hy len (by omega)
    refine ⟨_, l, rfl, ⟨some a, cap, by rw [hll], by omega, fun hp => ?_⟩, hQ⟩
    obtain ⟨x, hx⟩ : ∃ x, l[0]? = some x := ⟨l[0], by simp [hp]⟩
    have hs : a.spot = none := by
      have h0 := hat 0 x hx 0 hk0
      obtain ⟨u, hu⟩ : ∃ u, (f x)[0]? = some u := ⟨(f x)[0]'(by rw [hf]; exact hk0), by simp⟩
      rw [hu, Nat.zero_mul] at h0
      have := spot_of h0
      simpa [Addr.add] using this
    obtain ⟨b, o, s⟩ := a
    simp only at hs
    subst hs
    refine ⟨b, o, rfl, ?_⟩
    have := cells_flat (W := W) f k hf (b := b) (o := o) l 0 (fun i y hy j hj => by
      have h1 := hat i y hy j hj
      rw [addr_add_mk, addr_add_mk] at h1
      rw [Nat.zero_add]; exact h1)
    rw [Nat.zero_mul, Nat.add_zero] at this
    exact this
theorem svals_flat : ∀ l : List Bytes, l.flatMap (fun s : Bytes => [Value.string ⟨s.toArray⟩]) = svals l
  | [] => rfl
  | s :: l => by rw [List.flatMap_cons, svals_flat l]; rfl
theorem open_strs {fuel : Nat} {cs : List Value} {y : DataW H × List MemPlace} (h : DataW.trod enc Tryz.prog W 0 (fun _ => true) true fuel 43 cs = some y) :
    ∃ (v : Value) (l : List Bytes), cs = [v] ∧ SlAt W v l.length (svals l) := by
  obtain ⟨v, l, e, hs, _⟩ := open_elems (fun s : Bytes => [.string ⟨s.toArray⟩]) (fun _ => True) 1 (by omega) (fun _ => rfl) Tryz.underlying43 (by kernel_rfl)
    (fun n cs y hy => by
      obtain ⟨s, rfl, _, _⟩ := DataW.trod_string Tryz.underlying9 hy
      exact ⟨s.data.toList, trivial, rfl⟩) h
  refine ⟨v, l, e, ?_⟩
  rw [← svals_flat]; exact hs
theorem open_cl {fuel : Nat} {cs : List Value} {y : DataW H × List MemPlace} (h : DataW.trod enc Tryz.prog W 0 (fun _ => true) true fuel 48 cs = some y) :
    ∃ x : Cl × Value, SlAt W x.2 x.1.lines.length (svals x.1.lines) ∧ cs = [.int .i64 x.1.tries, x.2] := by
  obtain ⟨y0, y1, n, _, hl, h0, h1⟩ := trod_struct2 Tryz.underlying48 h
  have hc2 : Tryz.prog.cellsOf 48 = 2 := by kernel_rfl
  rw [hc2] at hl
  obtain ⟨c0, c1, rfl⟩ : ∃ c0 c1, cs = [c0, c1] := two_of hl
  have k3 : Tryz.prog.cellsOf 3 = 1 := by kernel_rfl
  have k43 : Tryz.prog.cellsOf 43 = 1 := by kernel_rfl
  simp only [k3, k43, List.drop_zero, List.drop_succ_cons, List.take_succ_cons, List.take_zero] at h0 h1
  obtain ⟨m, e0, _, _⟩ := DataW.trod_int Tryz.underlying3 h0
  obtain ⟨v, l, e1, hs⟩ := open_strs h1
  simp only [List.cons.injEq, and_true] at e0 e1
  subst e0 e1
  exact ⟨(⟨m, l⟩, _), hs, rfl⟩
theorem open_ac {fuel : Nat} {cs : List Value} {y : DataW H × List MemPlace} (h : DataW.trod enc Tryz.prog W 0 (fun _ => true) true fuel 67 cs = some y) : ∃ a : Ac, cs = acCells a := by
  obtain ⟨xs, n, _, _, hlen, hxl, hf⟩ := DataW.trod_struct Tryz.underlying67 h
  have hc4 : Tryz.prog.cellsOf 67 = 4 := by kernel_rfl
  have k3 : Tryz.prog.cellsOf 3 = 1 := by kernel_rfl
  rw [hc4] at hlen
  obtain ⟨c0, c1, c2, c3, rfl⟩ : ∃ c0 c1 c2 c3, cs = [c0, c1, c2, c3] := by
    rcases cs with _ | ⟨a, _ | ⟨b, _ | ⟨c, _ | ⟨d, _ | ⟨e, r⟩⟩⟩⟩⟩ <;> simp at hlen
    exact ⟨a, b, c, d, rfl⟩
  match xs, hxl with
  | [x0, x1, x2, x3], _ =>
    have t0 : DataW.trod enc Tryz.prog W 0 (fun _ => true) true n 3 (([c0, c1, c2, c3].drop 0).take (Tryz.prog.cellsOf 3)) = some x0 := hf 0 _ rfl
    have t1 : DataW.trod enc Tryz.prog W 0 (fun _ => true) true n 3 (([c0, c1, c2, c3].drop 1).take (Tryz.prog.cellsOf 3)) = some x1 := hf 1 _ rfl
    have t2 : DataW.trod enc Tryz.prog W 0 (fun _ => true) true n 3 (([c0, c1, c2, c3].drop 2).take (Tryz.prog.cellsOf 3)) = some x2 := hf 2 _ rfl
    have t3 : DataW.trod enc Tryz.prog W 0 (fun _ => true) true n 3 (([c0, c1, c2, c3].drop 3).take (Tryz.prog.cellsOf 3)) = some x3 := hf 3 _ rfl
    simp only [k3, List.drop_zero, List.drop_succ_cons, List.take_succ_cons, List.take_zero] at t0 t1 t2 t3
    obtain ⟨m0, e0, _, _⟩ := DataW.trod_int Tryz.underlying3 t0
    obtain ⟨m1, e1, _, _⟩ := DataW.trod_int Tryz.underlying3 t1
    obtain ⟨m2, e2, _, _⟩ := DataW.trod_int Tryz.underlying3 t2
    obtain ⟨m3, e3, _, _⟩ := DataW.trod_int Tryz.underlying3 t3
    simp only [List.cons.injEq, and_true] at e0 e1 e2 e3
    subst e0 e1 e2 e3
    exact ⟨⟨m0, m1, m2, m3⟩, rfl⟩
theorem acVals_flat (l : List Ac) : l.flatMap acCells = acVals l := rfl
theorem clVals_flat : ∀ l : List (Cl × Value), l.flatMap (fun x => [.int .i64 x.1.tries, x.2]) = clVals (l.map (·.1)) (l.map (·.2))
  | [] => rfl
  | x :: l => by rw [List.flatMap_cons, clVals_flat l]; rfl
theorem acVals_of {w : World} {v : Value} {l : List Ac} (h : SlAt w v l.length (l.flatMap acCells)) : SlAt w v l.length (acVals l) := h
set_option maxRecDepth 100000 in
/-- A script. -/
theorem open_script {b0 : Nat} {v : Value} {d : DataW H} {p : List MemPlace} (hv : Value.okWide Tryz.prog W .any b0 28 v) (h : DataW.Trod enc Tryz.prog W 0 (fun _ => true) true 28 v d p) :
    ∃ (x : Sc) (cv av : Value), v = scVal x cv av ∧ ScAt W cv av x := by
  simp only [Value.okWide, Tryz.underlying28] at hv
  obtain ⟨cs, rfl, hsz, _⟩ := hv
  obtain ⟨fuel, hf⟩ := h
  have hc7 : Tryz.prog.cellsOf 28 = 7 := by kernel_rfl
  rw [hc7] at hsz
  obtain ⟨cs⟩ := cs
  obtain ⟨c0, c1, c2, c3, c4, c5, c6, rfl⟩ : ∃ c0 c1 c2 c3 c4 c5 c6, cs = [c0, c1, c2, c3, c4, c5, c6] := by
    rcases cs with _ | ⟨a, _ | ⟨b, _ | ⟨c, _ | ⟨d, _ | ⟨e, _ | ⟨f, _ | ⟨g, _ | ⟨i, r⟩⟩⟩⟩⟩⟩⟩⟩ <;> simp at hsz
    exact ⟨a, b, c, d, e, f, g, rfl⟩
  obtain ⟨xs, n, _, _, _, hxl, hx⟩ := DataW.trod_struct Tryz.underlying28 hf
  have k3 : Tryz.prog.cellsOf 3 = 1 := by kernel_rfl
  have k25 : Tryz.prog.cellsOf 25 = 1 := by kernel_rfl
  have k26 : Tryz.prog.cellsOf 26 = 1 := by kernel_rfl
  have kS : Tryz.prog.cellsOf 24 = 4 := by kernel_rfl
  match xs, hxl with
  | [x0, x1, x2, x3], _ =>
    have t0 : DataW.trod enc Tryz.prog W 0 (fun _ => true) true n 3 (([c0, c1, c2, c3, c4, c5, c6].drop 0).take (Tryz.prog.cellsOf 3)) = some x0 := hx 0 _ rfl
    have t1 : DataW.trod enc Tryz.prog W 0 (fun _ => true) true n 24 (([c0, c1, c2, c3, c4, c5, c6].drop 1).take (Tryz.prog.cellsOf 24)) = some x1 := hx 1 _ rfl
    have t2 : DataW.trod enc Tryz.prog W 0 (fun _ => true) true n 25 (([c0, c1, c2, c3, c4, c5, c6].drop 5).take (Tryz.prog.cellsOf 25)) = some x2 := hx 2 _ rfl
    have t3 : DataW.trod enc Tryz.prog W 0 (fun _ => true) true n 26 (([c0, c1, c2, c3, c4, c5, c6].drop 6).take (Tryz.prog.cellsOf 26)) = some x3 := hx 3 _ rfl
    simp only [k3, k25, k26, kS, List.drop_zero, List.drop_succ_cons, List.take_succ_cons, List.take_zero] at t0 t1 t2 t3
    obtain ⟨m0, e0, _, _⟩ := DataW.trod_int Tryz.underlying3 t0
    obtain ⟨ys, n2, _, _, _, hyl, hy⟩ := DataW.trod_struct Tryz.underlying24 t1
    match ys, hyl with
    | [y0, y1, y2, y3], _ =>
      have s0 : DataW.trod enc Tryz.prog W 0 (fun _ => true) true n2 3 (([c1, c2, c3, c4].drop 0).take (Tryz.prog.cellsOf 3)) = some y0 := hy 0 _ rfl
      have s1 : DataW.trod enc Tryz.prog W 0 (fun _ => true) true n2 3 (([c1, c2, c3, c4].drop 1).take (Tryz.prog.cellsOf 3)) = some y1 := hy 1 _ rfl
      have s2 : DataW.trod enc Tryz.prog W 0 (fun _ => true) true n2 3 (([c1, c2, c3, c4].drop 2).take (Tryz.prog.cellsOf 3)) = some y2 := hy 2 _ rfl
      have s3 : DataW.trod enc Tryz.prog W 0 (fun _ => true) true n2 3 (([c1, c2, c3, c4].drop 3).take (Tryz.prog.cellsOf 3)) = some y3 := hy 3 _ rfl
      simp only [k3, List.drop_zero, List.drop_succ_cons, List.take_succ_cons, List.take_zero] at s0 s1 s2 s3
      obtain ⟨m1, e1, _, _⟩ := DataW.trod_int Tryz.underlying3 s0
      obtain ⟨m2, e2, _, _⟩ := DataW.trod_int Tryz.underlying3 s1
      obtain ⟨m3, e3, _, _⟩ := DataW.trod_int Tryz.underlying3 s2
      obtain ⟨m4, e4, _, _⟩ := DataW.trod_int Tryz.underlying3 s3
      obtain ⟨cv, cl, e5, hcv, hcl⟩ := open_elems (fun x : Cl × Value => [.int .i64 x.1.tries, x.2]) (fun x => SlAt W x.2 x.1.lines.length (svals x.1.lines)) 2 (by omega) (fun _ => rfl) Tryz.underlying25 (by kernel_rfl) (fun n cs y hy => open_cl hy) t2
      obtain ⟨av, al, e6, hav, _⟩ := open_elems acCells (fun _ => True) 4 (by omega) (fun _ => rfl) Tryz.underlying26 (by kernel_rfl) (fun n cs y hy => by obtain ⟨a, e⟩ := open_ac hy; exact ⟨a, trivial, e⟩) t3
      simp only [List.cons.injEq, and_true] at e0 e1 e2 e3 e4 e5 e6
      subst e0 e1 e2 e3 e4 e5 e6
      refine ⟨⟨m0, m1, m2, m3, m4, cl.map (·.1), al⟩, _, _, rfl, acVals_of hav, cl.map (·.2), by simp, ?_, ?_⟩
      · rw [clVals_flat] at hcv
        rw [List.length_map]; exact hcv
      · intro i c lv hc hl
        simp only [List.getElem?_map, Option.map_eq_some_iff] at hc hl
        obtain ⟨z, hz, rfl⟩ := hc
        obtain ⟨z', hz', rfl⟩ := hl
        obtain rfl : z = z' := Option.some.inj (hz.symm.trans hz')
        exact hcl z (List.mem_of_getElem? hz)
/-- A slice of bytes. -/
def bvals (l : List UInt8) : List Value := l.map fun c => .int .u8 (c.toNat : Int)
theorem bvals_flat : ∀ l : List UInt8, l.flatMap (fun c : UInt8 => [Value.int .u8 (c.toNat : Int)]) = bvals l
  | [] => rfl
  | c :: l => by rw [List.flatMap_cons, bvals_flat l]; rfl
set_option maxRecDepth 100000 in
theorem open_bytes {b0 : Nat} {v : Value} {d : DataW H} {p : List MemPlace} (hv : Value.okWide Tryz.prog W .any b0 37 v) (h : DataW.Trod enc Tryz.prog W 0 (fun _ => true) true 37 v d p) :
    ∃ l : List UInt8, SlAt W v l.length (bvals l) := by
  obtain ⟨a0, len, cap, rfl⟩ := okWide_slice Tryz.underlying37 hv
  obtain ⟨fuel, hf⟩ := h
  obtain ⟨v, l, e, hs, _⟩ := open_elems (fun c : UInt8 => [.int .u8 (c.toNat : Int)]) (fun _ => True) 1 (by omega) (fun _ => rfl) Tryz.underlying37 (by kernel_rfl)
    (fun n cs y hy => by
      obtain ⟨m, rfl, _, wf⟩ := DataW.trod_int Tryz.underlying5 hy
      have := bounds_u8 wf
      exact ⟨UInt8.ofNat m.toNat, trivial, by congr 2; simp; omega⟩) hf
  simp only [Value.cells, List.cons.injEq, and_true] at e
  subst e
  rw [bvals_flat] at hs
  exact ⟨l, hs⟩
end
end Go.Proofs.YtialgdnkkjmpbaaGreatDoor
