/-
  What the proofs of this seat's rows share: facts of the program's tables; from a row's list of variables to what the walks ask of them. No condition.
-/
import Derived.Test.YtialgdnkkjmpbaaGreatDoorCards
import Derived.Test.YtialgdnkkjmpbaaGreatDoorTie
import Derived.Test.YtialgdnkkjmpbaaGreatDoorKitA
import Derived.Test.YtialgdnkkjmpbaaGreatDoorWc
import Derived.ProofKit
import Derived.OpenShut
import Derived.Deep.DeepHandedRow
import Derived.Deep.DeepWitnessRowRef
import Derived.Lib.LaidTab
import Derived.Lib.SmallJoins
import Derived.Lay
import Derived.LaidSub
import Derived.LaidLaws
import Derived.FnData
import Derived.SevenTiedAt
namespace Go.Proofs.YtialgdnkkjmpbaaGreatDoor
open Go.ChangeShapes Go.WideShapes Go.ChangeAt Go.RowKit Go.Joins

theorem own : ownKnob Tryz.prog.godebug = none := by kernel_rfl
theorem laidOut : laidOutB Tryz.prog = true := by kernel_rfl
theorem readable (t : TypeId) (h : t ∈ [5, 9, 28, 36, 37]) : Tryz.prog.readableRec t = true ∧ t < Tryz.prog.types.size := by
  have hall : ([5, 9, 28, 36, 37].all fun t => Tryz.prog.readableRec t && decide (t < Tryz.prog.types.size)) = true := by kernel_rfl
  have := List.all_eq_true.1 hall t h
  simpa using this
theorem noStandIn (t : TypeId) (h : t ∈ [5, 9, 28, 36, 37]) : Tryz.prog.wantsStandIn t = false := by
  have hall : ([5, 9, 28, 36, 37].all fun t => !Tryz.prog.wantsStandIn t) = true := by kernel_rfl
  simpa using List.all_eq_true.1 hall t h
theorem one_of {l : List (String × DataW Unit)} {W : World} (h : laidMetH Tryz.prog l W) (name : String) (d : DataW Unit) (hf : l.filter (fun x => x.1 == name) = [(name, d)]) (hh : d.handleName? = none) : laidMet Tryz.prog [(name, d)] W := by
  have h1 := laidMetH.filter (fun x => x.1 == name) h
  rw [hf] at h1
  unfold laidMetH at h1
  simp only [List.filter_cons, hh, Option.isSome_none, Bool.false_eq_true, if_false, List.filter_nil] at h1
  exact h1
theorem pow_of {l : List (String × DataW Unit)} {W : World} (h : laidMetH Tryz.prog l W) (hf : l.filter (fun x => x.1 == "internal/strconv.uint64pow10") = [("internal/strconv.uint64pow10", Lib.tabData .u64 Lib.pow10Tab)]) :
    Lib.TabIs Tryz.prog W "internal/strconv.uint64pow10" .u64 Lib.pow10Tab :=
  Lib.tabIs_of_head (g := 2) (t := (Tryz.prog.globals[2]?.map (·.type)).getD 0) (e := 169) (n := 20) (by kernel_rfl) (by kernel_rfl) (by kernel_rfl) (by kernel_rfl) (by kernel_rfl) (by kernel_rfl) (one_of h _ _ hf (by kernel_rfl))
theorem props_of {l : List (String × DataW Unit)} {W : World} (h : laidMetH Tryz.prog l W) (hf : l.filter (fun x => x.1 == "unicode.properties") = [("unicode.properties", Lib.tabData .u8 Lib.propertiesTab)]) :
    Lib.TabIs Tryz.prog W "unicode.properties" .u8 Lib.propertiesTab :=
  Lib.tabIs_of_head (g := 10) (t := (Tryz.prog.globals[10]?.map (·.type)).getD 0) (e := 5) (n := 256) (by kernel_rfl) (by kernel_rfl) (by kernel_rfl) (by kernel_rfl) (by kernel_rfl) (by kernel_rfl) (one_of h _ _ hf (by kernel_rfl))
theorem err_cell {l : List (String × DataW Unit)} {W : World} (h : laidMetH Tryz.prog l W) (name ty : String) (d : DataW Unit) (g t : Nat) (hg : Tryz.prog.globalNamed name = some g) (hty : (Tryz.prog.globals[g]?).map (·.type) = some t) (hu : Tryz.prog.underlying t = Tryz.prog.underlying 73)
    (hf : l.filter (fun x => x.1 == name) = [(name, .iface ty d)]) (hh : (DataW.iface ty d).handleName? = none) : ∃ t p, W.cell? ⟨g, 0, none⟩ = some (.iface t p) := by
  obtain ⟨ps, ⟨g', t', cs, fuel, p, q, hg', ht', hvar, hd, _, _⟩, _⟩ := one_of h _ _ hf hh
  obtain rfl := Option.some.inj (hg.symm.trans hg')
  obtain rfl := Option.some.inj (hty.symm.trans ht')
  obtain ⟨_, u, v, hcs, _, _⟩ := iface_of_trod (hu.trans Tryz.underlying73) hd
  have := World.var?_cell hg hvar 0
  have hc : cs = #[.iface u v] := by cases cs; simp_all
  rw [hc] at this
  exact ⟨u, v, this⟩
theorem two_of {cs : List Value} (h : cs.length = 2) : ∃ c0 c1, cs = [c0, c1] := by
  rcases cs with _ | ⟨a, _ | ⟨b, _ | ⟨c, r⟩⟩⟩ <;> simp at h
  exact ⟨a, b, rfl⟩
theorem chunks (f : Nat → List Value) : ∀ (n k : Nat) (cs : List Value), cs.length = n * 2 → (∀ i, i < n → (cs.drop (i * 2)).take 2 = f (k + i)) → cs = (List.range' k n).flatMap f
  | 0, k, cs, hl, _ => by simp at hl; simp [hl]
  | n + 1, k, cs, hl, h => by
    have h0 := h 0 (by omega)
    simp only [Nat.zero_mul, List.drop_zero, Nat.add_zero] at h0
    have ih := chunks f n (k + 1) (cs.drop 2) (by simp; omega) (fun i hi => by
      have := h (i + 1) (by omega)
      rw [List.drop_drop, show 2 + i * 2 = (i + 1) * 2 by omega, this, show k + (i + 1) = k + 1 + i by omega])
    rw [List.range'_succ, List.flatMap_cons, ← h0, ← ih, List.take_append_drop]
theorem form_at {H : Type} {enc : TypeId × Value → H} {w : World} {base : Nat} {sp : Nat → Bool} {held : Bool} {fuel : Nat} {cs : List Value} {s : List UInt8} {n : Int} {p : List MemPlace}
    (h : DataW.trod enc Tryz.prog w base sp held fuel 79 cs = some (.agg [.lit (.string s), .lit (.int .i64 n)], p)) : cs = [.string ⟨s.toArray⟩, .int .i64 n] := by
  obtain ⟨y0, y1, m, hx, hl, h0, h1⟩ := trod_struct2 Tryz.underlying79 h
  have hc2 : Tryz.prog.cellsOf 79 = 2 := by kernel_rfl
  rw [hc2] at hl
  obtain ⟨c0, c1, rfl⟩ : ∃ c0 c1, cs = [c0, c1] := two_of hl
  obtain ⟨s', e0, e1, _⟩ := DataW.trod_string Tryz.underlying9 h0
  obtain ⟨n', e2, e3, _⟩ := DataW.trod_int Tryz.underlying3 h1
  have k9 : Tryz.prog.cellsOf 9 = 1 := by kernel_rfl
  have k3 : Tryz.prog.cellsOf 3 = 1 := by kernel_rfl
  simp only [k9, k3, List.drop_zero, List.drop_succ_cons, List.take_succ_cons, List.take_zero, List.cons.injEq, and_true] at e0 e2
  subst e0 e1 e2 e3
  simp only [Prod.mk.injEq, DataW.agg.injEq, List.cons.injEq, DataW.lit.injEq, Lit.string.injEq, Lit.int.injEq, true_and, and_true] at hx
  obtain ⟨⟨rfl, rfl⟩, _⟩ := hx
  rfl
def formsData {H : Type} : DataW H := .agg (forms.map fun f => .agg [.lit (.string f.1), .lit (.int .i64 (f.2 : Int))])
set_option maxRecDepth 100000 in
theorem forms_at {H : Type} {enc : TypeId × Value → H} {w : World} {base : Nat} {sp : Nat → Bool} {held : Bool} {fuel : Nat} {cs : List Value} {p : List MemPlace}
    (h : DataW.trod enc Tryz.prog w base sp held fuel 80 cs = some (formsData, p)) : cs = formVals := by
  cases fuel with
  | zero => simp [DataW.trod] at h
  | succ fuel =>
    have ht : Tryz.prog.underlying 80 = some (.array 13 79) := by kernel_rfl
    have hce : Tryz.prog.cellsOf 79 = 2 := by kernel_rfl
    have hct : Tryz.prog.cellsOf 80 = 26 := by kernel_rfl
    simp only [DataW.trod, ht, hce, hct] at h
    split at h
    · rename_i hl
      obtain ⟨xs, hm, hx⟩ := Option.map_eq_some_iff.1 h
      have hxs : xs.map (·.1) = forms.map fun f => (DataW.agg [.lit (.string f.1), .lit (.int .i64 (f.2 : Int))] : DataW H) := by
        have := congrArg Prod.fst hx
        simpa [formsData] using this
      have key := chunks (fun i => [.string ⟨(formW i).toArray⟩, .int .i64 (formN i : Int)]) 13 0 cs (by omega) (fun i hi => by
        obtain ⟨b, hb, hf⟩ := Lib.mapM_at hm i i (by simp [hi])
        have h2 : (xs.map (·.1))[i]? = some b.1 := by simp [hb]
        rw [hxs, List.getElem?_map, List.getElem?_eq_getElem (show i < forms.length by simpa [forms] using hi)] at h2
        simp only [Option.map_some, Option.some.injEq] at h2
        have hb2 : b = (DataW.agg [.lit (.string (formW i)), .lit (.int .i64 (formN i : Int))], b.2) := by
          rw [Prod.ext_iff]
          refine ⟨?_, rfl⟩
          rw [← h2]
          simp only [formW, formN, List.getD_eq_getElem?_getD, List.getElem?_eq_getElem (show i < forms.length by simpa [forms] using hi), Option.getD_some]
        rw [hb2] at hf
        rw [Nat.zero_add]
        exact form_at hf)
      rw [key]; rfl
    · cases h
theorem forms_of {l : List (String × DataW Unit)} {W : World} (h : laidMetH Tryz.prog l W) (hf : l.filter (fun x => x.1 == "alum/script.forms") = [("alum/script.forms", formsData)]) : CellsAt W 0 0 formVals := by
  have hg : Tryz.prog.globalNamed "alum/script.forms" = some 0 := by kernel_rfl
  have hty : (Tryz.prog.globals[0]?).map (·.type) = some 80 := by kernel_rfl
  obtain ⟨ps, ⟨g', t', cs, fuel, p, q, hg', ht', hvar, hd, _, _⟩, _⟩ := one_of h _ _ hf (by kernel_rfl)
  obtain rfl := Option.some.inj (hg.symm.trans hg')
  obtain rfl := Option.some.inj (hty.symm.trans ht')
  have hcs := forms_at hd
  intro j u hu
  have := World.var?_cell hg hvar j
  rw [Nat.zero_add, this, ← hu, ← hcs]
  simp
theorem env_of {l : List (String × DataW Unit)} {W : World} (h : laidMetH Tryz.prog l W) (hs : W.ShapedOpen Tryz.prog) (h0 : l.filter (fun x => x.1 == "alum/script.forms") = [("alum/script.forms", formsData)])
    (h1 : l.filter (fun x => x.1 == "internal/strconv.uint64pow10") = [("internal/strconv.uint64pow10", Lib.tabData .u64 Lib.pow10Tab)]) (h2 : l.filter (fun x => x.1 == "unicode.properties") = [("unicode.properties", Lib.tabData .u8 Lib.propertiesTab)])
    (h3 : l.filter (fun x => x.1 == "strconv.ErrSyntax") = [("strconv.ErrSyntax", Rows.laid_strconv_ErrSyntax)]) (h4 : l.filter (fun x => x.1 == "strconv.ErrRange") = [("strconv.ErrRange", Rows.laid_strconv_ErrRange)]) : Env W := by
  refine ⟨?_, forms_of h h0, ?_, pow_of h h1, props_of h h2, err_cell h "strconv.ErrSyntax" _ _ 6 73 (by kernel_rfl) (by kernel_rfl) rfl h3 (by kernel_rfl), err_cell h "strconv.ErrRange" _ _ 7 73 (by kernel_rfl) (by kernel_rfl) rfl h4 (by kernel_rfl)⟩
  · have hx : (((begin Tryz.prog (fun _ _ => 0) default).world.heap[12]?).bind Obj.row?).isSome = true := by kernel_rfl
    obtain ⟨⟨z, t⟩, hz⟩ := Option.isSome_iff_exists.1 hx
    obtain ⟨cs, hc, _⟩ := hs.1 12 z t (of_decide_eq_true (by kernel_rfl)) hz
    exact (Array.getElem?_eq_some_iff.1 hc).1
  · exact Go.Proofs.cell_of_shapedOpen_int (zero := #[.int .i64 0]) (t := 3) hs (of_decide_eq_true (by kernel_rfl)) (by kernel_rfl) rfl (by kernel_rfl) (by kernel_rfl) Tryz.underlying3
end Go.Proofs.YtialgdnkkjmpbaaGreatDoor
