/-
  What the proofs of this seat's rows share: facts of the program's tables, a value of the program opened. No condition.
-/
import Derived.Test.YtbpnnhdhpahbjaaDoorCards
import Derived.Test.YtbpnnhdhpahbjaaDoorTie
import Derived.Test.YtbpnnhdhpahbjaaDoorPlain
import Derived.Test.YtbpnnhdhpahbjaaDoorKit4
import Derived.ProofKit
import Derived.OpenShut
import Derived.Deep.DeepHandedRow
import Derived.Lib.LaidTab
import Derived.Lib.SmallJoins
import Derived.Lay
import Derived.SevenTiedAt
namespace Go.Proofs.YtbpnnhdhpahbjaaDoor
open Go.ChangeShapes Go.WideShapes Go.ChangeAt Go.RowKit Go.Joins

theorem own : ownKnob Tryd.prog.godebug = none := by kernel_rfl
theorem cells23 : Tryd.prog.cellsOf 23 = 3 := by kernel_rfl
theorem laidOut : laidOutB Tryd.prog = true := by kernel_rfl
theorem readable (t : TypeId) (h : t ∈ [3, 9, 23, 28, 39]) : Tryd.prog.readableRec t = true ∧ t < Tryd.prog.types.size := by
  have hall : ([3, 9, 23, 28, 39].all fun t => Tryd.prog.readableRec t && decide (t < Tryd.prog.types.size)) = true := by kernel_rfl
  have := List.all_eq_true.1 hall t h
  simpa using this
theorem noStandIn (t : TypeId) (h : t ∈ [3, 9, 23, 28, 39]) : Tryd.prog.wantsStandIn t = false := by
  have hall : ([3, 9, 23, 28, 39].all fun t => !Tryd.prog.wantsStandIn t) = true := by kernel_rfl
  simpa using List.all_eq_true.1 hall t h

set_option maxRecDepth 100000 in
/-- A struct of kind, number and text, opened. -/
theorem open_V {H : Type} {enc : TypeId × Value → H} {W : World} {b0 : Nat} {v : Value} {d : DataW H} {p : List MemPlace} (hv : Value.okWide Tryd.prog W .any b0 23 v) (h : DataW.Trod enc Tryd.prog W 0 (fun _ => true) true 23 v d p) :
    ∃ x : V, v = x.val ∧ x.Wf ∧ d = .agg [.lit (.int .i64 x.k), .lit (.int .i64 x.n), .lit (.string x.s.data.toList)] ∧ x.s.size ≤ maxLen := by
  obtain ⟨c0, c1, c2, y0, y1, y2, m, rfl, rfl, rfl, hy0, hy1, hy2⟩ := open_agg3 Tryd.underlying23 (by kernel_rfl) cells23 hv h
  obtain ⟨k, e0, rfl, wk⟩ := DataW.trod_int Tryd.underlying3 hy0
  obtain ⟨n, e1, rfl, wn⟩ := DataW.trod_int Tryd.underlying3 hy1
  obtain ⟨s, e2, e3, ws⟩ := DataW.trod_string Tryd.underlying9 hy2
  simp at e0 e1 e2
  subst e0 e1 e2 e3
  exact ⟨⟨k, n, s⟩, rfl, bounds_i64 wn, rfl, ws⟩

/-- What the rows of this chapter take for granted of the listed tables is met in a world that lays them. -/
def vzero : Value := .agg #[.int .i64 0, .int .i64 0, .string ⟨#[]⟩]

end Go.Proofs.YtbpnnhdhpahbjaaDoor
