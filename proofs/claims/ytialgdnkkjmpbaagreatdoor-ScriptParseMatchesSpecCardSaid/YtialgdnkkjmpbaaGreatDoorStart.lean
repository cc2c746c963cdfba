/-
  A world for the witnesses of this seat's rows: the listed variables laid; the map among them by hand. No condition.
-/
import Derived.Test.YtialgdnkkjmpbaaGreatDoorBase
namespace Go.Proofs.YtialgdnkkjmpbaaGreatDoor
open Go.ChangeShapes Go.WideShapes Go.ChangeAt Go.RowKit Go.Joins

def opList : List (Bytes × Int × Int) := [([42], 5, 5), ([43], 3, 4), ([45], 4, 4), ([60], 8, 3), ([60, 61], 9, 3), ([60, 62], 7, 3), ([61], 6, 3), ([62], 10, 3), ([62, 61], 11, 3), ([97, 110, 100], 12, 1), ([111, 114], 13, 0)]
def opEntry (i : Nat) (x : Bytes × Int × Int) : MapEntry := ⟨.string ⟨x.1.toArray⟩, .agg #[.int .i64 x.2.1, .int .i64 x.2.2], i⟩
def opEntries : List MapEntry := opList.mapIdx opEntry
/-- Where the map's block lies. -/
def opBlock : Nat := 18
noncomputable def base0 (os : Os) : World := World.holding Tryz.prog os ⟨#[], #[], []⟩
noncomputable def base1 (os : Os) : World := { base0 os with heap := ((base0 os).heap.setIfInBounds 5 (.cells #[.map (some (base0 os).heap.size)] 279)).push (.map opEntries.toArray 11) }
def greatNames : List String := ["math/bits.deBruijn32tab", "math/bits.deBruijn64tab", "internal/strconv.uint64pow10", "unicode/utf8.acceptRanges", "strconv.ErrRange", "strconv.ErrSyntax", "unicode.properties", "alum/script.forms", "unicode.CaseRanges", "unicode.Lower", "unicode/utf8.first"]
noncomputable def startOf (os : Os) (l : List (String × DataW Unit)) : World := (base1 os).layVars Tryz.prog (l.filter fun x => greatNames.contains x.1)
theorem startOf_os (os : Os) (l : List (String × DataW Unit)) : (startOf os l).os = os := World.layVars_os _ _ _
theorem base_size (os : Os) : (base0 os).heap.size = 18 := by kernel_rfl
theorem start_met {os : Os} {l : List (String × DataW Unit)} (args : Array Value)
    (hf : (base1 os).layFits Tryz.prog (l.filter fun x => greatNames.contains x.1) [5, 18] = true)
    (hi : (base1 os).layIfaces Tryz.prog (l.filter fun x => greatNames.contains x.1) (startOf os l) = true)
    (hs : LaidIn Tryz.prog (startOf os l) (l.filter fun x => !greatNames.contains x.1) [5, 18]) :
    laidMet Tryz.prog l ((startOf os l).forCall (fun _ _ => 0) ⟨#[], args, []⟩).memory := by
  have h : laidMet Tryz.prog l (startOf os l) := laidMet_layVars greatNames [5, 18] rfl hf hi hs
  exact h.of_heap (by simp [World.memory, World.forCall, Input.heap])
section
variable {H : Type} {enc : TypeId × Value → H}
theorem witness_row_atZip {C : Checked} {os : Os} {f : FuncId} {fn : Func} {s : OpenSpec} {conds : List PathCond} {apart : Bool} {laid : List (String × DataW Unit)} (modest : Bool) (w0 : World) (args : Array Value) (hos : w0.os = os)
    (hv : (w0.forCall (fun _ _ => 0) ⟨#[], args, []⟩).variablesZipB C.prog = true)
    (hr : ((w0.forCall (fun _ _ => 0) ⟨#[], args, []⟩).heap.toList.drop C.prog.globals.size).take ((begin C.prog (fun _ _ => 0) default).world.heap.size - C.prog.globals.size) =
      (begin C.prog (fun _ _ => 0) default).world.heap.toList.drop C.prog.globals.size)
    (hok : Input.okWideB C.prog (w0.forCall (fun _ _ => 0) ⟨#[], args, []⟩) f ⟨#[], args, []⟩ = true)
    (hrow : s.preRow enc C.prog fn conds apart laid (w0.forCall (fun _ _ => 0) ⟨#[], args, []⟩).memory args) :
    ∃ (w : World) (tape : Tape) (i : Input), w.os = os ∧ (w.forCall tape i).Shaped C.prog ∧ i.vars = [] ∧ Input.okWide C.prog (w.forCall tape i) .any w.heap.size f i ∧
      s.preRow enc C.prog fn conds apart laid (w.forCall tape i).memory i.args ∧ ({ modest := modest } : Assume).holds C.prog (lone (Frame.enter C.prog f i.args .normal) [] (w.forCall tape i)) :=
  ⟨w0, fun _ _ => 0, ⟨#[], args, []⟩, hos, World.shaped_of_ZipB hv hr, (Input.okWide_of_okWideB (base := 0) hok).1, (Input.okWide_of_okWideB hok).2, hrow, by
    simp only [Assume.holds]
    exact ⟨by simp, by simp, fun _ => Modest.zero, by simp, by simp⟩⟩
end
/-- The list of this seat's rows. -/
def allLaid : List (String × DataW Unit) := Rows.scriptParsedIsPrintedRow.laid
theorem all_fits (os : Os) : (base1 os).layFits Tryz.prog (allLaid.filter fun x => greatNames.contains x.1) [5, 18] = true := by kernel_rfl
theorem all_ifaces (os : Os) : (base1 os).layIfaces Tryz.prog (allLaid.filter fun x => greatNames.contains x.1) (startOf os allLaid) = true := by kernel_rfl
theorem all_in (os : Os) : LaidIn Tryz.prog (startOf os allLaid) (allLaid.filter fun x => !greatNames.contains x.1) [5, 18] :=
  LaidIn.of_run [5, 18] 8 (by kernel_rfl) (by kernel_rfl) (by kernel_rfl) (by kernel_rfl)
theorem all_zip (os : Os) (args : Array Value) : ((startOf os allLaid).forCall (fun _ _ => 0) ⟨#[], args, []⟩).variablesZipB Tryz.prog = true := by kernel_rfl
theorem all_blocks (os : Os) (args : Array Value) : (((startOf os allLaid).forCall (fun _ _ => 0) ⟨#[], args, []⟩).heap.toList.drop Tryz.prog.globals.size).take ((begin Tryz.prog (fun _ _ => 0) default).world.heap.size - Tryz.prog.globals.size) =
      (begin Tryz.prog (fun _ _ => 0) default).world.heap.toList.drop Tryz.prog.globals.size := by kernel_rfl
theorem all_met (os : Os) (args : Array Value) : laidMet Tryz.prog allLaid ((startOf os allLaid).forCall (fun _ _ => 0) ⟨#[], args, []⟩).memory := start_met args (all_fits os) (all_ifaces os) (all_in os)
theorem all_rest : (allLaid.filter fun x => !greatNames.contains x.1).map (·.1) = ["alum/sql.operators"] := by kernel_rfl
end Go.Proofs.YtialgdnkkjmpbaaGreatDoor
