/-
  DERIVED. GIVEN WITH THE SEED: THE CARDS: each row of YtjmmbebkbkgefaaGreatDoorRows.lean that lists a variable, with what it lists TIED to the program's text (the seventh form; the later family's looks); each row that meets fmt, with fmt's text TOLD by the authors' own Lean function (tested against real Go, not proved from fmt's source: count such statements apart). THE CARD IS WHAT COUNTS. Prove the row's statement (the work); the ties are given (YtjmmbebkbkgefaaGreatDoorTie.lean); close each card by the builder's one call (the guide's Derived/Test/ToyasCard.lean, 'card_holds'). Laid BY PROGRAM, IN A SANDBOX (cutbox-door.mjs). By AI agents, Wed Nov 11 2026. No macro, syntax, notation, axiom, sorry.
-/
import Derived.Test.YtjmmbebkbkgefaaGreatDoorRows
import GoSem.ClaimSeven
namespace Go.Proofs.YtjmmbebkbkgefaaGreatDoor
namespace Rows

/-- THE TIED CARD OF 'alumlaw38.SqlResolveMatchesSpec'. -/
def sqlResolveMatchesSpecCard : Claim7 := { stood := { row := sqlResolveMatchesSpecRow, standIns := [], harness := (true, "b0ae5e70bb6b9d1eb534d04ce80877cf9bb319b130a2be7966555d9682b13222"), looks := true }, kinds := [], alts := [], laidByText := true, laidKinds := [.data, .data, .data, .data, .sentinel, .sentinel, .data, .mapped, .pinned, .pinned, .pinned], laidTests := true, laidLooks := .later }
def SqlResolveMatchesSpecCardSaid : Prop := Claim7.holds Tryz.pinned (.plain (OpenSpec.ofChange sqlResolveMatchesSpecSpec)) sqlResolveMatchesSpecCard

/-- THE TIED CARD OF 'alumlaw38.SqlBoundHasSchema'. -/
def sqlBoundHasSchemaCard : Claim7 := { stood := { row := sqlBoundHasSchemaRow, standIns := [], harness := (true, "b0ae5e70bb6b9d1eb534d04ce80877cf9bb319b130a2be7966555d9682b13222"), looks := true }, kinds := [], alts := [], laidByText := true, laidKinds := [.data, .data, .data, .data, .sentinel, .sentinel, .data, .mapped, .pinned, .pinned, .pinned], laidTests := true, laidLooks := .later }
def SqlBoundHasSchemaCardSaid : Prop := Claim7.holds Tryz.pinned (.plain (OpenSpec.ofChange sqlBoundHasSchemaSpec)) sqlBoundHasSchemaCard

/-- THE TIED CARD OF 'alumlaw38.SqlQualifiedIsTheSame'. -/
def sqlQualifiedIsTheSameCard : Claim7 := { stood := { row := sqlQualifiedIsTheSameRow, standIns := [], harness := (true, "b0ae5e70bb6b9d1eb534d04ce80877cf9bb319b130a2be7966555d9682b13222"), looks := true }, kinds := [], alts := [], laidByText := true, laidKinds := [.data, .data, .data, .data, .sentinel, .sentinel, .data, .mapped, .pinned, .pinned, .pinned], laidTests := true, laidLooks := .later }
def SqlQualifiedIsTheSameCardSaid : Prop := Claim7.holds Tryz.pinned (.plain (OpenSpec.ofChange sqlQualifiedIsTheSameSpec)) sqlQualifiedIsTheSameCard

/-- THE SECOND FORM's CARD OF 'alumlaw38.SqlResolveMatchesSpec'. -/
def sqlResolveMatchesSpecUptoCard : Claim7 := { stood := { row := sqlResolveMatchesSpecUptoRow, standIns := [], harness := (true, "b0ae5e70bb6b9d1eb534d04ce80877cf9bb319b130a2be7966555d9682b13222"), looks := true }, kinds := [], alts := [], laidByText := true, laidKinds := [.data, .data, .data, .data, .sentinel, .sentinel, .data, .mapped, .pinned, .pinned, .pinned], laidTests := true, laidLooks := .later }
def SqlResolveMatchesSpecUptoCardSaid : Prop := Claim7.holds Tryz.pinned (.plain (OpenSpec.upto sqlResolveMatchesSpecSpec)) sqlResolveMatchesSpecUptoCard

/-- THE SECOND FORM's CARD OF 'alumlaw38.SqlBoundHasSchema'. -/
def sqlBoundHasSchemaUptoCard : Claim7 := { stood := { row := sqlBoundHasSchemaUptoRow, standIns := [], harness := (true, "b0ae5e70bb6b9d1eb534d04ce80877cf9bb319b130a2be7966555d9682b13222"), looks := true }, kinds := [], alts := [], laidByText := true, laidKinds := [.data, .data, .data, .data, .sentinel, .sentinel, .data, .mapped, .pinned, .pinned, .pinned], laidTests := true, laidLooks := .later }
def SqlBoundHasSchemaUptoCardSaid : Prop := Claim7.holds Tryz.pinned (.plain (OpenSpec.upto sqlBoundHasSchemaSpec)) sqlBoundHasSchemaUptoCard

/-- THE SECOND FORM's CARD OF 'alumlaw38.SqlQualifiedIsTheSame'. -/
def sqlQualifiedIsTheSameUptoCard : Claim7 := { stood := { row := sqlQualifiedIsTheSameUptoRow, standIns := [], harness := (true, "b0ae5e70bb6b9d1eb534d04ce80877cf9bb319b130a2be7966555d9682b13222"), looks := true }, kinds := [], alts := [], laidByText := true, laidKinds := [.data, .data, .data, .data, .sentinel, .sentinel, .data, .mapped, .pinned, .pinned, .pinned], laidTests := true, laidLooks := .later }
def SqlQualifiedIsTheSameUptoCardSaid : Prop := Claim7.holds Tryz.pinned (.plain (OpenSpec.upto sqlQualifiedIsTheSameSpec)) sqlQualifiedIsTheSameUptoCard
end Rows
end Go.Proofs.YtjmmbebkbkgefaaGreatDoor
