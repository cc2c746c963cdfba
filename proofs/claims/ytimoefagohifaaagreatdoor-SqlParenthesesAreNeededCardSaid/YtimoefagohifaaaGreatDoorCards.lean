/-
  DERIVED. GIVEN WITH THE SEED: THE CARDS: each row of YtimoefagohifaaaGreatDoorRows.lean that lists a variable, with what it lists TIED to the program's text (the seventh form; the later family's looks); each row that meets fmt, with fmt's text TOLD by the authors' own Lean function (tested against real Go, not proved from fmt's source: count such statements apart). THE CARD IS WHAT COUNTS. Prove the row's statement (the work); the ties are given (YtimoefagohifaaaGreatDoorTie.lean); close each card by the builder's one call (the guide's Derived/Test/ToyasCard.lean, 'card_holds'). Laid BY PROGRAM, IN A SANDBOX (cutbox-door.mjs). By AI agents, Wed Nov 11 2026. No macro, syntax, notation, axiom, sorry.
-/
import Derived.Test.YtimoefagohifaaaGreatDoorRows
import GoSem.ClaimSeven
namespace Go.Proofs.YtimoefagohifaaaGreatDoor
namespace Rows

/-- THE TIED CARD OF 'alumlaw38.SqlTokensMatchSpec'. -/
def sqlTokensMatchSpecCard : Claim7 := { stood := { row := sqlTokensMatchSpecRow, standIns := [], harness := (true, "25680f565fc34e6ccbafea0f698f20305f0502a5626498c7ef00e7a7cda3cb6e"), looks := true }, kinds := [], alts := [], laidByText := true, laidKinds := [.data, .data, .data, .data, .sentinel, .sentinel, .data, .mapped, .pinned, .pinned, .pinned], laidTests := true, laidLooks := .later }
def SqlTokensMatchSpecCardSaid : Prop := Claim7.holds Tryz.pinned (.plain (OpenSpec.ofChange sqlTokensMatchSpecSpec)) sqlTokensMatchSpecCard

/-- THE TIED CARD OF 'alumlaw38.SqlPrintedIsParsed'. -/
def sqlPrintedIsParsedCard : Claim7 := { stood := { row := sqlPrintedIsParsedRow, standIns := [], harness := (true, "25680f565fc34e6ccbafea0f698f20305f0502a5626498c7ef00e7a7cda3cb6e"), looks := true }, kinds := [], alts := [], laidByText := true, laidKinds := [.data, .data, .data, .data, .sentinel, .sentinel, .data, .mapped, .pinned, .pinned, .pinned], laidTests := true, laidLooks := .later }
def SqlPrintedIsParsedCardSaid : Prop := Claim7.holds Tryz.pinned (.plain (OpenSpec.ofChange sqlPrintedIsParsedSpec)) sqlPrintedIsParsedCard

/-- THE TIED CARD OF 'alumlaw38.SqlParsedIsPrinted'. -/
def sqlParsedIsPrintedCard : Claim7 := { stood := { row := sqlParsedIsPrintedRow, standIns := [], harness := (true, "25680f565fc34e6ccbafea0f698f20305f0502a5626498c7ef00e7a7cda3cb6e"), looks := true }, kinds := [], alts := [], laidByText := true, laidKinds := [.data, .data, .data, .data, .sentinel, .sentinel, .data, .mapped, .pinned, .pinned, .pinned], laidTests := true, laidLooks := .later }
def SqlParsedIsPrintedCardSaid : Prop := Claim7.holds Tryz.pinned (.plain (OpenSpec.ofChange sqlParsedIsPrintedSpec)) sqlParsedIsPrintedCard

/-- THE TIED CARD OF 'alumlaw38.SqlSpacesDoNotMatter'. -/
def sqlSpacesDoNotMatterCard : Claim7 := { stood := { row := sqlSpacesDoNotMatterRow, standIns := [], harness := (true, "25680f565fc34e6ccbafea0f698f20305f0502a5626498c7ef00e7a7cda3cb6e"), looks := true }, kinds := [], alts := [], laidByText := true, laidKinds := [.data, .data, .data, .data, .sentinel, .sentinel, .data, .mapped, .pinned, .pinned, .pinned], laidTests := true, laidLooks := .later }
def SqlSpacesDoNotMatterCardSaid : Prop := Claim7.holds Tryz.pinned (.plain (OpenSpec.ofChange sqlSpacesDoNotMatterSpec)) sqlSpacesDoNotMatterCard

/-- THE TIED CARD OF 'alumlaw38.SqlParenthesesAreNeeded'. -/
def sqlParenthesesAreNeededCard : Claim7 := { stood := { row := sqlParenthesesAreNeededRow, standIns := [], harness := (true, "25680f565fc34e6ccbafea0f698f20305f0502a5626498c7ef00e7a7cda3cb6e"), looks := true }, kinds := [], alts := [], laidByText := true, laidKinds := [.data, .data, .data, .data, .sentinel, .sentinel, .data, .mapped, .pinned, .pinned, .pinned], laidTests := true, laidLooks := .later }
def SqlParenthesesAreNeededCardSaid : Prop := Claim7.holds Tryz.pinned (.plain (OpenSpec.ofChange sqlParenthesesAreNeededSpec)) sqlParenthesesAreNeededCard

/-- THE SECOND FORM's CARD OF 'alumlaw38.SqlTokensMatchSpec'. -/
def sqlTokensMatchSpecUptoCard : Claim7 := { stood := { row := sqlTokensMatchSpecUptoRow, standIns := [], harness := (true, "25680f565fc34e6ccbafea0f698f20305f0502a5626498c7ef00e7a7cda3cb6e"), looks := true }, kinds := [], alts := [], laidByText := true, laidKinds := [.data, .data, .data, .data, .sentinel, .sentinel, .data, .mapped, .pinned, .pinned, .pinned], laidTests := true, laidLooks := .later }
def SqlTokensMatchSpecUptoCardSaid : Prop := Claim7.holds Tryz.pinned (.plain (OpenSpec.upto sqlTokensMatchSpecSpec)) sqlTokensMatchSpecUptoCard

/-- THE SECOND FORM's CARD OF 'alumlaw38.SqlPrintedIsParsed'. -/
def sqlPrintedIsParsedUptoCard : Claim7 := { stood := { row := sqlPrintedIsParsedUptoRow, standIns := [], harness := (true, "25680f565fc34e6ccbafea0f698f20305f0502a5626498c7ef00e7a7cda3cb6e"), looks := true }, kinds := [], alts := [], laidByText := true, laidKinds := [.data, .data, .data, .data, .sentinel, .sentinel, .data, .mapped, .pinned, .pinned, .pinned], laidTests := true, laidLooks := .later }
def SqlPrintedIsParsedUptoCardSaid : Prop := Claim7.holds Tryz.pinned (.plain (OpenSpec.upto sqlPrintedIsParsedSpec)) sqlPrintedIsParsedUptoCard

/-- THE SECOND FORM's CARD OF 'alumlaw38.SqlParsedIsPrinted'. -/
def sqlParsedIsPrintedUptoCard : Claim7 := { stood := { row := sqlParsedIsPrintedUptoRow, standIns := [], harness := (true, "25680f565fc34e6ccbafea0f698f20305f0502a5626498c7ef00e7a7cda3cb6e"), looks := true }, kinds := [], alts := [], laidByText := true, laidKinds := [.data, .data, .data, .data, .sentinel, .sentinel, .data, .mapped, .pinned, .pinned, .pinned], laidTests := true, laidLooks := .later }
def SqlParsedIsPrintedUptoCardSaid : Prop := Claim7.holds Tryz.pinned (.plain (OpenSpec.upto sqlParsedIsPrintedSpec)) sqlParsedIsPrintedUptoCard

/-- THE SECOND FORM's CARD OF 'alumlaw38.SqlSpacesDoNotMatter'. -/
def sqlSpacesDoNotMatterUptoCard : Claim7 := { stood := { row := sqlSpacesDoNotMatterUptoRow, standIns := [], harness := (true, "25680f565fc34e6ccbafea0f698f20305f0502a5626498c7ef00e7a7cda3cb6e"), looks := true }, kinds := [], alts := [], laidByText := true, laidKinds := [.data, .data, .data, .data, .sentinel, .sentinel, .data, .mapped, .pinned, .pinned, .pinned], laidTests := true, laidLooks := .later }
def SqlSpacesDoNotMatterUptoCardSaid : Prop := Claim7.holds Tryz.pinned (.plain (OpenSpec.upto sqlSpacesDoNotMatterSpec)) sqlSpacesDoNotMatterUptoCard

/-- THE SECOND FORM's CARD OF 'alumlaw38.SqlParenthesesAreNeeded'. -/
def sqlParenthesesAreNeededUptoCard : Claim7 := { stood := { row := sqlParenthesesAreNeededUptoRow, standIns := [], harness := (true, "25680f565fc34e6ccbafea0f698f20305f0502a5626498c7ef00e7a7cda3cb6e"), looks := true }, kinds := [], alts := [], laidByText := true, laidKinds := [.data, .data, .data, .data, .sentinel, .sentinel, .data, .mapped, .pinned, .pinned, .pinned], laidTests := true, laidLooks := .later }
def SqlParenthesesAreNeededUptoCardSaid : Prop := Claim7.holds Tryz.pinned (.plain (OpenSpec.upto sqlParenthesesAreNeededSpec)) sqlParenthesesAreNeededUptoCard
end Rows
end Go.Proofs.YtimoefagohifaaaGreatDoor
