/-
  DERIVED. GIVEN WITH THE SEED: THE CARDS: each row of YtialgdnkkjmpbaaGreatDoorRows.lean that lists a variable, with what it lists TIED to the program's text (the seventh form; the later family's looks); each row that meets fmt, with fmt's text TOLD by the authors' own Lean function (tested against real Go, not proved from fmt's source: count such statements apart). THE CARD IS WHAT COUNTS. Prove the row's statement (the work); the ties are given (YtialgdnkkjmpbaaGreatDoorTie.lean); close each card by the builder's one call (the guide's Derived/Test/ToyasCard.lean, 'card_holds'). Laid BY PROGRAM, IN A SANDBOX (cutbox-door.mjs). By AI agents, Wed Nov 11 2026. No macro, syntax, notation, axiom, sorry.
-/
import Derived.Test.YtialgdnkkjmpbaaGreatDoorRows
import GoSem.ClaimSeven
namespace Go.Proofs.YtialgdnkkjmpbaaGreatDoor
namespace Rows

/-- THE TIED CARD OF 'alumlaw47.ScriptParseMatchesSpec'. -/
def scriptParseMatchesSpecCard : Claim7 := { stood := { row := scriptParseMatchesSpecRow, standIns := [], harness := (true, "d7fa31bf40bbfd50e6d75091c5ba965cf2733d67e085b7a0cb1ab911588eb1e3"), looks := true }, kinds := [], alts := [], laidByText := true, laidKinds := [.data, .data, .data, .data, .sentinel, .sentinel, .data, .mapped, .widerDeep, .pinned, .pinned, .pinned], laidTests := true, laidLooks := .later }
def ScriptParseMatchesSpecCardSaid : Prop := Claim7.holds Tryz.pinned (.plain (OpenSpec.ofChange scriptParseMatchesSpecSpec)) scriptParseMatchesSpecCard

/-- THE TIED CARD OF 'alumlaw47.ScriptIsLimited'. -/
def scriptIsLimitedCard : Claim7 := { stood := { row := scriptIsLimitedRow, standIns := [], harness := (true, "d7fa31bf40bbfd50e6d75091c5ba965cf2733d67e085b7a0cb1ab911588eb1e3"), looks := true }, kinds := [], alts := [], laidByText := true, laidKinds := [.data, .data, .data, .data, .sentinel, .sentinel, .data, .mapped, .widerDeep, .pinned, .pinned, .pinned], laidTests := true, laidLooks := .later }
def ScriptIsLimitedCardSaid : Prop := Claim7.holds Tryz.pinned (.plain (OpenSpec.ofChange scriptIsLimitedSpec)) scriptIsLimitedCard

/-- THE TIED CARD OF 'alumlaw47.ScriptPrintedIsParsed'. -/
def scriptPrintedIsParsedCard : Claim7 := { stood := { row := scriptPrintedIsParsedRow, standIns := [], harness := (true, "d7fa31bf40bbfd50e6d75091c5ba965cf2733d67e085b7a0cb1ab911588eb1e3"), looks := true }, kinds := [], alts := [], laidByText := true, laidKinds := [.data, .data, .data, .data, .sentinel, .sentinel, .data, .mapped, .widerDeep, .pinned, .pinned, .pinned], laidTests := true, laidLooks := .later }
def ScriptPrintedIsParsedCardSaid : Prop := Claim7.holds Tryz.pinned (.plain (OpenSpec.ofChange scriptPrintedIsParsedSpec)) scriptPrintedIsParsedCard

/-- THE TIED CARD OF 'alumlaw47.ScriptParsedIsPrinted'. -/
def scriptParsedIsPrintedCard : Claim7 := { stood := { row := scriptParsedIsPrintedRow, standIns := [], harness := (true, "d7fa31bf40bbfd50e6d75091c5ba965cf2733d67e085b7a0cb1ab911588eb1e3"), looks := true }, kinds := [], alts := [], laidByText := true, laidKinds := [.data, .data, .data, .data, .sentinel, .sentinel, .data, .mapped, .widerDeep, .pinned, .pinned, .pinned], laidTests := true, laidLooks := .later }
def ScriptParsedIsPrintedCardSaid : Prop := Claim7.holds Tryz.pinned (.plain (OpenSpec.ofChange scriptParsedIsPrintedSpec)) scriptParsedIsPrintedCard

/-- THE TIED CARD OF 'alumlaw47.ScriptLeavesLinesOut'. -/
def scriptLeavesLinesOutCard : Claim7 := { stood := { row := scriptLeavesLinesOutRow, standIns := [], harness := (true, "d7fa31bf40bbfd50e6d75091c5ba965cf2733d67e085b7a0cb1ab911588eb1e3"), looks := true }, kinds := [], alts := [], laidByText := true, laidKinds := [.data, .data, .data, .data, .sentinel, .sentinel, .data, .mapped, .widerDeep, .pinned, .pinned, .pinned], laidTests := true, laidLooks := .later }
def ScriptLeavesLinesOutCardSaid : Prop := Claim7.holds Tryz.pinned (.plain (OpenSpec.ofChange scriptLeavesLinesOutSpec)) scriptLeavesLinesOutCard

/-- THE TIED CARD OF 'alumlaw47.ScriptRunsAreOne'. -/
def scriptRunsAreOneCard : Claim7 := { stood := { row := scriptRunsAreOneRow, standIns := [], harness := (true, "d7fa31bf40bbfd50e6d75091c5ba965cf2733d67e085b7a0cb1ab911588eb1e3"), looks := true }, kinds := [], alts := [], laidByText := true, laidKinds := [.data, .data, .data, .data, .sentinel, .sentinel, .data, .mapped, .widerDeep, .pinned, .pinned, .pinned], laidTests := true, laidLooks := .later }
def ScriptRunsAreOneCardSaid : Prop := Claim7.holds Tryz.pinned (.plain (OpenSpec.ofChange scriptRunsAreOneSpec)) scriptRunsAreOneCard

/-- THE TIED CARD OF 'alumlaw47.ScriptCheckedIsPrinted'. -/
def scriptCheckedIsPrintedCard : Claim7 := { stood := { row := scriptCheckedIsPrintedRow, standIns := [], harness := (true, "d7fa31bf40bbfd50e6d75091c5ba965cf2733d67e085b7a0cb1ab911588eb1e3"), looks := true }, kinds := [], alts := [], laidByText := true, laidKinds := [.data, .data, .data, .data, .sentinel, .sentinel, .data, .mapped, .widerDeep, .pinned, .pinned, .pinned], laidTests := true, laidLooks := .later }
def ScriptCheckedIsPrintedCardSaid : Prop := Claim7.holds Tryz.pinned (.plain (OpenSpec.ofChange scriptCheckedIsPrintedSpec)) scriptCheckedIsPrintedCard

/-- THE SECOND FORM's CARD OF 'alumlaw47.ScriptParseMatchesSpec'. -/
def scriptParseMatchesSpecUptoCard : Claim7 := { stood := { row := scriptParseMatchesSpecUptoRow, standIns := [], harness := (true, "d7fa31bf40bbfd50e6d75091c5ba965cf2733d67e085b7a0cb1ab911588eb1e3"), looks := true }, kinds := [], alts := [], laidByText := true, laidKinds := [.data, .data, .data, .data, .sentinel, .sentinel, .data, .mapped, .widerDeep, .pinned, .pinned, .pinned], laidTests := true, laidLooks := .later }
def ScriptParseMatchesSpecUptoCardSaid : Prop := Claim7.holds Tryz.pinned (.plain (OpenSpec.upto scriptParseMatchesSpecSpec)) scriptParseMatchesSpecUptoCard

/-- THE SECOND FORM's CARD OF 'alumlaw47.ScriptIsLimited'. -/
def scriptIsLimitedUptoCard : Claim7 := { stood := { row := scriptIsLimitedUptoRow, standIns := [], harness := (true, "d7fa31bf40bbfd50e6d75091c5ba965cf2733d67e085b7a0cb1ab911588eb1e3"), looks := true }, kinds := [], alts := [], laidByText := true, laidKinds := [.data, .data, .data, .data, .sentinel, .sentinel, .data, .mapped, .widerDeep, .pinned, .pinned, .pinned], laidTests := true, laidLooks := .later }
def ScriptIsLimitedUptoCardSaid : Prop := Claim7.holds Tryz.pinned (.plain (OpenSpec.upto scriptIsLimitedSpec)) scriptIsLimitedUptoCard

/-- THE SECOND FORM's CARD OF 'alumlaw47.ScriptPrintedIsParsed'. -/
def scriptPrintedIsParsedUptoCard : Claim7 := { stood := { row := scriptPrintedIsParsedUptoRow, standIns := [], harness := (true, "d7fa31bf40bbfd50e6d75091c5ba965cf2733d67e085b7a0cb1ab911588eb1e3"), looks := true }, kinds := [], alts := [], laidByText := true, laidKinds := [.data, .data, .data, .data, .sentinel, .sentinel, .data, .mapped, .widerDeep, .pinned, .pinned, .pinned], laidTests := true, laidLooks := .later }
def ScriptPrintedIsParsedUptoCardSaid : Prop := Claim7.holds Tryz.pinned (.plain (OpenSpec.upto scriptPrintedIsParsedSpec)) scriptPrintedIsParsedUptoCard

/-- THE SECOND FORM's CARD OF 'alumlaw47.ScriptParsedIsPrinted'. -/
def scriptParsedIsPrintedUptoCard : Claim7 := { stood := { row := scriptParsedIsPrintedUptoRow, standIns := [], harness := (true, "d7fa31bf40bbfd50e6d75091c5ba965cf2733d67e085b7a0cb1ab911588eb1e3"), looks := true }, kinds := [], alts := [], laidByText := true, laidKinds := [.data, .data, .data, .data, .sentinel, .sentinel, .data, .mapped, .widerDeep, .pinned, .pinned, .pinned], laidTests := true, laidLooks := .later }
def ScriptParsedIsPrintedUptoCardSaid : Prop := Claim7.holds Tryz.pinned (.plain (OpenSpec.upto scriptParsedIsPrintedSpec)) scriptParsedIsPrintedUptoCard

/-- THE SECOND FORM's CARD OF 'alumlaw47.ScriptLeavesLinesOut'. -/
def scriptLeavesLinesOutUptoCard : Claim7 := { stood := { row := scriptLeavesLinesOutUptoRow, standIns := [], harness := (true, "d7fa31bf40bbfd50e6d75091c5ba965cf2733d67e085b7a0cb1ab911588eb1e3"), looks := true }, kinds := [], alts := [], laidByText := true, laidKinds := [.data, .data, .data, .data, .sentinel, .sentinel, .data, .mapped, .widerDeep, .pinned, .pinned, .pinned], laidTests := true, laidLooks := .later }
def ScriptLeavesLinesOutUptoCardSaid : Prop := Claim7.holds Tryz.pinned (.plain (OpenSpec.upto scriptLeavesLinesOutSpec)) scriptLeavesLinesOutUptoCard

/-- THE SECOND FORM's CARD OF 'alumlaw47.ScriptRunsAreOne'. -/
def scriptRunsAreOneUptoCard : Claim7 := { stood := { row := scriptRunsAreOneUptoRow, standIns := [], harness := (true, "d7fa31bf40bbfd50e6d75091c5ba965cf2733d67e085b7a0cb1ab911588eb1e3"), looks := true }, kinds := [], alts := [], laidByText := true, laidKinds := [.data, .data, .data, .data, .sentinel, .sentinel, .data, .mapped, .widerDeep, .pinned, .pinned, .pinned], laidTests := true, laidLooks := .later }
def ScriptRunsAreOneUptoCardSaid : Prop := Claim7.holds Tryz.pinned (.plain (OpenSpec.upto scriptRunsAreOneSpec)) scriptRunsAreOneUptoCard

/-- THE SECOND FORM's CARD OF 'alumlaw47.ScriptCheckedIsPrinted'. -/
def scriptCheckedIsPrintedUptoCard : Claim7 := { stood := { row := scriptCheckedIsPrintedUptoRow, standIns := [], harness := (true, "d7fa31bf40bbfd50e6d75091c5ba965cf2733d67e085b7a0cb1ab911588eb1e3"), looks := true }, kinds := [], alts := [], laidByText := true, laidKinds := [.data, .data, .data, .data, .sentinel, .sentinel, .data, .mapped, .widerDeep, .pinned, .pinned, .pinned], laidTests := true, laidLooks := .later }
def ScriptCheckedIsPrintedUptoCardSaid : Prop := Claim7.holds Tryz.pinned (.plain (OpenSpec.upto scriptCheckedIsPrintedSpec)) scriptCheckedIsPrintedUptoCard
end Rows
end Go.Proofs.YtialgdnkkjmpbaaGreatDoor
