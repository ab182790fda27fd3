/-
  DERIVED. GIVEN WITH THE SEED: THE CARDS: each row of YtndnefealooolaaGreatDoorRows.lean that lists a variable, with what it lists TIED to the program's text (the seventh form; the later family's looks); each row that meets fmt, with fmt's text TOLD by the authors' own Lean function (tested against real Go, not proved from fmt's source: count such statements apart). THE CARD IS WHAT COUNTS. Prove the row's statement (the work); the ties are given (YtndnefealooolaaGreatDoorTie.lean); close each card by the builder's one call (the guide's Derived/Test/ToyasCard.lean, 'card_holds'). Laid BY PROGRAM, IN A SANDBOX (cutbox-door.mjs). By AI agents, Wed Nov 11 2026. No macro, syntax, notation, axiom, sorry.
-/
import Derived.Test.YtndnefealooolaaGreatDoorRows
import GoSem.ClaimSeven
namespace Go.Proofs.YtndnefealooolaaGreatDoor
namespace Rows

/-- THE TIED CARD OF 'laws.FnRepairs'. -/
def fnRepairsCard : Claim7 := { stood := { row := fnRepairsRow, standIns := [], harness := (true, "fb1e32c181ddb892b0e96edca2aab0582375797f79ef4aab78b9f67b495fc06e"), looks := true }, kinds := [], alts := [], laidByText := true, laidKinds := [.handle], laidTests := true, laidLooks := .later }
def FnRepairsCardSaid : Prop := Claim7.holds Tryz.pinned (.plain (OpenSpec.ofChange fnRepairsSpec)) fnRepairsCard

/-- THE TIED CARD OF 'laws.FnErrors'. -/
def fnErrorsCard : Claim7 := { stood := { row := fnErrorsRow, standIns := [], harness := (true, "fb1e32c181ddb892b0e96edca2aab0582375797f79ef4aab78b9f67b495fc06e"), looks := true }, kinds := [], alts := [], laidByText := true, laidKinds := [.data, .data, .data, .handle], laidTests := true, laidLooks := .later }
def FnErrorsCardSaid : Prop := Claim7.holds Tryz.pinned (.plain (OpenSpec.ofChange fnErrorsSpec)) fnErrorsCard

/-- THE TIED CARD OF 'laws.FnExactRepairText'. -/
def fnExactRepairTextCard : Claim7 := { stood := { row := fnExactRepairTextRow, standIns := [], harness := (true, "fb1e32c181ddb892b0e96edca2aab0582375797f79ef4aab78b9f67b495fc06e"), looks := true }, kinds := [], alts := [], laidByText := true, laidKinds := [.data, .data, .data, .handle], laidTests := true, laidLooks := .later }
def FnExactRepairTextCardSaid : Prop := Claim7.holds Tryz.pinned (.plain (OpenSpec.ofChange fnExactRepairTextSpec)) fnExactRepairTextCard

/-- THE TIED CARD OF 'laws.FnLengthRepairs'. -/
def fnLengthRepairsCard : Claim7 := { stood := { row := fnLengthRepairsRow, standIns := [], harness := (true, "fb1e32c181ddb892b0e96edca2aab0582375797f79ef4aab78b9f67b495fc06e"), looks := true }, kinds := [], alts := [], laidByText := true, laidKinds := [.data, .data, .data, .handle], laidTests := true, laidLooks := .later }
def FnLengthRepairsCardSaid : Prop := Claim7.holds Tryz.pinned (.plain (OpenSpec.ofChange fnLengthRepairsSpec)) fnLengthRepairsCard

/-- THE SECOND FORM's CARD OF 'laws.FnRepairs'. -/
def fnRepairsUptoCard : Claim7 := { stood := { row := fnRepairsUptoRow, standIns := [], harness := (true, "fb1e32c181ddb892b0e96edca2aab0582375797f79ef4aab78b9f67b495fc06e"), looks := true }, kinds := [], alts := [], laidByText := true, laidKinds := [.handle], laidTests := true, laidLooks := .later }
def FnRepairsUptoCardSaid : Prop := Claim7.holds Tryz.pinned (.plain (OpenSpec.upto fnRepairsSpec)) fnRepairsUptoCard

/-- THE SECOND FORM's CARD OF 'laws.FnErrors'. -/
def fnErrorsUptoCard : Claim7 := { stood := { row := fnErrorsUptoRow, standIns := [], harness := (true, "fb1e32c181ddb892b0e96edca2aab0582375797f79ef4aab78b9f67b495fc06e"), looks := true }, kinds := [], alts := [], laidByText := true, laidKinds := [.data, .data, .data, .handle], laidTests := true, laidLooks := .later }
def FnErrorsUptoCardSaid : Prop := Claim7.holds Tryz.pinned (.plain (OpenSpec.upto fnErrorsSpec)) fnErrorsUptoCard

/-- THE SECOND FORM's CARD OF 'laws.FnExactRepairText'. -/
def fnExactRepairTextUptoCard : Claim7 := { stood := { row := fnExactRepairTextUptoRow, standIns := [], harness := (true, "fb1e32c181ddb892b0e96edca2aab0582375797f79ef4aab78b9f67b495fc06e"), looks := true }, kinds := [], alts := [], laidByText := true, laidKinds := [.data, .data, .data, .handle], laidTests := true, laidLooks := .later }
def FnExactRepairTextUptoCardSaid : Prop := Claim7.holds Tryz.pinned (.plain (OpenSpec.upto fnExactRepairTextSpec)) fnExactRepairTextUptoCard

/-- THE SECOND FORM's CARD OF 'laws.FnLengthRepairs'. -/
def fnLengthRepairsUptoCard : Claim7 := { stood := { row := fnLengthRepairsUptoRow, standIns := [], harness := (true, "fb1e32c181ddb892b0e96edca2aab0582375797f79ef4aab78b9f67b495fc06e"), looks := true }, kinds := [], alts := [], laidByText := true, laidKinds := [.data, .data, .data, .handle], laidTests := true, laidLooks := .later }
def FnLengthRepairsUptoCardSaid : Prop := Claim7.holds Tryz.pinned (.plain (OpenSpec.upto fnLengthRepairsSpec)) fnLengthRepairsUptoCard
end Rows
end Go.Proofs.YtndnefealooolaaGreatDoor
