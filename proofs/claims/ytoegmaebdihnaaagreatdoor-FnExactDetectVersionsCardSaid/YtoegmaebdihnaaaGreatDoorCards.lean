/-
  DERIVED. GIVEN WITH THE SEED: THE CARDS: each row of YtoegmaebdihnaaaGreatDoorRows.lean that lists a variable, with what it lists TIED to the program's text (the seventh form; the later family's looks); each row that meets fmt, with fmt's text TOLD by the authors' own Lean function (tested against real Go, not proved from fmt's source: count such statements apart). THE CARD IS WHAT COUNTS. Prove the row's statement (the work); the ties are given (YtoegmaebdihnaaaGreatDoorTie.lean); close each card by the builder's one call (the guide's Derived/Test/ToyasCard.lean, 'card_holds'). Laid BY PROGRAM, IN A SANDBOX (cutbox-door.mjs). By AI agents, Wed Nov 11 2026. No macro, syntax, notation, axiom, sorry.
-/
import Derived.Test.YtoegmaebdihnaaaGreatDoorRows
import GoSem.ClaimSeven
namespace Go.Proofs.YtoegmaebdihnaaaGreatDoor
namespace Rows

/-- THE TIED CARD OF 'laws.FnExactIsFileOf'. -/
def fnExactIsFileOfCard : Claim7 := { stood := { row := fnExactIsFileOfRow, standIns := [], harness := (true, "c921c26b50d0ece52e1826f69ca1557655dbf6fe1d650a058936b7c4929f6570"), looks := true }, kinds := [], alts := [], laidByText := true, laidKinds := [.handle], laidTests := true, laidLooks := .later }
def FnExactIsFileOfCardSaid : Prop := Claim7.holds Tryz.pinned (.plain (OpenSpec.ofChange fnExactIsFileOfSpec)) fnExactIsFileOfCard

/-- THE TIED CARD OF 'laws.FnExactMissingAtLeast'. -/
def fnExactMissingAtLeastCard : Claim7 := { stood := { row := fnExactMissingAtLeastRow, standIns := [], harness := (true, "c921c26b50d0ece52e1826f69ca1557655dbf6fe1d650a058936b7c4929f6570"), looks := true }, kinds := [], alts := [], laidByText := true, laidKinds := [.sentinel], laidTests := true, laidLooks := .later }
def FnExactMissingAtLeastCardSaid : Prop := Claim7.holds Tryz.pinned (.plain (OpenSpec.ofChange fnExactMissingAtLeastSpec)) fnExactMissingAtLeastCard

/-- THE TIED CARD OF 'laws.FnExactSameFile'. -/
def fnExactSameFileCard : Claim7 := { stood := { row := fnExactSameFileRow, standIns := [], harness := (true, "c921c26b50d0ece52e1826f69ca1557655dbf6fe1d650a058936b7c4929f6570"), looks := true }, kinds := [], alts := [], laidByText := true, laidKinds := [.handle], laidTests := true, laidLooks := .later }
def FnExactSameFileCardSaid : Prop := Claim7.holds Tryz.pinned (.plain (OpenSpec.ofChange fnExactSameFileSpec)) fnExactSameFileCard

/-- THE TIED CARD OF 'laws.FnExactReadValue'. -/
def fnExactReadValueCard : Claim7 := { stood := { row := fnExactReadValueRow, standIns := [], harness := (true, "c921c26b50d0ece52e1826f69ca1557655dbf6fe1d650a058936b7c4929f6570"), looks := true }, kinds := [], alts := [], laidByText := true, laidKinds := [.handle], laidTests := true, laidLooks := .later }
def FnExactReadValueCardSaid : Prop := Claim7.holds Tryz.pinned (.plain (OpenSpec.ofChange fnExactReadValueSpec)) fnExactReadValueCard

/-- THE TIED CARD OF 'laws.FnExactReadFile'. -/
def fnExactReadFileCard : Claim7 := { stood := { row := fnExactReadFileRow, standIns := [], harness := (true, "c921c26b50d0ece52e1826f69ca1557655dbf6fe1d650a058936b7c4929f6570"), looks := true }, kinds := [], alts := [], laidByText := true, laidKinds := [.handle], laidTests := true, laidLooks := .later }
def FnExactReadFileCardSaid : Prop := Claim7.holds Tryz.pinned (.plain (OpenSpec.ofChange fnExactReadFileSpec)) fnExactReadFileCard

/-- THE TIED CARD OF 'laws.FnExactDetectVersions'. -/
def fnExactDetectVersionsCard : Claim7 := { stood := { row := fnExactDetectVersionsRow, standIns := [], harness := (true, "c921c26b50d0ece52e1826f69ca1557655dbf6fe1d650a058936b7c4929f6570"), looks := true }, kinds := [], alts := [], laidByText := true, laidKinds := [.handle], laidTests := true, laidLooks := .later }
def FnExactDetectVersionsCardSaid : Prop := Claim7.holds Tryz.pinned (.plain (OpenSpec.ofChange fnExactDetectVersionsSpec)) fnExactDetectVersionsCard

/-- THE TIED CARD OF 'laws.FnExactRepairReplace'. -/
def fnExactRepairReplaceCard : Claim7 := { stood := { row := fnExactRepairReplaceRow, standIns := [], harness := (true, "c921c26b50d0ece52e1826f69ca1557655dbf6fe1d650a058936b7c4929f6570"), looks := true }, kinds := [], alts := [], laidByText := true, laidKinds := [.handle], laidTests := true, laidLooks := .later }
def FnExactRepairReplaceCardSaid : Prop := Claim7.holds Tryz.pinned (.plain (OpenSpec.ofChange fnExactRepairReplaceSpec)) fnExactRepairReplaceCard

/-- THE TIED CARD OF 'laws.FnExactRepairLength'. -/
def fnExactRepairLengthCard : Claim7 := { stood := { row := fnExactRepairLengthRow, standIns := [], harness := (true, "c921c26b50d0ece52e1826f69ca1557655dbf6fe1d650a058936b7c4929f6570"), looks := true }, kinds := [], alts := [], laidByText := true, laidKinds := [.handle], laidTests := true, laidLooks := .later }
def FnExactRepairLengthCardSaid : Prop := Claim7.holds Tryz.pinned (.plain (OpenSpec.ofChange fnExactRepairLengthSpec)) fnExactRepairLengthCard

/-- THE TIED CARD OF 'laws.FnExactCountRedundant'. -/
def fnExactCountRedundantCard : Claim7 := { stood := { row := fnExactCountRedundantRow, standIns := [], harness := (true, "c921c26b50d0ece52e1826f69ca1557655dbf6fe1d650a058936b7c4929f6570"), looks := true }, kinds := [], alts := [], laidByText := true, laidKinds := [.handle], laidTests := true, laidLooks := .later }
def FnExactCountRedundantCardSaid : Prop := Claim7.holds Tryz.pinned (.plain (OpenSpec.ofChange fnExactCountRedundantSpec)) fnExactCountRedundantCard

/-- THE TIED CARD OF 'laws.FnExactIsCanonical'. -/
def fnExactIsCanonicalCard : Claim7 := { stood := { row := fnExactIsCanonicalRow, standIns := [], harness := (true, "c921c26b50d0ece52e1826f69ca1557655dbf6fe1d650a058936b7c4929f6570"), looks := true }, kinds := [], alts := [], laidByText := true, laidKinds := [.handle], laidTests := true, laidLooks := .later }
def FnExactIsCanonicalCardSaid : Prop := Claim7.holds Tryz.pinned (.plain (OpenSpec.ofChange fnExactIsCanonicalSpec)) fnExactIsCanonicalCard

/-- THE TIED CARD OF 'laws.FnExactCanonicalFile'. -/
def fnExactCanonicalFileCard : Claim7 := { stood := { row := fnExactCanonicalFileRow, standIns := [], harness := (true, "c921c26b50d0ece52e1826f69ca1557655dbf6fe1d650a058936b7c4929f6570"), looks := true }, kinds := [], alts := [], laidByText := true, laidKinds := [.handle], laidTests := true, laidLooks := .later }
def FnExactCanonicalFileCardSaid : Prop := Claim7.holds Tryz.pinned (.plain (OpenSpec.ofChange fnExactCanonicalFileSpec)) fnExactCanonicalFileCard

/-- THE SECOND FORM's CARD OF 'laws.FnExactIsFileOf'. -/
def fnExactIsFileOfUptoCard : Claim7 := { stood := { row := fnExactIsFileOfUptoRow, standIns := [], harness := (true, "c921c26b50d0ece52e1826f69ca1557655dbf6fe1d650a058936b7c4929f6570"), looks := true }, kinds := [], alts := [], laidByText := true, laidKinds := [.handle], laidTests := true, laidLooks := .later }
def FnExactIsFileOfUptoCardSaid : Prop := Claim7.holds Tryz.pinned (.plain (OpenSpec.upto fnExactIsFileOfSpec)) fnExactIsFileOfUptoCard

/-- THE SECOND FORM's CARD OF 'laws.FnExactMissingAtLeast'. -/
def fnExactMissingAtLeastUptoCard : Claim7 := { stood := { row := fnExactMissingAtLeastUptoRow, standIns := [], harness := (true, "c921c26b50d0ece52e1826f69ca1557655dbf6fe1d650a058936b7c4929f6570"), looks := true }, kinds := [], alts := [], laidByText := true, laidKinds := [.sentinel], laidTests := true, laidLooks := .later }
def FnExactMissingAtLeastUptoCardSaid : Prop := Claim7.holds Tryz.pinned (.plain (OpenSpec.upto fnExactMissingAtLeastSpec)) fnExactMissingAtLeastUptoCard

/-- THE SECOND FORM's CARD OF 'laws.FnExactSameFile'. -/
def fnExactSameFileUptoCard : Claim7 := { stood := { row := fnExactSameFileUptoRow, standIns := [], harness := (true, "c921c26b50d0ece52e1826f69ca1557655dbf6fe1d650a058936b7c4929f6570"), looks := true }, kinds := [], alts := [], laidByText := true, laidKinds := [.handle], laidTests := true, laidLooks := .later }
def FnExactSameFileUptoCardSaid : Prop := Claim7.holds Tryz.pinned (.plain (OpenSpec.upto fnExactSameFileSpec)) fnExactSameFileUptoCard

/-- THE SECOND FORM's CARD OF 'laws.FnExactReadValue'. -/
def fnExactReadValueUptoCard : Claim7 := { stood := { row := fnExactReadValueUptoRow, standIns := [], harness := (true, "c921c26b50d0ece52e1826f69ca1557655dbf6fe1d650a058936b7c4929f6570"), looks := true }, kinds := [], alts := [], laidByText := true, laidKinds := [.handle], laidTests := true, laidLooks := .later }
def FnExactReadValueUptoCardSaid : Prop := Claim7.holds Tryz.pinned (.plain (OpenSpec.upto fnExactReadValueSpec)) fnExactReadValueUptoCard

/-- THE SECOND FORM's CARD OF 'laws.FnExactReadFile'. -/
def fnExactReadFileUptoCard : Claim7 := { stood := { row := fnExactReadFileUptoRow, standIns := [], harness := (true, "c921c26b50d0ece52e1826f69ca1557655dbf6fe1d650a058936b7c4929f6570"), looks := true }, kinds := [], alts := [], laidByText := true, laidKinds := [.handle], laidTests := true, laidLooks := .later }
def FnExactReadFileUptoCardSaid : Prop := Claim7.holds Tryz.pinned (.plain (OpenSpec.upto fnExactReadFileSpec)) fnExactReadFileUptoCard

/-- THE SECOND FORM's CARD OF 'laws.FnExactDetectVersions'. -/
def fnExactDetectVersionsUptoCard : Claim7 := { stood := { row := fnExactDetectVersionsUptoRow, standIns := [], harness := (true, "c921c26b50d0ece52e1826f69ca1557655dbf6fe1d650a058936b7c4929f6570"), looks := true }, kinds := [], alts := [], laidByText := true, laidKinds := [.handle], laidTests := true, laidLooks := .later }
def FnExactDetectVersionsUptoCardSaid : Prop := Claim7.holds Tryz.pinned (.plain (OpenSpec.upto fnExactDetectVersionsSpec)) fnExactDetectVersionsUptoCard

/-- THE SECOND FORM's CARD OF 'laws.FnExactRepairReplace'. -/
def fnExactRepairReplaceUptoCard : Claim7 := { stood := { row := fnExactRepairReplaceUptoRow, standIns := [], harness := (true, "c921c26b50d0ece52e1826f69ca1557655dbf6fe1d650a058936b7c4929f6570"), looks := true }, kinds := [], alts := [], laidByText := true, laidKinds := [.handle], laidTests := true, laidLooks := .later }
def FnExactRepairReplaceUptoCardSaid : Prop := Claim7.holds Tryz.pinned (.plain (OpenSpec.upto fnExactRepairReplaceSpec)) fnExactRepairReplaceUptoCard

/-- THE SECOND FORM's CARD OF 'laws.FnExactRepairLength'. -/
def fnExactRepairLengthUptoCard : Claim7 := { stood := { row := fnExactRepairLengthUptoRow, standIns := [], harness := (true, "c921c26b50d0ece52e1826f69ca1557655dbf6fe1d650a058936b7c4929f6570"), looks := true }, kinds := [], alts := [], laidByText := true, laidKinds := [.handle], laidTests := true, laidLooks := .later }
def FnExactRepairLengthUptoCardSaid : Prop := Claim7.holds Tryz.pinned (.plain (OpenSpec.upto fnExactRepairLengthSpec)) fnExactRepairLengthUptoCard

/-- THE SECOND FORM's CARD OF 'laws.FnExactCountRedundant'. -/
def fnExactCountRedundantUptoCard : Claim7 := { stood := { row := fnExactCountRedundantUptoRow, standIns := [], harness := (true, "c921c26b50d0ece52e1826f69ca1557655dbf6fe1d650a058936b7c4929f6570"), looks := true }, kinds := [], alts := [], laidByText := true, laidKinds := [.handle], laidTests := true, laidLooks := .later }
def FnExactCountRedundantUptoCardSaid : Prop := Claim7.holds Tryz.pinned (.plain (OpenSpec.upto fnExactCountRedundantSpec)) fnExactCountRedundantUptoCard

/-- THE SECOND FORM's CARD OF 'laws.FnExactIsCanonical'. -/
def fnExactIsCanonicalUptoCard : Claim7 := { stood := { row := fnExactIsCanonicalUptoRow, standIns := [], harness := (true, "c921c26b50d0ece52e1826f69ca1557655dbf6fe1d650a058936b7c4929f6570"), looks := true }, kinds := [], alts := [], laidByText := true, laidKinds := [.handle], laidTests := true, laidLooks := .later }
def FnExactIsCanonicalUptoCardSaid : Prop := Claim7.holds Tryz.pinned (.plain (OpenSpec.upto fnExactIsCanonicalSpec)) fnExactIsCanonicalUptoCard

/-- THE SECOND FORM's CARD OF 'laws.FnExactCanonicalFile'. -/
def fnExactCanonicalFileUptoCard : Claim7 := { stood := { row := fnExactCanonicalFileUptoRow, standIns := [], harness := (true, "c921c26b50d0ece52e1826f69ca1557655dbf6fe1d650a058936b7c4929f6570"), looks := true }, kinds := [], alts := [], laidByText := true, laidKinds := [.handle], laidTests := true, laidLooks := .later }
def FnExactCanonicalFileUptoCardSaid : Prop := Claim7.holds Tryz.pinned (.plain (OpenSpec.upto fnExactCanonicalFileSpec)) fnExactCanonicalFileUptoCard
end Rows
end Go.Proofs.YtoegmaebdihnaaaGreatDoor
