/-
  DERIVED. GIVEN WITH THE SEED: THE CARDS: each row of YtecdbogicpffeaaGreatDoorRows.lean that lists a variable, with what it lists TIED to the program's text (the seventh form; the later family's looks); each row that meets fmt, with fmt's text TOLD by the authors' own Lean function (tested against real Go, not proved from fmt's source: count such statements apart). THE CARD IS WHAT COUNTS. Prove the row's statement (the work); the ties are given (YtecdbogicpffeaaGreatDoorTie.lean); close each card by the builder's one call (the guide's Derived/Test/ToyasCard.lean, 'card_holds'). Laid BY PROGRAM, IN A SANDBOX (cutbox-door.mjs). By AI agents, Wed Nov 11 2026. No macro, syntax, notation, axiom, sorry.
-/
import Derived.Test.YtecdbogicpffeaaGreatDoorRows
import GoSem.ClaimSeven
namespace Go.Proofs.YtecdbogicpffeaaGreatDoor
namespace Rows

/-- THE TIED CARD OF 'laws.FnExactReadBytesAt'. -/
def fnExactReadBytesAtCard : Claim7 := { stood := { row := fnExactReadBytesAtRow, standIns := [], harness := (true, "2d97fa03640ef8c233ced110f9d2d9d242372806ba5a30555e583a6fddd15b99"), looks := true }, kinds := [], alts := [], laidByText := true, laidKinds := [.handle], laidTests := true, laidLooks := .later }
def FnExactReadBytesAtCardSaid : Prop := Claim7.holds Tryz.pinned (.plain (OpenSpec.ofChange fnExactReadBytesAtSpec)) fnExactReadBytesAtCard

/-- THE TIED CARD OF 'laws.FnForthAndBack'. -/
def fnForthAndBackCard : Claim7 := { stood := { row := fnForthAndBackRow, standIns := [], harness := (true, "2d97fa03640ef8c233ced110f9d2d9d242372806ba5a30555e583a6fddd15b99"), looks := true }, kinds := [], alts := [], laidByText := true, laidKinds := [.handle], laidTests := true, laidLooks := .later }
def FnForthAndBackCardSaid : Prop := Claim7.holds Tryz.pinned (.plain (OpenSpec.ofChange fnForthAndBackSpec)) fnForthAndBackCard

/-- THE TIED CARD OF 'laws.FnExactArchiveSize'. -/
def fnExactArchiveSizeCard : Claim7 := { stood := { row := fnExactArchiveSizeRow, standIns := [], harness := (true, "2d97fa03640ef8c233ced110f9d2d9d242372806ba5a30555e583a6fddd15b99"), looks := true }, kinds := [], alts := [], laidByText := true, laidKinds := [.handle], laidTests := true, laidLooks := .later }
def FnExactArchiveSizeCardSaid : Prop := Claim7.holds Tryz.pinned (.plain (OpenSpec.ofChange fnExactArchiveSizeSpec)) fnExactArchiveSizeCard

/-- THE TIED CARD OF 'laws.FnExactReadValue'. -/
def fnExactReadValueCard : Claim7 := { stood := { row := fnExactReadValueRow, standIns := [], harness := (true, "2d97fa03640ef8c233ced110f9d2d9d242372806ba5a30555e583a6fddd15b99"), looks := true }, kinds := [], alts := [], laidByText := true, laidKinds := [.handle], laidTests := true, laidLooks := .later }
def FnExactReadValueCardSaid : Prop := Claim7.holds Tryz.pinned (.plain (OpenSpec.ofChange fnExactReadValueSpec)) fnExactReadValueCard

/-- THE TIED CARD OF 'laws.FnExactReadFile'. -/
def fnExactReadFileCard : Claim7 := { stood := { row := fnExactReadFileRow, standIns := [], harness := (true, "2d97fa03640ef8c233ced110f9d2d9d242372806ba5a30555e583a6fddd15b99"), looks := true }, kinds := [], alts := [], laidByText := true, laidKinds := [.handle], laidTests := true, laidLooks := .later }
def FnExactReadFileCardSaid : Prop := Claim7.holds Tryz.pinned (.plain (OpenSpec.ofChange fnExactReadFileSpec)) fnExactReadFileCard

/-- THE SECOND FORM's CARD OF 'laws.FnExactReadBytesAt'. -/
def fnExactReadBytesAtUptoCard : Claim7 := { stood := { row := fnExactReadBytesAtUptoRow, standIns := [], harness := (true, "2d97fa03640ef8c233ced110f9d2d9d242372806ba5a30555e583a6fddd15b99"), looks := true }, kinds := [], alts := [], laidByText := true, laidKinds := [.handle], laidTests := true, laidLooks := .later }
def FnExactReadBytesAtUptoCardSaid : Prop := Claim7.holds Tryz.pinned (.plain (OpenSpec.upto fnExactReadBytesAtSpec)) fnExactReadBytesAtUptoCard

/-- THE SECOND FORM's CARD OF 'laws.FnForthAndBack'. -/
def fnForthAndBackUptoCard : Claim7 := { stood := { row := fnForthAndBackUptoRow, standIns := [], harness := (true, "2d97fa03640ef8c233ced110f9d2d9d242372806ba5a30555e583a6fddd15b99"), looks := true }, kinds := [], alts := [], laidByText := true, laidKinds := [.handle], laidTests := true, laidLooks := .later }
def FnForthAndBackUptoCardSaid : Prop := Claim7.holds Tryz.pinned (.plain (OpenSpec.upto fnForthAndBackSpec)) fnForthAndBackUptoCard

/-- THE SECOND FORM's CARD OF 'laws.FnExactArchiveSize'. -/
def fnExactArchiveSizeUptoCard : Claim7 := { stood := { row := fnExactArchiveSizeUptoRow, standIns := [], harness := (true, "2d97fa03640ef8c233ced110f9d2d9d242372806ba5a30555e583a6fddd15b99"), looks := true }, kinds := [], alts := [], laidByText := true, laidKinds := [.handle], laidTests := true, laidLooks := .later }
def FnExactArchiveSizeUptoCardSaid : Prop := Claim7.holds Tryz.pinned (.plain (OpenSpec.upto fnExactArchiveSizeSpec)) fnExactArchiveSizeUptoCard

/-- THE SECOND FORM's CARD OF 'laws.FnExactReadValue'. -/
def fnExactReadValueUptoCard : Claim7 := { stood := { row := fnExactReadValueUptoRow, standIns := [], harness := (true, "2d97fa03640ef8c233ced110f9d2d9d242372806ba5a30555e583a6fddd15b99"), looks := true }, kinds := [], alts := [], laidByText := true, laidKinds := [.handle], laidTests := true, laidLooks := .later }
def FnExactReadValueUptoCardSaid : Prop := Claim7.holds Tryz.pinned (.plain (OpenSpec.upto fnExactReadValueSpec)) fnExactReadValueUptoCard

/-- THE SECOND FORM's CARD OF 'laws.FnExactReadFile'. -/
def fnExactReadFileUptoCard : Claim7 := { stood := { row := fnExactReadFileUptoRow, standIns := [], harness := (true, "2d97fa03640ef8c233ced110f9d2d9d242372806ba5a30555e583a6fddd15b99"), looks := true }, kinds := [], alts := [], laidByText := true, laidKinds := [.handle], laidTests := true, laidLooks := .later }
def FnExactReadFileUptoCardSaid : Prop := Claim7.holds Tryz.pinned (.plain (OpenSpec.upto fnExactReadFileSpec)) fnExactReadFileUptoCard
end Rows
end Go.Proofs.YtecdbogicpffeaaGreatDoor
