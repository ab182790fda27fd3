/-
  DERIVED. GIVEN WITH THE SEED: THE CARDS: each row of YtmdohnoimianbaaGreatDoorRows.lean that lists a variable, with what it lists TIED to the program's text (the seventh form; the later family's looks); each row that meets fmt, with fmt's text TOLD by the authors' own Lean function (tested against real Go, not proved from fmt's source: count such statements apart). THE CARD IS WHAT COUNTS. Prove the row's statement (the work); the ties are given (YtmdohnoimianbaaGreatDoorTie.lean); close each card by the builder's one call (the guide's Derived/Test/ToyasCard.lean, 'card_holds'). Laid BY PROGRAM, IN A SANDBOX (cutbox-door.mjs). By AI agents, Wed Nov 11 2026. No macro, syntax, notation, axiom, sorry.
-/
import Derived.Test.YtmdohnoimianbaaGreatDoorRows
import GoSem.ClaimSeven
namespace Go.Proofs.YtmdohnoimianbaaGreatDoor
namespace Rows

/-- THE TIED CARD OF 'laws.FnExactReadValue'. -/
def fnExactReadValueCard : Claim7 := { stood := { row := fnExactReadValueRow, standIns := [], harness := (true, "4c199c0984b817988926bf5251dadbb7447b96e51d84c1380e03ea48c6432d3e"), looks := true }, kinds := [], alts := [], laidByText := true, laidKinds := [.handle], laidTests := true, laidLooks := .later }
def FnExactReadValueCardSaid : Prop := Claim7.holds Tryz.pinned (.plain (OpenSpec.ofChange fnExactReadValueSpec)) fnExactReadValueCard

/-- THE TIED CARD OF 'laws.FnExactReadFile'. -/
def fnExactReadFileCard : Claim7 := { stood := { row := fnExactReadFileRow, standIns := [], harness := (true, "4c199c0984b817988926bf5251dadbb7447b96e51d84c1380e03ea48c6432d3e"), looks := true }, kinds := [], alts := [], laidByText := true, laidKinds := [.handle], laidTests := true, laidLooks := .later }
def FnExactReadFileCardSaid : Prop := Claim7.holds Tryz.pinned (.plain (OpenSpec.ofChange fnExactReadFileSpec)) fnExactReadFileCard

/-- THE TIED CARD OF 'laws.FnExactCountRedundant'. -/
def fnExactCountRedundantCard : Claim7 := { stood := { row := fnExactCountRedundantRow, standIns := [], harness := (true, "4c199c0984b817988926bf5251dadbb7447b96e51d84c1380e03ea48c6432d3e"), looks := true }, kinds := [], alts := [], laidByText := true, laidKinds := [.handle], laidTests := true, laidLooks := .later }
def FnExactCountRedundantCardSaid : Prop := Claim7.holds Tryz.pinned (.plain (OpenSpec.ofChange fnExactCountRedundantSpec)) fnExactCountRedundantCard

/-- THE TIED CARD OF 'laws.FnExactIsCanonical'. -/
def fnExactIsCanonicalCard : Claim7 := { stood := { row := fnExactIsCanonicalRow, standIns := [], harness := (true, "4c199c0984b817988926bf5251dadbb7447b96e51d84c1380e03ea48c6432d3e"), looks := true }, kinds := [], alts := [], laidByText := true, laidKinds := [.handle], laidTests := true, laidLooks := .later }
def FnExactIsCanonicalCardSaid : Prop := Claim7.holds Tryz.pinned (.plain (OpenSpec.ofChange fnExactIsCanonicalSpec)) fnExactIsCanonicalCard

/-- THE TIED CARD OF 'laws.FnExactCanonicalFile'. -/
def fnExactCanonicalFileCard : Claim7 := { stood := { row := fnExactCanonicalFileRow, standIns := [], harness := (true, "4c199c0984b817988926bf5251dadbb7447b96e51d84c1380e03ea48c6432d3e"), looks := true }, kinds := [], alts := [], laidByText := true, laidKinds := [.handle], laidTests := true, laidLooks := .later }
def FnExactCanonicalFileCardSaid : Prop := Claim7.holds Tryz.pinned (.plain (OpenSpec.ofChange fnExactCanonicalFileSpec)) fnExactCanonicalFileCard

/-- THE SECOND FORM's CARD OF 'laws.FnExactReadValue'. -/
def fnExactReadValueUptoCard : Claim7 := { stood := { row := fnExactReadValueUptoRow, standIns := [], harness := (true, "4c199c0984b817988926bf5251dadbb7447b96e51d84c1380e03ea48c6432d3e"), looks := true }, kinds := [], alts := [], laidByText := true, laidKinds := [.handle], laidTests := true, laidLooks := .later }
def FnExactReadValueUptoCardSaid : Prop := Claim7.holds Tryz.pinned (.plain (OpenSpec.upto fnExactReadValueSpec)) fnExactReadValueUptoCard

/-- THE SECOND FORM's CARD OF 'laws.FnExactReadFile'. -/
def fnExactReadFileUptoCard : Claim7 := { stood := { row := fnExactReadFileUptoRow, standIns := [], harness := (true, "4c199c0984b817988926bf5251dadbb7447b96e51d84c1380e03ea48c6432d3e"), looks := true }, kinds := [], alts := [], laidByText := true, laidKinds := [.handle], laidTests := true, laidLooks := .later }
def FnExactReadFileUptoCardSaid : Prop := Claim7.holds Tryz.pinned (.plain (OpenSpec.upto fnExactReadFileSpec)) fnExactReadFileUptoCard

/-- THE SECOND FORM's CARD OF 'laws.FnExactCountRedundant'. -/
def fnExactCountRedundantUptoCard : Claim7 := { stood := { row := fnExactCountRedundantUptoRow, standIns := [], harness := (true, "4c199c0984b817988926bf5251dadbb7447b96e51d84c1380e03ea48c6432d3e"), looks := true }, kinds := [], alts := [], laidByText := true, laidKinds := [.handle], laidTests := true, laidLooks := .later }
def FnExactCountRedundantUptoCardSaid : Prop := Claim7.holds Tryz.pinned (.plain (OpenSpec.upto fnExactCountRedundantSpec)) fnExactCountRedundantUptoCard

/-- THE SECOND FORM's CARD OF 'laws.FnExactIsCanonical'. -/
def fnExactIsCanonicalUptoCard : Claim7 := { stood := { row := fnExactIsCanonicalUptoRow, standIns := [], harness := (true, "4c199c0984b817988926bf5251dadbb7447b96e51d84c1380e03ea48c6432d3e"), looks := true }, kinds := [], alts := [], laidByText := true, laidKinds := [.handle], laidTests := true, laidLooks := .later }
def FnExactIsCanonicalUptoCardSaid : Prop := Claim7.holds Tryz.pinned (.plain (OpenSpec.upto fnExactIsCanonicalSpec)) fnExactIsCanonicalUptoCard

/-- THE SECOND FORM's CARD OF 'laws.FnExactCanonicalFile'. -/
def fnExactCanonicalFileUptoCard : Claim7 := { stood := { row := fnExactCanonicalFileUptoRow, standIns := [], harness := (true, "4c199c0984b817988926bf5251dadbb7447b96e51d84c1380e03ea48c6432d3e"), looks := true }, kinds := [], alts := [], laidByText := true, laidKinds := [.handle], laidTests := true, laidLooks := .later }
def FnExactCanonicalFileUptoCardSaid : Prop := Claim7.holds Tryz.pinned (.plain (OpenSpec.upto fnExactCanonicalFileSpec)) fnExactCanonicalFileUptoCard
end Rows
end Go.Proofs.YtmdohnoimianbaaGreatDoor
