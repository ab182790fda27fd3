/-
  DERIVED. GIVEN WITH THE SEED: THE CARDS: each row of YtomfggmmhkpeeaaGreatDoorRows.lean that lists a variable, with what it lists TIED to the program's text (the seventh form; the later family's looks); each row that meets fmt, with fmt's text TOLD by the authors' own Lean function (tested against real Go, not proved from fmt's source: count such statements apart). THE CARD IS WHAT COUNTS. Prove the row's statement (the work); the ties are given (YtomfggmmhkpeeaaGreatDoorTie.lean); close each card by the builder's one call (the guide's Derived/Test/ToyasCard.lean, 'card_holds'). Laid BY PROGRAM, IN A SANDBOX (cutbox-door.mjs). By AI agents, Wed Nov 11 2026. No macro, syntax, notation, axiom, sorry.
-/
import Derived.Test.YtomfggmmhkpeeaaGreatDoorRows
import GoSem.ClaimSeven
namespace Go.Proofs.YtomfggmmhkpeeaaGreatDoor
namespace Rows

/-- THE TIED CARD OF 'laws.FnExactReadValue'. -/
def fnExactReadValueCard : Claim7 := { stood := { row := fnExactReadValueRow, standIns := [], harness := (true, "a049cafa66899a98fcba7bfb45fcadba79b8f4dfec57a224262c7e6d59e210d3"), looks := true }, kinds := [], alts := [], laidByText := true, laidKinds := [.handle], laidTests := true, laidLooks := .later }
def FnExactReadValueCardSaid : Prop := Claim7.holds Tryz.pinned (.plain (OpenSpec.ofChange fnExactReadValueSpec)) fnExactReadValueCard

/-- THE TIED CARD OF 'laws.FnExactReadFile'. -/
def fnExactReadFileCard : Claim7 := { stood := { row := fnExactReadFileRow, standIns := [], harness := (true, "a049cafa66899a98fcba7bfb45fcadba79b8f4dfec57a224262c7e6d59e210d3"), looks := true }, kinds := [], alts := [], laidByText := true, laidKinds := [.handle], laidTests := true, laidLooks := .later }
def FnExactReadFileCardSaid : Prop := Claim7.holds Tryz.pinned (.plain (OpenSpec.ofChange fnExactReadFileSpec)) fnExactReadFileCard

/-- THE TIED CARD OF 'laws.FnExactParseValue'. -/
def fnExactParseValueCard : Claim7 := { stood := { row := fnExactParseValueRow, standIns := [], harness := (true, "a049cafa66899a98fcba7bfb45fcadba79b8f4dfec57a224262c7e6d59e210d3"), looks := true }, kinds := [], alts := [], laidByText := true, laidKinds := [.data, .data, .data], laidTests := true, laidLooks := .later }
def FnExactParseValueCardSaid : Prop := Claim7.holds Tryz.pinned (.plain (OpenSpec.ofChange fnExactParseValueSpec)) fnExactParseValueCard

/-- THE TIED CARD OF 'laws.FnExactCountItems'. -/
def fnExactCountItemsCard : Claim7 := { stood := { row := fnExactCountItemsRow, standIns := [], harness := (true, "a049cafa66899a98fcba7bfb45fcadba79b8f4dfec57a224262c7e6d59e210d3"), looks := true }, kinds := [], alts := [], laidByText := true, laidKinds := [.handle], laidTests := true, laidLooks := .later }
def FnExactCountItemsCardSaid : Prop := Claim7.holds Tryz.pinned (.plain (OpenSpec.ofChange fnExactCountItemsSpec)) fnExactCountItemsCard

/-- THE TIED CARD OF 'laws.FnExactReadNumber'. -/
def fnExactReadNumberCard : Claim7 := { stood := { row := fnExactReadNumberRow, standIns := [], harness := (true, "a049cafa66899a98fcba7bfb45fcadba79b8f4dfec57a224262c7e6d59e210d3"), looks := true }, kinds := [], alts := [], laidByText := true, laidKinds := [.handle], laidTests := true, laidLooks := .later }
def FnExactReadNumberCardSaid : Prop := Claim7.holds Tryz.pinned (.plain (OpenSpec.ofChange fnExactReadNumberSpec)) fnExactReadNumberCard

/-- THE SECOND FORM's CARD OF 'laws.FnExactReadValue'. -/
def fnExactReadValueUptoCard : Claim7 := { stood := { row := fnExactReadValueUptoRow, standIns := [], harness := (true, "a049cafa66899a98fcba7bfb45fcadba79b8f4dfec57a224262c7e6d59e210d3"), looks := true }, kinds := [], alts := [], laidByText := true, laidKinds := [.handle], laidTests := true, laidLooks := .later }
def FnExactReadValueUptoCardSaid : Prop := Claim7.holds Tryz.pinned (.plain (OpenSpec.upto fnExactReadValueSpec)) fnExactReadValueUptoCard

/-- THE SECOND FORM's CARD OF 'laws.FnExactReadFile'. -/
def fnExactReadFileUptoCard : Claim7 := { stood := { row := fnExactReadFileUptoRow, standIns := [], harness := (true, "a049cafa66899a98fcba7bfb45fcadba79b8f4dfec57a224262c7e6d59e210d3"), looks := true }, kinds := [], alts := [], laidByText := true, laidKinds := [.handle], laidTests := true, laidLooks := .later }
def FnExactReadFileUptoCardSaid : Prop := Claim7.holds Tryz.pinned (.plain (OpenSpec.upto fnExactReadFileSpec)) fnExactReadFileUptoCard

/-- THE SECOND FORM's CARD OF 'laws.FnExactParseValue'. -/
def fnExactParseValueUptoCard : Claim7 := { stood := { row := fnExactParseValueUptoRow, standIns := [], harness := (true, "a049cafa66899a98fcba7bfb45fcadba79b8f4dfec57a224262c7e6d59e210d3"), looks := true }, kinds := [], alts := [], laidByText := true, laidKinds := [.data, .data, .data], laidTests := true, laidLooks := .later }
def FnExactParseValueUptoCardSaid : Prop := Claim7.holds Tryz.pinned (.plain (OpenSpec.upto fnExactParseValueSpec)) fnExactParseValueUptoCard

/-- THE SECOND FORM's CARD OF 'laws.FnExactCountItems'. -/
def fnExactCountItemsUptoCard : Claim7 := { stood := { row := fnExactCountItemsUptoRow, standIns := [], harness := (true, "a049cafa66899a98fcba7bfb45fcadba79b8f4dfec57a224262c7e6d59e210d3"), looks := true }, kinds := [], alts := [], laidByText := true, laidKinds := [.handle], laidTests := true, laidLooks := .later }
def FnExactCountItemsUptoCardSaid : Prop := Claim7.holds Tryz.pinned (.plain (OpenSpec.upto fnExactCountItemsSpec)) fnExactCountItemsUptoCard

/-- THE SECOND FORM's CARD OF 'laws.FnExactReadNumber'. -/
def fnExactReadNumberUptoCard : Claim7 := { stood := { row := fnExactReadNumberUptoRow, standIns := [], harness := (true, "a049cafa66899a98fcba7bfb45fcadba79b8f4dfec57a224262c7e6d59e210d3"), looks := true }, kinds := [], alts := [], laidByText := true, laidKinds := [.handle], laidTests := true, laidLooks := .later }
def FnExactReadNumberUptoCardSaid : Prop := Claim7.holds Tryz.pinned (.plain (OpenSpec.upto fnExactReadNumberSpec)) fnExactReadNumberUptoCard
end Rows
end Go.Proofs.YtomfggmmhkpeeaaGreatDoor
