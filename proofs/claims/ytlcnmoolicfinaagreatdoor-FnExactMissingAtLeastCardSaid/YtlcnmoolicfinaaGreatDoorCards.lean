/-
  DERIVED. GIVEN WITH THE SEED: THE CARDS: each row of YtlcnmoolicfinaaGreatDoorRows.lean that lists a variable, with what it lists TIED to the program's text (the seventh form; the later family's looks); each row that meets fmt, with fmt's text TOLD by the authors' own Lean function (tested against real Go, not proved from fmt's source: count such statements apart). THE CARD IS WHAT COUNTS. Prove the row's statement (the work); the ties are given (YtlcnmoolicfinaaGreatDoorTie.lean); close each card by the builder's one call (the guide's Derived/Test/ToyasCard.lean, 'card_holds'). Laid BY PROGRAM, IN A SANDBOX (cutbox-door.mjs). By AI agents, Wed Nov 11 2026. No macro, syntax, notation, axiom, sorry.
-/
import Derived.Test.YtlcnmoolicfinaaGreatDoorRows
import GoSem.ClaimSeven
namespace Go.Proofs.YtlcnmoolicfinaaGreatDoor
namespace Rows

/-- THE TIED CARD OF 'laws.FnExactMissingAtLeast'. -/
def fnExactMissingAtLeastCard : Claim7 := { stood := { row := fnExactMissingAtLeastRow, standIns := [], harness := (true, "3f0ad3365d20dd5fd50b47ea2b3e1e4769f20b59c94b452e57b1a0cb16294e7b"), looks := true }, kinds := [], alts := [], laidByText := true, laidKinds := [.sentinel], laidTests := true, laidLooks := .later }
def FnExactMissingAtLeastCardSaid : Prop := Claim7.holds Tryz.pinned (.plain (OpenSpec.ofChange fnExactMissingAtLeastSpec)) fnExactMissingAtLeastCard

/-- THE SECOND FORM's CARD OF 'laws.FnExactMissingAtLeast'. -/
def fnExactMissingAtLeastUptoCard : Claim7 := { stood := { row := fnExactMissingAtLeastUptoRow, standIns := [], harness := (true, "3f0ad3365d20dd5fd50b47ea2b3e1e4769f20b59c94b452e57b1a0cb16294e7b"), looks := true }, kinds := [], alts := [], laidByText := true, laidKinds := [.sentinel], laidTests := true, laidLooks := .later }
def FnExactMissingAtLeastUptoCardSaid : Prop := Claim7.holds Tryz.pinned (.plain (OpenSpec.upto fnExactMissingAtLeastSpec)) fnExactMissingAtLeastUptoCard
end Rows
end Go.Proofs.YtlcnmoolicfinaaGreatDoor
