/-
  DERIVED. GIVEN WITH THE SEED: THE CARDS: each row of YtecdbogicpffeabDoorRows.lean that lists a variable, with what it lists TIED to the program's text (the seventh form; the later family's looks); each row that meets fmt, with fmt's text TOLD by the authors' own Lean function (tested against real Go, not proved from fmt's source: count such statements apart). THE CARD IS WHAT COUNTS. Prove the row's statement (the work); the ties are given (YtecdbogicpffeabDoorTie.lean); close each card by the builder's one call (the guide's Derived/Test/ToyasCard.lean, 'card_holds'). Laid BY PROGRAM, IN A SANDBOX (cutbox-door.mjs). By AI agents, Wed Nov 11 2026. No macro, syntax, notation, axiom, sorry.
-/
import Derived.Test.YtecdbogicpffeabDoorRows
import GoSem.ClaimSeven
namespace Go.Proofs.YtecdbogicpffeabDoor
namespace Rows

/-- THE TIED CARD OF 'laws.FnExactDiagnose'. -/
def fnExactDiagnoseCard : Claim7 := { stood := { row := fnExactDiagnoseRow, standIns := [], harness := (true, "6c1b56b52de97f4e1b9e37b699b9d1e0ab67eeacde854ae73319d121dbffa3c3"), looks := false }, kinds := [], alts := [], laidByText := true, laidKinds := [.data, .data, .data], laidTests := true, laidLooks := .later }
def FnExactDiagnoseCardSaid : Prop := Claim7.holds Tryd.pinned (.plain (OpenSpec.ofChange fnExactDiagnoseSpec)) fnExactDiagnoseCard

/-- THE SECOND FORM's CARD OF 'laws.FnExactDiagnose'. -/
def fnExactDiagnoseUptoCard : Claim7 := { stood := { row := fnExactDiagnoseUptoRow, standIns := [], harness := (true, "6c1b56b52de97f4e1b9e37b699b9d1e0ab67eeacde854ae73319d121dbffa3c3"), looks := false }, kinds := [], alts := [], laidByText := true, laidKinds := [.data, .data, .data], laidTests := true, laidLooks := .later }
def FnExactDiagnoseUptoCardSaid : Prop := Claim7.holds Tryd.pinned (.plain (OpenSpec.upto fnExactDiagnoseSpec)) fnExactDiagnoseUptoCard
end Rows
end Go.Proofs.YtecdbogicpffeabDoor
