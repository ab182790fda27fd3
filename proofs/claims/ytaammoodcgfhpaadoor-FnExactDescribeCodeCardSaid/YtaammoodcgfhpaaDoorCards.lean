/-
  DERIVED. GIVEN WITH THE SEED: THE CARDS: each row of YtaammoodcgfhpaaDoorRows.lean that lists a variable, with what it lists TIED to the program's text (the seventh form; the later family's looks); each row that meets fmt, with fmt's text TOLD by the authors' own Lean function (tested against real Go, not proved from fmt's source: count such statements apart). THE CARD IS WHAT COUNTS. Prove the row's statement (the work); the ties are given (YtaammoodcgfhpaaDoorTie.lean); close each card by the builder's one call (the guide's Derived/Test/ToyasCard.lean, 'card_holds'). Laid BY PROGRAM, IN A SANDBOX (cutbox-door.mjs). By AI agents, Wed Nov 11 2026. No macro, syntax, notation, axiom, sorry.
-/
import Derived.Test.YtaammoodcgfhpaaDoorRows
import GoSem.ClaimSeven
namespace Go.Proofs.YtaammoodcgfhpaaDoor
namespace Rows

/-- THE TIED CARD OF 'laws.FnExactDescribeCode'. -/
def fnExactDescribeCodeCard : Claim7 := { stood := { row := fnExactDescribeCodeRow, standIns := [], harness := (true, "a94c874591ac91ce63328227ca9da6491fd858e9b2dca36b7dd33c52d521b105"), looks := false }, kinds := [], alts := [], laidByText := true, laidKinds := [.data, .data, .data], laidTests := true, laidLooks := .later }
def FnExactDescribeCodeCardSaid : Prop := Claim7.holds Tryd.pinned (.plain (OpenSpec.ofChange fnExactDescribeCodeSpec)) fnExactDescribeCodeCard

/-- THE SECOND FORM's CARD OF 'laws.FnExactDescribeCode'. -/
def fnExactDescribeCodeUptoCard : Claim7 := { stood := { row := fnExactDescribeCodeUptoRow, standIns := [], harness := (true, "a94c874591ac91ce63328227ca9da6491fd858e9b2dca36b7dd33c52d521b105"), looks := false }, kinds := [], alts := [], laidByText := true, laidKinds := [.data, .data, .data], laidTests := true, laidLooks := .later }
def FnExactDescribeCodeUptoCardSaid : Prop := Claim7.holds Tryd.pinned (.plain (OpenSpec.upto fnExactDescribeCodeSpec)) fnExactDescribeCodeUptoCard
end Rows
end Go.Proofs.YtaammoodcgfhpaaDoor
