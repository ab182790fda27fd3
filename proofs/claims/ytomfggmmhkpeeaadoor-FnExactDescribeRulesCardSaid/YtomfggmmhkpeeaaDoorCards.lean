/-
  DERIVED. GIVEN WITH THE SEED: THE CARDS: each row of YtomfggmmhkpeeaaDoorRows.lean that lists a variable, with what it lists TIED to the program's text (the seventh form; the later family's looks); each row that meets fmt, with fmt's text TOLD by the authors' own Lean function (tested against real Go, not proved from fmt's source: count such statements apart). THE CARD IS WHAT COUNTS. Prove the row's statement (the work); the ties are given (YtomfggmmhkpeeaaDoorTie.lean); close each card by the builder's one call (the guide's Derived/Test/ToyasCard.lean, 'card_holds'). Laid BY PROGRAM, IN A SANDBOX (cutbox-door.mjs). By AI agents, Wed Nov 11 2026. No macro, syntax, notation, axiom, sorry.
-/
import Derived.Test.YtomfggmmhkpeeaaDoorRows
import GoSem.ClaimSeven
namespace Go.Proofs.YtomfggmmhkpeeaaDoor
namespace Rows

/-- THE TIED CARD OF 'laws.FnExactDescribeRules'. -/
def fnExactDescribeRulesCard : Claim7 := { stood := { row := fnExactDescribeRulesRow, standIns := [], harness := (true, "d949477cf31313104e461b46a2dd663a134f026ed485be6cddbffbac642d1d37"), looks := false }, kinds := [], alts := [], laidByText := true, laidKinds := [.data, .data, .data], laidTests := true, laidLooks := .later }
def FnExactDescribeRulesCardSaid : Prop := Claim7.holds Tryd.pinned (.plain (OpenSpec.ofChange fnExactDescribeRulesSpec)) fnExactDescribeRulesCard

/-- THE SECOND FORM's CARD OF 'laws.FnExactDescribeRules'. -/
def fnExactDescribeRulesUptoCard : Claim7 := { stood := { row := fnExactDescribeRulesUptoRow, standIns := [], harness := (true, "d949477cf31313104e461b46a2dd663a134f026ed485be6cddbffbac642d1d37"), looks := false }, kinds := [], alts := [], laidByText := true, laidKinds := [.data, .data, .data], laidTests := true, laidLooks := .later }
def FnExactDescribeRulesUptoCardSaid : Prop := Claim7.holds Tryd.pinned (.plain (OpenSpec.upto fnExactDescribeRulesSpec)) fnExactDescribeRulesUptoCard
end Rows
end Go.Proofs.YtomfggmmhkpeeaaDoor
