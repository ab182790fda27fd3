/-
  DERIVED. GIVEN WITH THE SEED: THE CARDS: each row of YtoegmaebdihnaaaDoorRows.lean that lists a variable, with what it lists TIED to the program's text (the seventh form; the later family's looks); each row that meets fmt, with fmt's text TOLD by the authors' own Lean function (tested against real Go, not proved from fmt's source: count such statements apart). THE CARD IS WHAT COUNTS. Prove the row's statement (the work); the ties are given (YtoegmaebdihnaaaDoorTie.lean); close each card by the builder's one call (the guide's Derived/Test/ToyasCard.lean, 'card_holds'). Laid BY PROGRAM, IN A SANDBOX (cutbox-door.mjs). By AI agents, Wed Nov 11 2026. No macro, syntax, notation, axiom, sorry.
-/
import Derived.Test.YtoegmaebdihnaaaDoorRows
import GoSem.ClaimSeven
namespace Go.Proofs.YtoegmaebdihnaaaDoor
namespace Rows

/-- THE TIED CARD OF 'laws.FnExactIsTruncated'. -/
def fnExactIsTruncatedCard : Claim7 := { stood := { row := fnExactIsTruncatedRow, standIns := [], harness := (true, "d362026376de07c33c0b8a6dea174f86e31473d9ba406a080e06b96760d34e47"), looks := true }, kinds := [], alts := [], laidByText := true, laidKinds := [.sentinel], laidTests := true, laidLooks := .later }
def FnExactIsTruncatedCardSaid : Prop := Claim7.holds Tryd.pinned (.plain (OpenSpec.ofChange fnExactIsTruncatedSpec)) fnExactIsTruncatedCard

/-- THE SECOND FORM's CARD OF 'laws.FnExactIsTruncated'. -/
def fnExactIsTruncatedUptoCard : Claim7 := { stood := { row := fnExactIsTruncatedUptoRow, standIns := [], harness := (true, "d362026376de07c33c0b8a6dea174f86e31473d9ba406a080e06b96760d34e47"), looks := true }, kinds := [], alts := [], laidByText := true, laidKinds := [.sentinel], laidTests := true, laidLooks := .later }
def FnExactIsTruncatedUptoCardSaid : Prop := Claim7.holds Tryd.pinned (.plain (OpenSpec.upto fnExactIsTruncatedSpec)) fnExactIsTruncatedUptoCard
end Rows
end Go.Proofs.YtoegmaebdihnaaaDoor
