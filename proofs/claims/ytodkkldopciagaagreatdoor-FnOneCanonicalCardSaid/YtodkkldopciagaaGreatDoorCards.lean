/-
  DERIVED. GIVEN WITH THE SEED: THE CARDS: each row of YtodkkldopciagaaGreatDoorRows.lean that lists a variable, with what it lists TIED to the program's text (the seventh form; the later family's looks); each row that meets fmt, with fmt's text TOLD by the authors' own Lean function (tested against real Go, not proved from fmt's source: count such statements apart). THE CARD IS WHAT COUNTS. Prove the row's statement (the work); the ties are given (YtodkkldopciagaaGreatDoorTie.lean); close each card by the builder's one call (the guide's Derived/Test/ToyasCard.lean, 'card_holds'). Laid BY PROGRAM, IN A SANDBOX (cutbox-door.mjs). By AI agents, Wed Nov 11 2026. No macro, syntax, notation, axiom, sorry.
-/
import Derived.Test.YtodkkldopciagaaGreatDoorRows
import GoSem.ClaimSeven
namespace Go.Proofs.YtodkkldopciagaaGreatDoor
namespace Rows

/-- THE TIED CARD OF 'laws.FnCanonical'. -/
def fnCanonicalCard : Claim7 := { stood := { row := fnCanonicalRow, standIns := [], harness := (true, "b2716f0735bb65c17d3455e8bf21e5b52f20ac62c361ec6186ee671362052fa6"), looks := true }, kinds := [], alts := [], laidByText := true, laidKinds := [.handle], laidTests := true, laidLooks := .later }
def FnCanonicalCardSaid : Prop := Claim7.holds Tryz.pinned (.plain (OpenSpec.ofChange fnCanonicalSpec)) fnCanonicalCard

/-- THE TIED CARD OF 'laws.FnOneCanonical'. -/
def fnOneCanonicalCard : Claim7 := { stood := { row := fnOneCanonicalRow, standIns := [], harness := (true, "b2716f0735bb65c17d3455e8bf21e5b52f20ac62c361ec6186ee671362052fa6"), looks := true }, kinds := [], alts := [], laidByText := true, laidKinds := [.handle], laidTests := true, laidLooks := .later }
def FnOneCanonicalCardSaid : Prop := Claim7.holds Tryz.pinned (.plain (OpenSpec.ofChange fnOneCanonicalSpec)) fnOneCanonicalCard

/-- THE SECOND FORM's CARD OF 'laws.FnCanonical'. -/
def fnCanonicalUptoCard : Claim7 := { stood := { row := fnCanonicalUptoRow, standIns := [], harness := (true, "b2716f0735bb65c17d3455e8bf21e5b52f20ac62c361ec6186ee671362052fa6"), looks := true }, kinds := [], alts := [], laidByText := true, laidKinds := [.handle], laidTests := true, laidLooks := .later }
def FnCanonicalUptoCardSaid : Prop := Claim7.holds Tryz.pinned (.plain (OpenSpec.upto fnCanonicalSpec)) fnCanonicalUptoCard

/-- THE SECOND FORM's CARD OF 'laws.FnOneCanonical'. -/
def fnOneCanonicalUptoCard : Claim7 := { stood := { row := fnOneCanonicalUptoRow, standIns := [], harness := (true, "b2716f0735bb65c17d3455e8bf21e5b52f20ac62c361ec6186ee671362052fa6"), looks := true }, kinds := [], alts := [], laidByText := true, laidKinds := [.handle], laidTests := true, laidLooks := .later }
def FnOneCanonicalUptoCardSaid : Prop := Claim7.holds Tryz.pinned (.plain (OpenSpec.upto fnOneCanonicalSpec)) fnOneCanonicalUptoCard
end Rows
end Go.Proofs.YtodkkldopciagaaGreatDoor
