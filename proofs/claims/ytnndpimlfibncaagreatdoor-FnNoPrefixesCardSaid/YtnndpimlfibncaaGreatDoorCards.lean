/-
  DERIVED. GIVEN WITH THE SEED: THE CARDS: each row of YtnndpimlfibncaaGreatDoorRows.lean that lists a variable, with what it lists TIED to the program's text (the seventh form; the later family's looks); each row that meets fmt, with fmt's text TOLD by the authors' own Lean function (tested against real Go, not proved from fmt's source: count such statements apart). THE CARD IS WHAT COUNTS. Prove the row's statement (the work); the ties are given (YtnndpimlfibncaaGreatDoorTie.lean); close each card by the builder's one call (the guide's Derived/Test/ToyasCard.lean, 'card_holds'). Laid BY PROGRAM, IN A SANDBOX (cutbox-door.mjs). By AI agents, Wed Nov 11 2026. No macro, syntax, notation, axiom, sorry.
-/
import Derived.Test.YtnndpimlfibncaaGreatDoorRows
import GoSem.ClaimSeven
namespace Go.Proofs.YtnndpimlfibncaaGreatDoor
namespace Rows

/-- THE TIED CARD OF 'laws.FnNoPrefixes'. -/
def fnNoPrefixesCard : Claim7 := { stood := { row := fnNoPrefixesRow, standIns := [], harness := (true, "668dad89fdf74f8b466198bf4df9c35da44ba162ee96442f7076bba3cd4947b8"), looks := true }, kinds := [], alts := [], laidByText := true, laidKinds := [.handle], laidTests := true, laidLooks := .later }
def FnNoPrefixesCardSaid : Prop := Claim7.holds Tryz.pinned (.plain (OpenSpec.ofChange fnNoPrefixesSpec)) fnNoPrefixesCard

/-- THE TIED CARD OF 'laws.FnRepairs'. -/
def fnRepairsCard : Claim7 := { stood := { row := fnRepairsRow, standIns := [], harness := (true, "668dad89fdf74f8b466198bf4df9c35da44ba162ee96442f7076bba3cd4947b8"), looks := true }, kinds := [], alts := [], laidByText := true, laidKinds := [.handle], laidTests := true, laidLooks := .later }
def FnRepairsCardSaid : Prop := Claim7.holds Tryz.pinned (.plain (OpenSpec.ofChange fnRepairsSpec)) fnRepairsCard

/-- THE TIED CARD OF 'laws.FnCanonical'. -/
def fnCanonicalCard : Claim7 := { stood := { row := fnCanonicalRow, standIns := [], harness := (true, "668dad89fdf74f8b466198bf4df9c35da44ba162ee96442f7076bba3cd4947b8"), looks := true }, kinds := [], alts := [], laidByText := true, laidKinds := [.handle], laidTests := true, laidLooks := .later }
def FnCanonicalCardSaid : Prop := Claim7.holds Tryz.pinned (.plain (OpenSpec.ofChange fnCanonicalSpec)) fnCanonicalCard

/-- THE TIED CARD OF 'laws.FnOneCanonical'. -/
def fnOneCanonicalCard : Claim7 := { stood := { row := fnOneCanonicalRow, standIns := [], harness := (true, "668dad89fdf74f8b466198bf4df9c35da44ba162ee96442f7076bba3cd4947b8"), looks := true }, kinds := [], alts := [], laidByText := true, laidKinds := [.handle], laidTests := true, laidLooks := .later }
def FnOneCanonicalCardSaid : Prop := Claim7.holds Tryz.pinned (.plain (OpenSpec.ofChange fnOneCanonicalSpec)) fnOneCanonicalCard

/-- THE SECOND FORM's CARD OF 'laws.FnNoPrefixes'. -/
def fnNoPrefixesUptoCard : Claim7 := { stood := { row := fnNoPrefixesUptoRow, standIns := [], harness := (true, "668dad89fdf74f8b466198bf4df9c35da44ba162ee96442f7076bba3cd4947b8"), looks := true }, kinds := [], alts := [], laidByText := true, laidKinds := [.handle], laidTests := true, laidLooks := .later }
def FnNoPrefixesUptoCardSaid : Prop := Claim7.holds Tryz.pinned (.plain (OpenSpec.upto fnNoPrefixesSpec)) fnNoPrefixesUptoCard

/-- THE SECOND FORM's CARD OF 'laws.FnRepairs'. -/
def fnRepairsUptoCard : Claim7 := { stood := { row := fnRepairsUptoRow, standIns := [], harness := (true, "668dad89fdf74f8b466198bf4df9c35da44ba162ee96442f7076bba3cd4947b8"), looks := true }, kinds := [], alts := [], laidByText := true, laidKinds := [.handle], laidTests := true, laidLooks := .later }
def FnRepairsUptoCardSaid : Prop := Claim7.holds Tryz.pinned (.plain (OpenSpec.upto fnRepairsSpec)) fnRepairsUptoCard

/-- THE SECOND FORM's CARD OF 'laws.FnCanonical'. -/
def fnCanonicalUptoCard : Claim7 := { stood := { row := fnCanonicalUptoRow, standIns := [], harness := (true, "668dad89fdf74f8b466198bf4df9c35da44ba162ee96442f7076bba3cd4947b8"), looks := true }, kinds := [], alts := [], laidByText := true, laidKinds := [.handle], laidTests := true, laidLooks := .later }
def FnCanonicalUptoCardSaid : Prop := Claim7.holds Tryz.pinned (.plain (OpenSpec.upto fnCanonicalSpec)) fnCanonicalUptoCard

/-- THE SECOND FORM's CARD OF 'laws.FnOneCanonical'. -/
def fnOneCanonicalUptoCard : Claim7 := { stood := { row := fnOneCanonicalUptoRow, standIns := [], harness := (true, "668dad89fdf74f8b466198bf4df9c35da44ba162ee96442f7076bba3cd4947b8"), looks := true }, kinds := [], alts := [], laidByText := true, laidKinds := [.handle], laidTests := true, laidLooks := .later }
def FnOneCanonicalUptoCardSaid : Prop := Claim7.holds Tryz.pinned (.plain (OpenSpec.upto fnOneCanonicalSpec)) fnOneCanonicalUptoCard
end Rows
end Go.Proofs.YtnndpimlfibncaaGreatDoor
