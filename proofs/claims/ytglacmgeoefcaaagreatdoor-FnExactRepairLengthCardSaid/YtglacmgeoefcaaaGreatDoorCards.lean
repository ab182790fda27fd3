/-
  DERIVED. GIVEN WITH THE SEED: THE CARDS: each row of YtglacmgeoefcaaaGreatDoorRows.lean that lists a variable, with what it lists TIED to the program's text (the seventh form; the later family's looks); each row that meets fmt, with fmt's text TOLD by the authors' own Lean function (tested against real Go, not proved from fmt's source: count such statements apart). THE CARD IS WHAT COUNTS. Prove the row's statement (the work); the ties are given (YtglacmgeoefcaaaGreatDoorTie.lean); close each card by the builder's one call (the guide's Derived/Test/ToyasCard.lean, 'card_holds'). Laid BY PROGRAM, IN A SANDBOX (cutbox-door.mjs). By AI agents, Wed Nov 11 2026. No macro, syntax, notation, axiom, sorry.
-/
import Derived.Test.YtglacmgeoefcaaaGreatDoorRows
import GoSem.ClaimSeven
namespace Go.Proofs.YtglacmgeoefcaaaGreatDoor
namespace Rows

/-- THE TIED CARD OF 'laws.FnNoPrefixes'. -/
def fnNoPrefixesCard : Claim7 := { stood := { row := fnNoPrefixesRow, standIns := [], harness := (true, "8cb64223189691b8c992f1282207307d096ddab5e82b945d65e2b6949501dcdb"), looks := true }, kinds := [], alts := [], laidByText := true, laidKinds := [.handle], laidTests := true, laidLooks := .later }
def FnNoPrefixesCardSaid : Prop := Claim7.holds Tryz.pinned (.plain (OpenSpec.ofChange fnNoPrefixesSpec)) fnNoPrefixesCard

/-- THE TIED CARD OF 'laws.FnExactReadValue'. -/
def fnExactReadValueCard : Claim7 := { stood := { row := fnExactReadValueRow, standIns := [], harness := (true, "8cb64223189691b8c992f1282207307d096ddab5e82b945d65e2b6949501dcdb"), looks := true }, kinds := [], alts := [], laidByText := true, laidKinds := [.handle], laidTests := true, laidLooks := .later }
def FnExactReadValueCardSaid : Prop := Claim7.holds Tryz.pinned (.plain (OpenSpec.ofChange fnExactReadValueSpec)) fnExactReadValueCard

/-- THE TIED CARD OF 'laws.FnExactReadFile'. -/
def fnExactReadFileCard : Claim7 := { stood := { row := fnExactReadFileRow, standIns := [], harness := (true, "8cb64223189691b8c992f1282207307d096ddab5e82b945d65e2b6949501dcdb"), looks := true }, kinds := [], alts := [], laidByText := true, laidKinds := [.handle], laidTests := true, laidLooks := .later }
def FnExactReadFileCardSaid : Prop := Claim7.holds Tryz.pinned (.plain (OpenSpec.ofChange fnExactReadFileSpec)) fnExactReadFileCard

/-- THE TIED CARD OF 'laws.FnExactRepairReplace'. -/
def fnExactRepairReplaceCard : Claim7 := { stood := { row := fnExactRepairReplaceRow, standIns := [], harness := (true, "8cb64223189691b8c992f1282207307d096ddab5e82b945d65e2b6949501dcdb"), looks := true }, kinds := [], alts := [], laidByText := true, laidKinds := [.handle], laidTests := true, laidLooks := .later }
def FnExactRepairReplaceCardSaid : Prop := Claim7.holds Tryz.pinned (.plain (OpenSpec.ofChange fnExactRepairReplaceSpec)) fnExactRepairReplaceCard

/-- THE TIED CARD OF 'laws.FnExactRepairLength'. -/
def fnExactRepairLengthCard : Claim7 := { stood := { row := fnExactRepairLengthRow, standIns := [], harness := (true, "8cb64223189691b8c992f1282207307d096ddab5e82b945d65e2b6949501dcdb"), looks := true }, kinds := [], alts := [], laidByText := true, laidKinds := [.handle], laidTests := true, laidLooks := .later }
def FnExactRepairLengthCardSaid : Prop := Claim7.holds Tryz.pinned (.plain (OpenSpec.ofChange fnExactRepairLengthSpec)) fnExactRepairLengthCard

/-- THE TIED CARD OF 'laws.FnRepairs'. -/
def fnRepairsCard : Claim7 := { stood := { row := fnRepairsRow, standIns := [], harness := (true, "8cb64223189691b8c992f1282207307d096ddab5e82b945d65e2b6949501dcdb"), looks := true }, kinds := [], alts := [], laidByText := true, laidKinds := [.handle], laidTests := true, laidLooks := .later }
def FnRepairsCardSaid : Prop := Claim7.holds Tryz.pinned (.plain (OpenSpec.ofChange fnRepairsSpec)) fnRepairsCard

/-- THE TIED CARD OF 'laws.FnErrors'. -/
def fnErrorsCard : Claim7 := { stood := { row := fnErrorsRow, standIns := [], harness := (true, "8cb64223189691b8c992f1282207307d096ddab5e82b945d65e2b6949501dcdb"), looks := true }, kinds := [], alts := [], laidByText := true, laidKinds := [.data, .data, .data, .handle], laidTests := true, laidLooks := .later }
def FnErrorsCardSaid : Prop := Claim7.holds Tryz.pinned (.plain (OpenSpec.ofChange fnErrorsSpec)) fnErrorsCard

/-- THE TIED CARD OF 'laws.FnCanonical'. -/
def fnCanonicalCard : Claim7 := { stood := { row := fnCanonicalRow, standIns := [], harness := (true, "8cb64223189691b8c992f1282207307d096ddab5e82b945d65e2b6949501dcdb"), looks := true }, kinds := [], alts := [], laidByText := true, laidKinds := [.handle], laidTests := true, laidLooks := .later }
def FnCanonicalCardSaid : Prop := Claim7.holds Tryz.pinned (.plain (OpenSpec.ofChange fnCanonicalSpec)) fnCanonicalCard

/-- THE TIED CARD OF 'laws.FnExactRepairText'. -/
def fnExactRepairTextCard : Claim7 := { stood := { row := fnExactRepairTextRow, standIns := [], harness := (true, "8cb64223189691b8c992f1282207307d096ddab5e82b945d65e2b6949501dcdb"), looks := true }, kinds := [], alts := [], laidByText := true, laidKinds := [.data, .data, .data, .handle], laidTests := true, laidLooks := .later }
def FnExactRepairTextCardSaid : Prop := Claim7.holds Tryz.pinned (.plain (OpenSpec.ofChange fnExactRepairTextSpec)) fnExactRepairTextCard

/-- THE TIED CARD OF 'laws.FnOneCanonical'. -/
def fnOneCanonicalCard : Claim7 := { stood := { row := fnOneCanonicalRow, standIns := [], harness := (true, "8cb64223189691b8c992f1282207307d096ddab5e82b945d65e2b6949501dcdb"), looks := true }, kinds := [], alts := [], laidByText := true, laidKinds := [.handle], laidTests := true, laidLooks := .later }
def FnOneCanonicalCardSaid : Prop := Claim7.holds Tryz.pinned (.plain (OpenSpec.ofChange fnOneCanonicalSpec)) fnOneCanonicalCard

/-- THE TIED CARD OF 'laws.FnLengthRepairs'. -/
def fnLengthRepairsCard : Claim7 := { stood := { row := fnLengthRepairsRow, standIns := [], harness := (true, "8cb64223189691b8c992f1282207307d096ddab5e82b945d65e2b6949501dcdb"), looks := true }, kinds := [], alts := [], laidByText := true, laidKinds := [.data, .data, .data, .handle], laidTests := true, laidLooks := .later }
def FnLengthRepairsCardSaid : Prop := Claim7.holds Tryz.pinned (.plain (OpenSpec.ofChange fnLengthRepairsSpec)) fnLengthRepairsCard

/-- THE SECOND FORM's CARD OF 'laws.FnNoPrefixes'. -/
def fnNoPrefixesUptoCard : Claim7 := { stood := { row := fnNoPrefixesUptoRow, standIns := [], harness := (true, "8cb64223189691b8c992f1282207307d096ddab5e82b945d65e2b6949501dcdb"), looks := true }, kinds := [], alts := [], laidByText := true, laidKinds := [.handle], laidTests := true, laidLooks := .later }
def FnNoPrefixesUptoCardSaid : Prop := Claim7.holds Tryz.pinned (.plain (OpenSpec.upto fnNoPrefixesSpec)) fnNoPrefixesUptoCard

/-- THE SECOND FORM's CARD OF 'laws.FnExactReadValue'. -/
def fnExactReadValueUptoCard : Claim7 := { stood := { row := fnExactReadValueUptoRow, standIns := [], harness := (true, "8cb64223189691b8c992f1282207307d096ddab5e82b945d65e2b6949501dcdb"), looks := true }, kinds := [], alts := [], laidByText := true, laidKinds := [.handle], laidTests := true, laidLooks := .later }
def FnExactReadValueUptoCardSaid : Prop := Claim7.holds Tryz.pinned (.plain (OpenSpec.upto fnExactReadValueSpec)) fnExactReadValueUptoCard

/-- THE SECOND FORM's CARD OF 'laws.FnExactReadFile'. -/
def fnExactReadFileUptoCard : Claim7 := { stood := { row := fnExactReadFileUptoRow, standIns := [], harness := (true, "8cb64223189691b8c992f1282207307d096ddab5e82b945d65e2b6949501dcdb"), looks := true }, kinds := [], alts := [], laidByText := true, laidKinds := [.handle], laidTests := true, laidLooks := .later }
def FnExactReadFileUptoCardSaid : Prop := Claim7.holds Tryz.pinned (.plain (OpenSpec.upto fnExactReadFileSpec)) fnExactReadFileUptoCard

/-- THE SECOND FORM's CARD OF 'laws.FnExactRepairReplace'. -/
def fnExactRepairReplaceUptoCard : Claim7 := { stood := { row := fnExactRepairReplaceUptoRow, standIns := [], harness := (true, "8cb64223189691b8c992f1282207307d096ddab5e82b945d65e2b6949501dcdb"), looks := true }, kinds := [], alts := [], laidByText := true, laidKinds := [.handle], laidTests := true, laidLooks := .later }
def FnExactRepairReplaceUptoCardSaid : Prop := Claim7.holds Tryz.pinned (.plain (OpenSpec.upto fnExactRepairReplaceSpec)) fnExactRepairReplaceUptoCard

/-- THE SECOND FORM's CARD OF 'laws.FnExactRepairLength'. -/
def fnExactRepairLengthUptoCard : Claim7 := { stood := { row := fnExactRepairLengthUptoRow, standIns := [], harness := (true, "8cb64223189691b8c992f1282207307d096ddab5e82b945d65e2b6949501dcdb"), looks := true }, kinds := [], alts := [], laidByText := true, laidKinds := [.handle], laidTests := true, laidLooks := .later }
def FnExactRepairLengthUptoCardSaid : Prop := Claim7.holds Tryz.pinned (.plain (OpenSpec.upto fnExactRepairLengthSpec)) fnExactRepairLengthUptoCard

/-- THE SECOND FORM's CARD OF 'laws.FnRepairs'. -/
def fnRepairsUptoCard : Claim7 := { stood := { row := fnRepairsUptoRow, standIns := [], harness := (true, "8cb64223189691b8c992f1282207307d096ddab5e82b945d65e2b6949501dcdb"), looks := true }, kinds := [], alts := [], laidByText := true, laidKinds := [.handle], laidTests := true, laidLooks := .later }
def FnRepairsUptoCardSaid : Prop := Claim7.holds Tryz.pinned (.plain (OpenSpec.upto fnRepairsSpec)) fnRepairsUptoCard

/-- THE SECOND FORM's CARD OF 'laws.FnErrors'. -/
def fnErrorsUptoCard : Claim7 := { stood := { row := fnErrorsUptoRow, standIns := [], harness := (true, "8cb64223189691b8c992f1282207307d096ddab5e82b945d65e2b6949501dcdb"), looks := true }, kinds := [], alts := [], laidByText := true, laidKinds := [.data, .data, .data, .handle], laidTests := true, laidLooks := .later }
def FnErrorsUptoCardSaid : Prop := Claim7.holds Tryz.pinned (.plain (OpenSpec.upto fnErrorsSpec)) fnErrorsUptoCard

/-- THE SECOND FORM's CARD OF 'laws.FnCanonical'. -/
def fnCanonicalUptoCard : Claim7 := { stood := { row := fnCanonicalUptoRow, standIns := [], harness := (true, "8cb64223189691b8c992f1282207307d096ddab5e82b945d65e2b6949501dcdb"), looks := true }, kinds := [], alts := [], laidByText := true, laidKinds := [.handle], laidTests := true, laidLooks := .later }
def FnCanonicalUptoCardSaid : Prop := Claim7.holds Tryz.pinned (.plain (OpenSpec.upto fnCanonicalSpec)) fnCanonicalUptoCard

/-- THE SECOND FORM's CARD OF 'laws.FnExactRepairText'. -/
def fnExactRepairTextUptoCard : Claim7 := { stood := { row := fnExactRepairTextUptoRow, standIns := [], harness := (true, "8cb64223189691b8c992f1282207307d096ddab5e82b945d65e2b6949501dcdb"), looks := true }, kinds := [], alts := [], laidByText := true, laidKinds := [.data, .data, .data, .handle], laidTests := true, laidLooks := .later }
def FnExactRepairTextUptoCardSaid : Prop := Claim7.holds Tryz.pinned (.plain (OpenSpec.upto fnExactRepairTextSpec)) fnExactRepairTextUptoCard

/-- THE SECOND FORM's CARD OF 'laws.FnOneCanonical'. -/
def fnOneCanonicalUptoCard : Claim7 := { stood := { row := fnOneCanonicalUptoRow, standIns := [], harness := (true, "8cb64223189691b8c992f1282207307d096ddab5e82b945d65e2b6949501dcdb"), looks := true }, kinds := [], alts := [], laidByText := true, laidKinds := [.handle], laidTests := true, laidLooks := .later }
def FnOneCanonicalUptoCardSaid : Prop := Claim7.holds Tryz.pinned (.plain (OpenSpec.upto fnOneCanonicalSpec)) fnOneCanonicalUptoCard

/-- THE SECOND FORM's CARD OF 'laws.FnLengthRepairs'. -/
def fnLengthRepairsUptoCard : Claim7 := { stood := { row := fnLengthRepairsUptoRow, standIns := [], harness := (true, "8cb64223189691b8c992f1282207307d096ddab5e82b945d65e2b6949501dcdb"), looks := true }, kinds := [], alts := [], laidByText := true, laidKinds := [.data, .data, .data, .handle], laidTests := true, laidLooks := .later }
def FnLengthRepairsUptoCardSaid : Prop := Claim7.holds Tryz.pinned (.plain (OpenSpec.upto fnLengthRepairsSpec)) fnLengthRepairsUptoCard
end Rows
end Go.Proofs.YtglacmgeoefcaaaGreatDoor
