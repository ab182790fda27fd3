/-
  No cell of these rows narrows 'for every input' (looked for: loops, veiled, ifaces, maps, wideKeys, modest, calm, conditions, laid).
  DERIVED. THE GIVEN ROWS OF THIS SEAT. 4 by the template 'for every input the law returns true; each argument reads behind the call as it read before'; 0 by the template 'total and deterministic' (their statements: YtecdbogicpffeaaTotals.lean).
  GIVEN WITH THE SEED: the statements are not yours to turn. If you find one false, say at which input.
  Laid BY PROGRAM, IN A SANDBOX (cutbox-rows.mjs): the forced cells as the released guide's own fill.sh prints them over the translation 9316473c4f049fca… (all of the seat's roots in one cut). By AI agents, Wed Nov 11 2026. No macro, syntax, notation, axiom, sorry.
-/
import Derived.Test.YtecdbogicpffeaaChecked
import GoSem.Claim
import GoSem.ClaimJoined
import GoSem.ClaimMapViews
import Derived.JoinedTies
import Derived.KernelRfl
namespace Go.Proofs.Ytecdbogicpffeaa
/- THE CELL 'sum', in the pinned program and in every row, IS THE sha256 OF THE DUMP (.gsa) THAT YtecdbogicpffeaaProg.lean LOADS. Nothing in Lean hashes anything: it is a label: what it is worth is what the hold of that sum in a sandbox is worth. -/
noncomputable def Try.pinned : Pinned := { name := "ytecdbogicpffeaa", sum := "9316473c4f049fcaf3384bb1296385c46ba26995b2db08f4f53648002bbb899f", checked := Try.checked }
namespace Rows
def none {H : Type} : Left H := { results := [], args := [] }

/-- 'laws.FnVariants': WHATEVER THE INPUT: true; the input reads as it did. -/
def fnVariantsSpec : ChangeSpec := { name := "fnVariants", fn := fun _ => fun
  | [d] => { results := [.lit (.bool true)], args := [d] }
  | _ => none }
def fnVariantsRow : OpenClaim := { program := "ytecdbogicpffeaa", sum := "9316473c4f049fcaf3384bb1296385c46ba26995b2db08f4f53648002bbb899f", func := "loop.example/g00518/laws.FnVariants", spec := "fnVariants", unfollowed := true, recurses := true, apart := false }
def FnVariantsSaid : Prop := fnVariantsRow.holds Try.pinned (OpenSpec.ofChange fnVariantsSpec)

/-- ITS FALSE NEIGHBOUR: 'it returns false'. Refute it at one input. -/
def fnVariantsWrong : ChangeSpec := { name := "fnVariants", fn := fun _ => fun
  | [d] => { results := [.lit (.bool false)], args := [d] }
  | _ => none }
def FnVariantsWrongFalsely : Prop := fnVariantsRow.holds Try.pinned (OpenSpec.ofChange fnVariantsWrong)

/-- 'laws.FnMigrations': WHATEVER THE INPUT: true; the input reads as it did. -/
def fnMigrationsSpec : ChangeSpec := { name := "fnMigrations", fn := fun _ => fun
  | [d] => { results := [.lit (.bool true)], args := [d] }
  | _ => none }
def fnMigrationsRow : OpenClaim := { program := "ytecdbogicpffeaa", sum := "9316473c4f049fcaf3384bb1296385c46ba26995b2db08f4f53648002bbb899f", func := "loop.example/g00518/laws.FnMigrations", spec := "fnMigrations", unfollowed := true, recurses := true, apart := false }
def FnMigrationsSaid : Prop := fnMigrationsRow.holds Try.pinned (OpenSpec.ofChange fnMigrationsSpec)

/-- ITS FALSE NEIGHBOUR: 'it returns false'. Refute it at one input. -/
def fnMigrationsWrong : ChangeSpec := { name := "fnMigrations", fn := fun _ => fun
  | [d] => { results := [.lit (.bool false)], args := [d] }
  | _ => none }
def FnMigrationsWrongFalsely : Prop := fnMigrationsRow.holds Try.pinned (OpenSpec.ofChange fnMigrationsWrong)

/-- 'laws.FnPrinting': WHATEVER THE INPUT: true; the input reads as it did. -/
def fnPrintingSpec : ChangeSpec := { name := "fnPrinting", fn := fun _ => fun
  | [d] => { results := [.lit (.bool true)], args := [d] }
  | _ => none }
def fnPrintingRow : OpenClaim := { program := "ytecdbogicpffeaa", sum := "9316473c4f049fcaf3384bb1296385c46ba26995b2db08f4f53648002bbb899f", func := "loop.example/g00518/laws.FnPrinting", spec := "fnPrinting", unfollowed := true, recurses := true, apart := false }
def FnPrintingSaid : Prop := fnPrintingRow.holds Try.pinned (OpenSpec.ofChange fnPrintingSpec)

/-- ITS FALSE NEIGHBOUR: 'it returns false'. Refute it at one input. -/
def fnPrintingWrong : ChangeSpec := { name := "fnPrinting", fn := fun _ => fun
  | [d] => { results := [.lit (.bool false)], args := [d] }
  | _ => none }
def FnPrintingWrongFalsely : Prop := fnPrintingRow.holds Try.pinned (OpenSpec.ofChange fnPrintingWrong)

/-- 'laws.FnExactLocatePart': WHATEVER THE INPUT: true; the input reads as it did. -/
def fnExactLocatePartSpec : ChangeSpec := { name := "fnExactLocatePart", fn := fun _ => fun
  | [d1, d2, d3] => { results := [.lit (.bool true)], args := [d1, d2, d3] }
  | _ => none }
def fnExactLocatePartRow : OpenClaim := { program := "ytecdbogicpffeaa", sum := "9316473c4f049fcaf3384bb1296385c46ba26995b2db08f4f53648002bbb899f", func := "loop.example/g00518/laws.FnExactLocatePart", spec := "fnExactLocatePart", unfollowed := true, recurses := true, apart := false }
def FnExactLocatePartSaid : Prop := fnExactLocatePartRow.holds Try.pinned (OpenSpec.ofChange fnExactLocatePartSpec)

/-- ITS FALSE NEIGHBOUR: 'it returns false'. Refute it at one input. -/
def fnExactLocatePartWrong : ChangeSpec := { name := "fnExactLocatePart", fn := fun _ => fun
  | [d1, d2, d3] => { results := [.lit (.bool false)], args := [d1, d2, d3] }
  | _ => none }
def FnExactLocatePartWrongFalsely : Prop := fnExactLocatePartRow.holds Try.pinned (OpenSpec.ofChange fnExactLocatePartWrong)

/- THE SECOND FORM. 'bulk': how many values and letters a reading holds, each counted each time it is reached (what is shared counts as often as it is met; a slice's spare places count too). A statement '..UptoSaid' is the law's where the arguments, and the package variables that the reading takes, are together of bulk at most 1048576: NARROWER than '..Said'. Prove '..Said' where nothing that the law and all that it calls make is longer than what came in: it says more and counts as full. Else prove '..UptoSaid'. A law counts once. -/
mutual
def uptoBulk {H : Type} : DataW H → Nat
  | .lit (.string bytes) => bytes.length + 1
  | .lit _ => 1
  | .nil => 1
  | .ptr d => uptoBulk d + 1
  | .slice elems spare => uptoBulkAll elems + uptoBulkAll spare + 1
  | .agg parts => uptoBulkAll parts + 1
  | .iface _ d => uptoBulk d + 1
  | .map entries => uptoBulkEntries entries + 1
  | .held _ => 1
def uptoBulkAll {H : Type} : List (DataW H) → Nat
  | [] => 0
  | d :: r => uptoBulk d + uptoBulkAll r
def uptoBulkEntries {H : Type} : List (Lit × DataW H) → Nat
  | [] => 0
  | x :: r => uptoBulkEntry x + uptoBulkEntries r
def uptoBulkEntry {H : Type} : Lit × DataW H → Nat
  | (.string bytes, d) => bytes.length + uptoBulk d + 1
  | (_, d) => uptoBulk d + 1
 end
def uptoSmall : (H : Type) → List (DataW H) → Bool := fun _ ds => decide (uptoBulkAll ds ≤ 1048576)
def OpenSpec.upto (s : _root_.Go.ChangeSpec) : _root_.Go.OpenSpec := { _root_.Go.OpenSpec.ofChange s with cond := some uptoSmall }

/-- 'laws.FnVariants', WHERE WHAT IT READS IS OF BULK AT MOST 1048576: true; the input reads as it did. -/
def fnVariantsUptoRow : OpenClaim := { program := "ytecdbogicpffeaa", sum := "9316473c4f049fcaf3384bb1296385c46ba26995b2db08f4f53648002bbb899f", func := "loop.example/g00518/laws.FnVariants", spec := "fnVariants", unfollowed := true, recurses := true, apart := false, narrowed := true }
def FnVariantsUptoSaid : Prop := fnVariantsUptoRow.holds Try.pinned (OpenSpec.upto fnVariantsSpec)

/-- 'laws.FnMigrations', WHERE WHAT IT READS IS OF BULK AT MOST 1048576: true; the input reads as it did. -/
def fnMigrationsUptoRow : OpenClaim := { program := "ytecdbogicpffeaa", sum := "9316473c4f049fcaf3384bb1296385c46ba26995b2db08f4f53648002bbb899f", func := "loop.example/g00518/laws.FnMigrations", spec := "fnMigrations", unfollowed := true, recurses := true, apart := false, narrowed := true }
def FnMigrationsUptoSaid : Prop := fnMigrationsUptoRow.holds Try.pinned (OpenSpec.upto fnMigrationsSpec)

/-- 'laws.FnPrinting', WHERE WHAT IT READS IS OF BULK AT MOST 1048576: true; the input reads as it did. -/
def fnPrintingUptoRow : OpenClaim := { program := "ytecdbogicpffeaa", sum := "9316473c4f049fcaf3384bb1296385c46ba26995b2db08f4f53648002bbb899f", func := "loop.example/g00518/laws.FnPrinting", spec := "fnPrinting", unfollowed := true, recurses := true, apart := false, narrowed := true }
def FnPrintingUptoSaid : Prop := fnPrintingUptoRow.holds Try.pinned (OpenSpec.upto fnPrintingSpec)

/-- 'laws.FnExactLocatePart', WHERE WHAT IT READS IS OF BULK AT MOST 1048576: true; the input reads as it did. -/
def fnExactLocatePartUptoRow : OpenClaim := { program := "ytecdbogicpffeaa", sum := "9316473c4f049fcaf3384bb1296385c46ba26995b2db08f4f53648002bbb899f", func := "loop.example/g00518/laws.FnExactLocatePart", spec := "fnExactLocatePart", unfollowed := true, recurses := true, apart := false, narrowed := true }
def FnExactLocatePartUptoSaid : Prop := fnExactLocatePartUptoRow.holds Try.pinned (OpenSpec.upto fnExactLocatePartSpec)

end Rows
end Go.Proofs.Ytecdbogicpffeaa
