/-
  No cell of these rows narrows 'for every input' (looked for: loops, veiled, ifaces, maps, wideKeys, modest, calm, conditions, laid).
  DERIVED. THE GIVEN ROWS OF THIS SEAT. 6 by the template 'for every input the law returns true; each argument reads behind the call as it read before'; 0 by the template 'total and deterministic' (their statements: YtodkkldopciagaaTotals.lean).
  GIVEN WITH THE SEED: the statements are not yours to turn. If you find one false, say at which input.
  Laid BY PROGRAM, IN A SANDBOX (cutbox-rows.mjs): the forced cells as the released guide's own fill.sh prints them over the translation f94e85b7d779820c… (all of the seat's roots in one cut). By AI agents, Wed Nov 11 2026. No macro, syntax, notation, axiom, sorry.
-/
import Derived.Test.YtodkkldopciagaaChecked
import GoSem.Claim
import GoSem.ClaimJoined
import GoSem.ClaimMapViews
import Derived.JoinedTies
import Derived.KernelRfl
namespace Go.Proofs.Ytodkkldopciagaa
/- THE CELL 'sum', in the pinned program and in every row, IS THE sha256 OF THE DUMP (.gsa) THAT YtodkkldopciagaaProg.lean LOADS. Nothing in Lean hashes anything: it is a label: what it is worth is what the hold of that sum in a sandbox is worth. -/
noncomputable def Try.pinned : Pinned := { name := "ytodkkldopciagaa", sum := "f94e85b7d779820c11075264da2d6d4423932c6ebf7421f21793bc6650b85116", checked := Try.checked }
namespace Rows
def none {H : Type} : Left H := { results := [], args := [] }

/-- 'laws.FnWorkBound': WHATEVER THE INPUT: true; the input reads as it did. -/
def fnWorkBoundSpec : ChangeSpec := { name := "fnWorkBound", fn := fun _ => fun
  | [d] => { results := [.lit (.bool true)], args := [d] }
  | _ => none }
def fnWorkBoundRow : OpenClaim := { program := "ytodkkldopciagaa", sum := "f94e85b7d779820c11075264da2d6d4423932c6ebf7421f21793bc6650b85116", func := "loop.example/g00518/laws.FnWorkBound", spec := "fnWorkBound", recurses := true, apart := false }
def FnWorkBoundSaid : Prop := fnWorkBoundRow.holds Try.pinned (OpenSpec.ofChange fnWorkBoundSpec)

/-- ITS FALSE NEIGHBOUR: 'it returns false'. Refute it at one input. -/
def fnWorkBoundWrong : ChangeSpec := { name := "fnWorkBound", fn := fun _ => fun
  | [d] => { results := [.lit (.bool false)], args := [d] }
  | _ => none }
def FnWorkBoundWrongFalsely : Prop := fnWorkBoundRow.holds Try.pinned (OpenSpec.ofChange fnWorkBoundWrong)

/-- 'laws.FnVariants': WHATEVER THE INPUT: true; the input reads as it did. -/
def fnVariantsSpec : ChangeSpec := { name := "fnVariants", fn := fun _ => fun
  | [d] => { results := [.lit (.bool true)], args := [d] }
  | _ => none }
def fnVariantsRow : OpenClaim := { program := "ytodkkldopciagaa", sum := "f94e85b7d779820c11075264da2d6d4423932c6ebf7421f21793bc6650b85116", func := "loop.example/g00518/laws.FnVariants", spec := "fnVariants", unfollowed := true, recurses := true, apart := false }
def FnVariantsSaid : Prop := fnVariantsRow.holds Try.pinned (OpenSpec.ofChange fnVariantsSpec)

/-- ITS FALSE NEIGHBOUR: 'it returns false'. Refute it at one input. -/
def fnVariantsWrong : ChangeSpec := { name := "fnVariants", fn := fun _ => fun
  | [d] => { results := [.lit (.bool false)], args := [d] }
  | _ => none }
def FnVariantsWrongFalsely : Prop := fnVariantsRow.holds Try.pinned (OpenSpec.ofChange fnVariantsWrong)

/-- 'laws.FnValidator': WHATEVER THE INPUT: true; the input reads as it did. -/
def fnValidatorSpec : ChangeSpec := { name := "fnValidator", fn := fun _ => fun
  | [d] => { results := [.lit (.bool true)], args := [d] }
  | _ => none }
def fnValidatorRow : OpenClaim := { program := "ytodkkldopciagaa", sum := "f94e85b7d779820c11075264da2d6d4423932c6ebf7421f21793bc6650b85116", func := "loop.example/g00518/laws.FnValidator", spec := "fnValidator", recurses := true, apart := false }
def FnValidatorSaid : Prop := fnValidatorRow.holds Try.pinned (OpenSpec.ofChange fnValidatorSpec)

/-- ITS FALSE NEIGHBOUR: 'it returns false'. Refute it at one input. -/
def fnValidatorWrong : ChangeSpec := { name := "fnValidator", fn := fun _ => fun
  | [d] => { results := [.lit (.bool false)], args := [d] }
  | _ => none }
def FnValidatorWrongFalsely : Prop := fnValidatorRow.holds Try.pinned (OpenSpec.ofChange fnValidatorWrong)

/-- 'laws.FnPrefixes': WHATEVER THE INPUT: true; the input reads as it did. -/
def fnPrefixesSpec : ChangeSpec := { name := "fnPrefixes", fn := fun _ => fun
  | [d] => { results := [.lit (.bool true)], args := [d] }
  | _ => none }
def fnPrefixesRow : OpenClaim := { program := "ytodkkldopciagaa", sum := "f94e85b7d779820c11075264da2d6d4423932c6ebf7421f21793bc6650b85116", func := "loop.example/g00518/laws.FnPrefixes", spec := "fnPrefixes", unfollowed := true, recurses := true, apart := false }
def FnPrefixesSaid : Prop := fnPrefixesRow.holds Try.pinned (OpenSpec.ofChange fnPrefixesSpec)

/-- ITS FALSE NEIGHBOUR: 'it returns false'. Refute it at one input. -/
def fnPrefixesWrong : ChangeSpec := { name := "fnPrefixes", fn := fun _ => fun
  | [d] => { results := [.lit (.bool false)], args := [d] }
  | _ => none }
def FnPrefixesWrongFalsely : Prop := fnPrefixesRow.holds Try.pinned (OpenSpec.ofChange fnPrefixesWrong)

/-- 'laws.FnMigrations': WHATEVER THE INPUT: true; the input reads as it did. -/
def fnMigrationsSpec : ChangeSpec := { name := "fnMigrations", fn := fun _ => fun
  | [d] => { results := [.lit (.bool true)], args := [d] }
  | _ => none }
def fnMigrationsRow : OpenClaim := { program := "ytodkkldopciagaa", sum := "f94e85b7d779820c11075264da2d6d4423932c6ebf7421f21793bc6650b85116", func := "loop.example/g00518/laws.FnMigrations", spec := "fnMigrations", unfollowed := true, recurses := true, apart := false }
def FnMigrationsSaid : Prop := fnMigrationsRow.holds Try.pinned (OpenSpec.ofChange fnMigrationsSpec)

/-- ITS FALSE NEIGHBOUR: 'it returns false'. Refute it at one input. -/
def fnMigrationsWrong : ChangeSpec := { name := "fnMigrations", fn := fun _ => fun
  | [d] => { results := [.lit (.bool false)], args := [d] }
  | _ => none }
def FnMigrationsWrongFalsely : Prop := fnMigrationsRow.holds Try.pinned (OpenSpec.ofChange fnMigrationsWrong)

/-- 'laws.FnPrinting': WHATEVER THE INPUT: true; the input reads as it did. -/
def fnPrintingSpec : ChangeSpec := { name := "fnPrinting", fn := fun _ => fun
  | [d] => { results := [.lit (.bool true)], args := [d] }
  | _ => none }
def fnPrintingRow : OpenClaim := { program := "ytodkkldopciagaa", sum := "f94e85b7d779820c11075264da2d6d4423932c6ebf7421f21793bc6650b85116", func := "loop.example/g00518/laws.FnPrinting", spec := "fnPrinting", unfollowed := true, recurses := true, apart := false }
def FnPrintingSaid : Prop := fnPrintingRow.holds Try.pinned (OpenSpec.ofChange fnPrintingSpec)

/-- ITS FALSE NEIGHBOUR: 'it returns false'. Refute it at one input. -/
def fnPrintingWrong : ChangeSpec := { name := "fnPrinting", fn := fun _ => fun
  | [d] => { results := [.lit (.bool false)], args := [d] }
  | _ => none }
def FnPrintingWrongFalsely : Prop := fnPrintingRow.holds Try.pinned (OpenSpec.ofChange fnPrintingWrong)

/- THE SECOND FORM. 'bulk': how many values and letters a reading holds, each counted each time it is reached (what is shared counts as often as it is met; a slice's spare places count too). A statement '..UptoSaid' is the law's where the arguments, and the package variables that the reading takes, are together of bulk at most 1048576: NARROWER than '..Said'. Prove '..Said' where nothing that the law and all that it calls make is longer than what came in: it says more and counts as full. Else prove '..UptoSaid'. A law counts once. -/
mutual
def uptoBulk {H : Type} : DataW H → Nat
  | .lit (.string bytes) => bytes.length + 1
  | .lit _ => 1
  | .nil => 1
  | .ptr d => uptoBulk d + 1
  | .slice elems spare => uptoBulkAll elems + uptoBulkAll spare + 1
  | .agg parts => uptoBulkAll parts + 1
  | .iface _ d => uptoBulk d + 1
  | .map entries => uptoBulkEntries entries + 1
  | .held _ => 1
def uptoBulkAll {H : Type} : List (DataW H) → Nat
  | [] => 0
  | d :: r => uptoBulk d + uptoBulkAll r
def uptoBulkEntries {H : Type} : List (Lit × DataW H) → Nat
  | [] => 0
  | x :: r => uptoBulkEntry x + uptoBulkEntries r
def uptoBulkEntry {H : Type} : Lit × DataW H → Nat
  | (.string bytes, d) => bytes.length + uptoBulk d + 1
  | (_, d) => uptoBulk d + 1
 end
def uptoSmall : (H : Type) → List (DataW H) → Bool := fun _ ds => decide (uptoBulkAll ds ≤ 1048576)
def OpenSpec.upto (s : _root_.Go.ChangeSpec) : _root_.Go.OpenSpec := { _root_.Go.OpenSpec.ofChange s with cond := some uptoSmall }

/-- 'laws.FnWorkBound', WHERE WHAT IT READS IS OF BULK AT MOST 1048576: true; the input reads as it did. -/
def fnWorkBoundUptoRow : OpenClaim := { program := "ytodkkldopciagaa", sum := "f94e85b7d779820c11075264da2d6d4423932c6ebf7421f21793bc6650b85116", func := "loop.example/g00518/laws.FnWorkBound", spec := "fnWorkBound", recurses := true, apart := false, narrowed := true }
def FnWorkBoundUptoSaid : Prop := fnWorkBoundUptoRow.holds Try.pinned (OpenSpec.upto fnWorkBoundSpec)

/-- 'laws.FnVariants', WHERE WHAT IT READS IS OF BULK AT MOST 1048576: true; the input reads as it did. -/
def fnVariantsUptoRow : OpenClaim := { program := "ytodkkldopciagaa", sum := "f94e85b7d779820c11075264da2d6d4423932c6ebf7421f21793bc6650b85116", func := "loop.example/g00518/laws.FnVariants", spec := "fnVariants", unfollowed := true, recurses := true, apart := false, narrowed := true }
def FnVariantsUptoSaid : Prop := fnVariantsUptoRow.holds Try.pinned (OpenSpec.upto fnVariantsSpec)

/-- 'laws.FnValidator', WHERE WHAT IT READS IS OF BULK AT MOST 1048576: true; the input reads as it did. -/
def fnValidatorUptoRow : OpenClaim := { program := "ytodkkldopciagaa", sum := "f94e85b7d779820c11075264da2d6d4423932c6ebf7421f21793bc6650b85116", func := "loop.example/g00518/laws.FnValidator", spec := "fnValidator", recurses := true, apart := false, narrowed := true }
def FnValidatorUptoSaid : Prop := fnValidatorUptoRow.holds Try.pinned (OpenSpec.upto fnValidatorSpec)

/-- 'laws.FnPrefixes', WHERE WHAT IT READS IS OF BULK AT MOST 1048576: true; the input reads as it did. -/
def fnPrefixesUptoRow : OpenClaim := { program := "ytodkkldopciagaa", sum := "f94e85b7d779820c11075264da2d6d4423932c6ebf7421f21793bc6650b85116", func := "loop.example/g00518/laws.FnPrefixes", spec := "fnPrefixes", unfollowed := true, recurses := true, apart := false, narrowed := true }
def FnPrefixesUptoSaid : Prop := fnPrefixesUptoRow.holds Try.pinned (OpenSpec.upto fnPrefixesSpec)

/-- 'laws.FnMigrations', WHERE WHAT IT READS IS OF BULK AT MOST 1048576: true; the input reads as it did. -/
def fnMigrationsUptoRow : OpenClaim := { program := "ytodkkldopciagaa", sum := "f94e85b7d779820c11075264da2d6d4423932c6ebf7421f21793bc6650b85116", func := "loop.example/g00518/laws.FnMigrations", spec := "fnMigrations", unfollowed := true, recurses := true, apart := false, narrowed := true }
def FnMigrationsUptoSaid : Prop := fnMigrationsUptoRow.holds Try.pinned (OpenSpec.upto fnMigrationsSpec)

/-- 'laws.FnPrinting', WHERE WHAT IT READS IS OF BULK AT MOST 1048576: true; the input reads as it did. -/
def fnPrintingUptoRow : OpenClaim := { program := "ytodkkldopciagaa", sum := "f94e85b7d779820c11075264da2d6d4423932c6ebf7421f21793bc6650b85116", func := "loop.example/g00518/laws.FnPrinting", spec := "fnPrinting", unfollowed := true, recurses := true, apart := false, narrowed := true }
def FnPrintingUptoSaid : Prop := fnPrintingUptoRow.holds Try.pinned (OpenSpec.upto fnPrintingSpec)

end Rows
end Go.Proofs.Ytodkkldopciagaa
