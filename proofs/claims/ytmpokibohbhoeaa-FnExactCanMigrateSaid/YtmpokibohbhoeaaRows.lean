/-
  NARROWER THAN 'FOR EVERY INPUT', by the rows' own cells (each row's printed sentence says how): FnExactEncodedLength: loops · FnExactCanMigrate: loops · FnExactPrintValue: loops · FnExactPrintFile: loops · FnExactIsLossless: loops.
  DERIVED. THE GIVEN ROWS OF THIS SEAT. 10 by the template 'for every input the law returns true; each argument reads behind the call as it read before'; 0 by the template 'total and deterministic' (their statements: YtmpokibohbhoeaaTotals.lean).
  GIVEN WITH THE SEED: the statements are not yours to turn. If you find one false, say at which input.
  Laid BY PROGRAM, IN A SANDBOX (cutbox-rows.mjs): the forced cells as the released guide's own fill.sh prints them over the translation 5993ceee40d9194f… (all of the seat's roots in one cut). By AI agents, Wed Nov 11 2026. No macro, syntax, notation, axiom, sorry.
-/
import Derived.Test.YtmpokibohbhoeaaChecked
import GoSem.Claim
import GoSem.ClaimJoined
import GoSem.ClaimMapViews
import Derived.JoinedTies
import Derived.KernelRfl
namespace Go.Proofs.Ytmpokibohbhoeaa
/- THE CELL 'sum', in the pinned program and in every row, IS THE sha256 OF THE DUMP (.gsa) THAT YtmpokibohbhoeaaProg.lean LOADS. Nothing in Lean hashes anything: it is a label: what it is worth is what the hold of that sum in a sandbox is worth. -/
noncomputable def Try.pinned : Pinned := { name := "ytmpokibohbhoeaa", sum := "5993ceee40d9194f2206a694a29bf01d4b8aa62eb145f3bd6850d43a33c212da", checked := Try.checked }
namespace Rows
def none {H : Type} : Left H := { results := [], args := [] }

/-- 'laws.FnWorkBound': WHATEVER THE INPUT: true; the input reads as it did. -/
def fnWorkBoundSpec : ChangeSpec := { name := "fnWorkBound", fn := fun _ => fun
  | [d] => { results := [.lit (.bool true)], args := [d] }
  | _ => none }
def fnWorkBoundRow : OpenClaim := { program := "ytmpokibohbhoeaa", sum := "5993ceee40d9194f2206a694a29bf01d4b8aa62eb145f3bd6850d43a33c212da", func := "loop.example/g00518/laws.FnWorkBound", spec := "fnWorkBound", recurses := true, apart := false }
def FnWorkBoundSaid : Prop := fnWorkBoundRow.holds Try.pinned (OpenSpec.ofChange fnWorkBoundSpec)

/-- ITS FALSE NEIGHBOUR: 'it returns false'. Refute it at one input. -/
def fnWorkBoundWrong : ChangeSpec := { name := "fnWorkBound", fn := fun _ => fun
  | [d] => { results := [.lit (.bool false)], args := [d] }
  | _ => none }
def FnWorkBoundWrongFalsely : Prop := fnWorkBoundRow.holds Try.pinned (OpenSpec.ofChange fnWorkBoundWrong)

/-- 'laws.FnExactEncodedLength': WHATEVER THE INPUT: true; the input reads as it did. -/
def fnExactEncodedLengthSpec : ChangeSpec := { name := "fnExactEncodedLength", fn := fun _ => fun
  | [d1, d2, d3] => { results := [.lit (.bool true)], args := [d1, d2, d3] }
  | _ => none }
def fnExactEncodedLengthRow : OpenClaim := { program := "ytmpokibohbhoeaa", sum := "5993ceee40d9194f2206a694a29bf01d4b8aa62eb145f3bd6850d43a33c212da", func := "loop.example/g00518/laws.FnExactEncodedLength", spec := "fnExactEncodedLength", unfollowed := true, recurses := true, loops := true, apart := false }
def FnExactEncodedLengthSaid : Prop := fnExactEncodedLengthRow.holds Try.pinned (OpenSpec.ofChange fnExactEncodedLengthSpec)

/-- ITS FALSE NEIGHBOUR: 'it returns false'. Refute it at one input. -/
def fnExactEncodedLengthWrong : ChangeSpec := { name := "fnExactEncodedLength", fn := fun _ => fun
  | [d1, d2, d3] => { results := [.lit (.bool false)], args := [d1, d2, d3] }
  | _ => none }
def FnExactEncodedLengthWrongFalsely : Prop := fnExactEncodedLengthRow.holds Try.pinned (OpenSpec.ofChange fnExactEncodedLengthWrong)

/-- 'laws.FnExactTrimFile': WHATEVER THE INPUT: true; the input reads as it did. -/
def fnExactTrimFileSpec : ChangeSpec := { name := "fnExactTrimFile", fn := fun _ => fun
  | [d1, d2] => { results := [.lit (.bool true)], args := [d1, d2] }
  | _ => none }
def fnExactTrimFileRow : OpenClaim := { program := "ytmpokibohbhoeaa", sum := "5993ceee40d9194f2206a694a29bf01d4b8aa62eb145f3bd6850d43a33c212da", func := "loop.example/g00518/laws.FnExactTrimFile", spec := "fnExactTrimFile", recurses := true, apart := false }
def FnExactTrimFileSaid : Prop := fnExactTrimFileRow.holds Try.pinned (OpenSpec.ofChange fnExactTrimFileSpec)

/-- ITS FALSE NEIGHBOUR: 'it returns false'. Refute it at one input. -/
def fnExactTrimFileWrong : ChangeSpec := { name := "fnExactTrimFile", fn := fun _ => fun
  | [d1, d2] => { results := [.lit (.bool false)], args := [d1, d2] }
  | _ => none }
def FnExactTrimFileWrongFalsely : Prop := fnExactTrimFileRow.holds Try.pinned (OpenSpec.ofChange fnExactTrimFileWrong)

/-- 'laws.FnValidator': WHATEVER THE INPUT: true; the input reads as it did. -/
def fnValidatorSpec : ChangeSpec := { name := "fnValidator", fn := fun _ => fun
  | [d] => { results := [.lit (.bool true)], args := [d] }
  | _ => none }
def fnValidatorRow : OpenClaim := { program := "ytmpokibohbhoeaa", sum := "5993ceee40d9194f2206a694a29bf01d4b8aa62eb145f3bd6850d43a33c212da", func := "loop.example/g00518/laws.FnValidator", spec := "fnValidator", recurses := true, apart := false }
def FnValidatorSaid : Prop := fnValidatorRow.holds Try.pinned (OpenSpec.ofChange fnValidatorSpec)

/-- ITS FALSE NEIGHBOUR: 'it returns false'. Refute it at one input. -/
def fnValidatorWrong : ChangeSpec := { name := "fnValidator", fn := fun _ => fun
  | [d] => { results := [.lit (.bool false)], args := [d] }
  | _ => none }
def FnValidatorWrongFalsely : Prop := fnValidatorRow.holds Try.pinned (OpenSpec.ofChange fnValidatorWrong)

/-- 'laws.FnExactCanMigrate': WHATEVER THE INPUT: true; the input reads as it did. -/
def fnExactCanMigrateSpec : ChangeSpec := { name := "fnExactCanMigrate", fn := fun _ => fun
  | [d1, d2, d3] => { results := [.lit (.bool true)], args := [d1, d2, d3] }
  | _ => none }
def fnExactCanMigrateRow : OpenClaim := { program := "ytmpokibohbhoeaa", sum := "5993ceee40d9194f2206a694a29bf01d4b8aa62eb145f3bd6850d43a33c212da", func := "loop.example/g00518/laws.FnExactCanMigrate", spec := "fnExactCanMigrate", unfollowed := true, recurses := true, loops := true, apart := false }
def FnExactCanMigrateSaid : Prop := fnExactCanMigrateRow.holds Try.pinned (OpenSpec.ofChange fnExactCanMigrateSpec)

/-- ITS FALSE NEIGHBOUR: 'it returns false'. Refute it at one input. -/
def fnExactCanMigrateWrong : ChangeSpec := { name := "fnExactCanMigrate", fn := fun _ => fun
  | [d1, d2, d3] => { results := [.lit (.bool false)], args := [d1, d2, d3] }
  | _ => none }
def FnExactCanMigrateWrongFalsely : Prop := fnExactCanMigrateRow.holds Try.pinned (OpenSpec.ofChange fnExactCanMigrateWrong)

/-- 'laws.FnExactPrintValue': WHATEVER THE INPUT: true; the input reads as it did. -/
def fnExactPrintValueSpec : ChangeSpec := { name := "fnExactPrintValue", fn := fun _ => fun
  | [d1, d2, d3] => { results := [.lit (.bool true)], args := [d1, d2, d3] }
  | _ => none }
def fnExactPrintValueRow : OpenClaim := { program := "ytmpokibohbhoeaa", sum := "5993ceee40d9194f2206a694a29bf01d4b8aa62eb145f3bd6850d43a33c212da", func := "loop.example/g00518/laws.FnExactPrintValue", spec := "fnExactPrintValue", unfollowed := true, recurses := true, loops := true, apart := false }
def FnExactPrintValueSaid : Prop := fnExactPrintValueRow.holds Try.pinned (OpenSpec.ofChange fnExactPrintValueSpec)

/-- ITS FALSE NEIGHBOUR: 'it returns false'. Refute it at one input. -/
def fnExactPrintValueWrong : ChangeSpec := { name := "fnExactPrintValue", fn := fun _ => fun
  | [d1, d2, d3] => { results := [.lit (.bool false)], args := [d1, d2, d3] }
  | _ => none }
def FnExactPrintValueWrongFalsely : Prop := fnExactPrintValueRow.holds Try.pinned (OpenSpec.ofChange fnExactPrintValueWrong)

/-- 'laws.FnExactPrintFile': WHATEVER THE INPUT: true; the input reads as it did. -/
def fnExactPrintFileSpec : ChangeSpec := { name := "fnExactPrintFile", fn := fun _ => fun
  | [d1, d2] => { results := [.lit (.bool true)], args := [d1, d2] }
  | _ => none }
def fnExactPrintFileRow : OpenClaim := { program := "ytmpokibohbhoeaa", sum := "5993ceee40d9194f2206a694a29bf01d4b8aa62eb145f3bd6850d43a33c212da", func := "loop.example/g00518/laws.FnExactPrintFile", spec := "fnExactPrintFile", unfollowed := true, recurses := true, loops := true, apart := false }
def FnExactPrintFileSaid : Prop := fnExactPrintFileRow.holds Try.pinned (OpenSpec.ofChange fnExactPrintFileSpec)

/-- ITS FALSE NEIGHBOUR: 'it returns false'. Refute it at one input. -/
def fnExactPrintFileWrong : ChangeSpec := { name := "fnExactPrintFile", fn := fun _ => fun
  | [d1, d2] => { results := [.lit (.bool false)], args := [d1, d2] }
  | _ => none }
def FnExactPrintFileWrongFalsely : Prop := fnExactPrintFileRow.holds Try.pinned (OpenSpec.ofChange fnExactPrintFileWrong)

/-- 'laws.FnPrefixes': WHATEVER THE INPUT: true; the input reads as it did. -/
def fnPrefixesSpec : ChangeSpec := { name := "fnPrefixes", fn := fun _ => fun
  | [d] => { results := [.lit (.bool true)], args := [d] }
  | _ => none }
def fnPrefixesRow : OpenClaim := { program := "ytmpokibohbhoeaa", sum := "5993ceee40d9194f2206a694a29bf01d4b8aa62eb145f3bd6850d43a33c212da", func := "loop.example/g00518/laws.FnPrefixes", spec := "fnPrefixes", unfollowed := true, recurses := true, apart := false }
def FnPrefixesSaid : Prop := fnPrefixesRow.holds Try.pinned (OpenSpec.ofChange fnPrefixesSpec)

/-- ITS FALSE NEIGHBOUR: 'it returns false'. Refute it at one input. -/
def fnPrefixesWrong : ChangeSpec := { name := "fnPrefixes", fn := fun _ => fun
  | [d] => { results := [.lit (.bool false)], args := [d] }
  | _ => none }
def FnPrefixesWrongFalsely : Prop := fnPrefixesRow.holds Try.pinned (OpenSpec.ofChange fnPrefixesWrong)

/-- 'laws.FnExactSmallestFile': WHATEVER THE INPUT: true; the input reads as it did. -/
def fnExactSmallestFileSpec : ChangeSpec := { name := "fnExactSmallestFile", fn := fun _ => fun
  | [d] => { results := [.lit (.bool true)], args := [d] }
  | _ => none }
def fnExactSmallestFileRow : OpenClaim := { program := "ytmpokibohbhoeaa", sum := "5993ceee40d9194f2206a694a29bf01d4b8aa62eb145f3bd6850d43a33c212da", func := "loop.example/g00518/laws.FnExactSmallestFile", spec := "fnExactSmallestFile", unfollowed := true, recurses := true, apart := false }
def FnExactSmallestFileSaid : Prop := fnExactSmallestFileRow.holds Try.pinned (OpenSpec.ofChange fnExactSmallestFileSpec)

/-- ITS FALSE NEIGHBOUR: 'it returns false'. Refute it at one input. -/
def fnExactSmallestFileWrong : ChangeSpec := { name := "fnExactSmallestFile", fn := fun _ => fun
  | [d] => { results := [.lit (.bool false)], args := [d] }
  | _ => none }
def FnExactSmallestFileWrongFalsely : Prop := fnExactSmallestFileRow.holds Try.pinned (OpenSpec.ofChange fnExactSmallestFileWrong)

/-- 'laws.FnExactIsLossless': WHATEVER THE INPUT: true; the input reads as it did. -/
def fnExactIsLosslessSpec : ChangeSpec := { name := "fnExactIsLossless", fn := fun _ => fun
  | [d1, d2, d3] => { results := [.lit (.bool true)], args := [d1, d2, d3] }
  | _ => none }
def fnExactIsLosslessRow : OpenClaim := { program := "ytmpokibohbhoeaa", sum := "5993ceee40d9194f2206a694a29bf01d4b8aa62eb145f3bd6850d43a33c212da", func := "loop.example/g00518/laws.FnExactIsLossless", spec := "fnExactIsLossless", unfollowed := true, recurses := true, loops := true, apart := false }
def FnExactIsLosslessSaid : Prop := fnExactIsLosslessRow.holds Try.pinned (OpenSpec.ofChange fnExactIsLosslessSpec)

/-- ITS FALSE NEIGHBOUR: 'it returns false'. Refute it at one input. -/
def fnExactIsLosslessWrong : ChangeSpec := { name := "fnExactIsLossless", fn := fun _ => fun
  | [d1, d2, d3] => { results := [.lit (.bool false)], args := [d1, d2, d3] }
  | _ => none }
def FnExactIsLosslessWrongFalsely : Prop := fnExactIsLosslessRow.holds Try.pinned (OpenSpec.ofChange fnExactIsLosslessWrong)

/- THE SECOND FORM. 'bulk': how many values and letters a reading holds, each counted each time it is reached (what is shared counts as often as it is met; a slice's spare places count too). A statement '..UptoSaid' is the law's where the arguments, and the package variables that the reading takes, are together of bulk at most 1048576: NARROWER than '..Said'. Prove '..Said' where nothing that the law and all that it calls make is longer than what came in: it says more and counts as full. Else prove '..UptoSaid'. A law counts once. -/
mutual
def uptoBulk {H : Type} : DataW H → Nat
  | .lit (.string bytes) => bytes.length + 1
  | .lit _ => 1
  | .nil => 1
  | .ptr d => uptoBulk d + 1
  | .slice elems spare => uptoBulkAll elems + uptoBulkAll spare + 1
  | .agg parts => uptoBulkAll parts + 1
  | .iface _ d => uptoBulk d + 1
  | .map entries => uptoBulkEntries entries + 1
  | .held _ => 1
def uptoBulkAll {H : Type} : List (DataW H) → Nat
  | [] => 0
  | d :: r => uptoBulk d + uptoBulkAll r
def uptoBulkEntries {H : Type} : List (Lit × DataW H) → Nat
  | [] => 0
  | x :: r => uptoBulkEntry x + uptoBulkEntries r
def uptoBulkEntry {H : Type} : Lit × DataW H → Nat
  | (.string bytes, d) => bytes.length + uptoBulk d + 1
  | (_, d) => uptoBulk d + 1
 end
def uptoSmall : (H : Type) → List (DataW H) → Bool := fun _ ds => decide (uptoBulkAll ds ≤ 1048576)
def OpenSpec.upto (s : _root_.Go.ChangeSpec) : _root_.Go.OpenSpec := { _root_.Go.OpenSpec.ofChange s with cond := some uptoSmall }

/-- 'laws.FnWorkBound', WHERE WHAT IT READS IS OF BULK AT MOST 1048576: true; the input reads as it did. -/
def fnWorkBoundUptoRow : OpenClaim := { program := "ytmpokibohbhoeaa", sum := "5993ceee40d9194f2206a694a29bf01d4b8aa62eb145f3bd6850d43a33c212da", func := "loop.example/g00518/laws.FnWorkBound", spec := "fnWorkBound", recurses := true, apart := false, narrowed := true }
def FnWorkBoundUptoSaid : Prop := fnWorkBoundUptoRow.holds Try.pinned (OpenSpec.upto fnWorkBoundSpec)

/-- 'laws.FnExactEncodedLength', WHERE WHAT IT READS IS OF BULK AT MOST 1048576: true; the input reads as it did. -/
def fnExactEncodedLengthUptoRow : OpenClaim := { program := "ytmpokibohbhoeaa", sum := "5993ceee40d9194f2206a694a29bf01d4b8aa62eb145f3bd6850d43a33c212da", func := "loop.example/g00518/laws.FnExactEncodedLength", spec := "fnExactEncodedLength", unfollowed := true, recurses := true, loops := true, apart := false, narrowed := true }
def FnExactEncodedLengthUptoSaid : Prop := fnExactEncodedLengthUptoRow.holds Try.pinned (OpenSpec.upto fnExactEncodedLengthSpec)

/-- 'laws.FnExactTrimFile', WHERE WHAT IT READS IS OF BULK AT MOST 1048576: true; the input reads as it did. -/
def fnExactTrimFileUptoRow : OpenClaim := { program := "ytmpokibohbhoeaa", sum := "5993ceee40d9194f2206a694a29bf01d4b8aa62eb145f3bd6850d43a33c212da", func := "loop.example/g00518/laws.FnExactTrimFile", spec := "fnExactTrimFile", recurses := true, apart := false, narrowed := true }
def FnExactTrimFileUptoSaid : Prop := fnExactTrimFileUptoRow.holds Try.pinned (OpenSpec.upto fnExactTrimFileSpec)

/-- 'laws.FnValidator', WHERE WHAT IT READS IS OF BULK AT MOST 1048576: true; the input reads as it did. -/
def fnValidatorUptoRow : OpenClaim := { program := "ytmpokibohbhoeaa", sum := "5993ceee40d9194f2206a694a29bf01d4b8aa62eb145f3bd6850d43a33c212da", func := "loop.example/g00518/laws.FnValidator", spec := "fnValidator", recurses := true, apart := false, narrowed := true }
def FnValidatorUptoSaid : Prop := fnValidatorUptoRow.holds Try.pinned (OpenSpec.upto fnValidatorSpec)

/-- 'laws.FnExactCanMigrate', WHERE WHAT IT READS IS OF BULK AT MOST 1048576: true; the input reads as it did. -/
def fnExactCanMigrateUptoRow : OpenClaim := { program := "ytmpokibohbhoeaa", sum := "5993ceee40d9194f2206a694a29bf01d4b8aa62eb145f3bd6850d43a33c212da", func := "loop.example/g00518/laws.FnExactCanMigrate", spec := "fnExactCanMigrate", unfollowed := true, recurses := true, loops := true, apart := false, narrowed := true }
def FnExactCanMigrateUptoSaid : Prop := fnExactCanMigrateUptoRow.holds Try.pinned (OpenSpec.upto fnExactCanMigrateSpec)

/-- 'laws.FnExactPrintValue', WHERE WHAT IT READS IS OF BULK AT MOST 1048576: true; the input reads as it did. -/
def fnExactPrintValueUptoRow : OpenClaim := { program := "ytmpokibohbhoeaa", sum := "5993ceee40d9194f2206a694a29bf01d4b8aa62eb145f3bd6850d43a33c212da", func := "loop.example/g00518/laws.FnExactPrintValue", spec := "fnExactPrintValue", unfollowed := true, recurses := true, loops := true, apart := false, narrowed := true }
def FnExactPrintValueUptoSaid : Prop := fnExactPrintValueUptoRow.holds Try.pinned (OpenSpec.upto fnExactPrintValueSpec)

/-- 'laws.FnExactPrintFile', WHERE WHAT IT READS IS OF BULK AT MOST 1048576: true; the input reads as it did. -/
def fnExactPrintFileUptoRow : OpenClaim := { program := "ytmpokibohbhoeaa", sum := "5993ceee40d9194f2206a694a29bf01d4b8aa62eb145f3bd6850d43a33c212da", func := "loop.example/g00518/laws.FnExactPrintFile", spec := "fnExactPrintFile", unfollowed := true, recurses := true, loops := true, apart := false, narrowed := true }
def FnExactPrintFileUptoSaid : Prop := fnExactPrintFileUptoRow.holds Try.pinned (OpenSpec.upto fnExactPrintFileSpec)

/-- 'laws.FnPrefixes', WHERE WHAT IT READS IS OF BULK AT MOST 1048576: true; the input reads as it did. -/
def fnPrefixesUptoRow : OpenClaim := { program := "ytmpokibohbhoeaa", sum := "5993ceee40d9194f2206a694a29bf01d4b8aa62eb145f3bd6850d43a33c212da", func := "loop.example/g00518/laws.FnPrefixes", spec := "fnPrefixes", unfollowed := true, recurses := true, apart := false, narrowed := true }
def FnPrefixesUptoSaid : Prop := fnPrefixesUptoRow.holds Try.pinned (OpenSpec.upto fnPrefixesSpec)

/-- 'laws.FnExactSmallestFile', WHERE WHAT IT READS IS OF BULK AT MOST 1048576: true; the input reads as it did. -/
def fnExactSmallestFileUptoRow : OpenClaim := { program := "ytmpokibohbhoeaa", sum := "5993ceee40d9194f2206a694a29bf01d4b8aa62eb145f3bd6850d43a33c212da", func := "loop.example/g00518/laws.FnExactSmallestFile", spec := "fnExactSmallestFile", unfollowed := true, recurses := true, apart := false, narrowed := true }
def FnExactSmallestFileUptoSaid : Prop := fnExactSmallestFileUptoRow.holds Try.pinned (OpenSpec.upto fnExactSmallestFileSpec)

/-- 'laws.FnExactIsLossless', WHERE WHAT IT READS IS OF BULK AT MOST 1048576: true; the input reads as it did. -/
def fnExactIsLosslessUptoRow : OpenClaim := { program := "ytmpokibohbhoeaa", sum := "5993ceee40d9194f2206a694a29bf01d4b8aa62eb145f3bd6850d43a33c212da", func := "loop.example/g00518/laws.FnExactIsLossless", spec := "fnExactIsLossless", unfollowed := true, recurses := true, loops := true, apart := false, narrowed := true }
def FnExactIsLosslessUptoSaid : Prop := fnExactIsLosslessUptoRow.holds Try.pinned (OpenSpec.upto fnExactIsLosslessSpec)

end Rows
end Go.Proofs.Ytmpokibohbhoeaa
