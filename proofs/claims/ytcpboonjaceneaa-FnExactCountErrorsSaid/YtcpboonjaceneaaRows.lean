/-
  No cell of these rows narrows 'for every input' (looked for: loops, veiled, ifaces, maps, wideKeys, modest, calm, conditions, laid).
  DERIVED. THE GIVEN ROWS OF THIS SEAT. 10 by the template 'for every input the law returns true; each argument reads behind the call as it read before'; 0 by the template 'total and deterministic' (their statements: YtcpboonjaceneaaTotals.lean).
  GIVEN WITH THE SEED: the statements are not yours to turn. If you find one false, say at which input.
  Laid BY PROGRAM, IN A SANDBOX (cutbox-rows.mjs): the forced cells as the released guide's own fill.sh prints them over the translation baad3eeafbdee738… (all of the seat's roots in one cut). By AI agents, Wed Nov 11 2026. No macro, syntax, notation, axiom, sorry.
-/
import Derived.Test.YtcpboonjaceneaaChecked
import GoSem.Claim
import GoSem.ClaimJoined
import GoSem.ClaimMapViews
import Derived.JoinedTies
import Derived.KernelRfl
namespace Go.Proofs.Ytcpboonjaceneaa
/- THE CELL 'sum', in the pinned program and in every row, IS THE sha256 OF THE DUMP (.gsa) THAT YtcpboonjaceneaaProg.lean LOADS. Nothing in Lean hashes anything: it is a label: what it is worth is what the hold of that sum in a sandbox is worth. -/
noncomputable def Try.pinned : Pinned := { name := "ytcpboonjaceneaa", sum := "baad3eeafbdee73863426b77dafd0db00551864bd7b5e6a08b853f5e15fd2cfd", checked := Try.checked }
namespace Rows
def none {H : Type} : Left H := { results := [], args := [] }

/-- 'laws.FnWorkBound': WHATEVER THE INPUT: true; the input reads as it did. -/
def fnWorkBoundSpec : ChangeSpec := { name := "fnWorkBound", fn := fun _ => fun
  | [d] => { results := [.lit (.bool true)], args := [d] }
  | _ => none }
def fnWorkBoundRow : OpenClaim := { program := "ytcpboonjaceneaa", sum := "baad3eeafbdee73863426b77dafd0db00551864bd7b5e6a08b853f5e15fd2cfd", func := "loop.example/g00518/laws.FnWorkBound", spec := "fnWorkBound", recurses := true, apart := false }
def FnWorkBoundSaid : Prop := fnWorkBoundRow.holds Try.pinned (OpenSpec.ofChange fnWorkBoundSpec)

/-- ITS FALSE NEIGHBOUR: 'it returns false'. Refute it at one input. -/
def fnWorkBoundWrong : ChangeSpec := { name := "fnWorkBound", fn := fun _ => fun
  | [d] => { results := [.lit (.bool false)], args := [d] }
  | _ => none }
def FnWorkBoundWrongFalsely : Prop := fnWorkBoundRow.holds Try.pinned (OpenSpec.ofChange fnWorkBoundWrong)

/-- 'laws.FnExactCheckValue': WHATEVER THE INPUT: true; the input reads as it did. -/
def fnExactCheckValueSpec : ChangeSpec := { name := "fnExactCheckValue", fn := fun _ => fun
  | [d1, d2, d3, d4] => { results := [.lit (.bool true)], args := [d1, d2, d3, d4] }
  | _ => none }
def fnExactCheckValueRow : OpenClaim := { program := "ytcpboonjaceneaa", sum := "baad3eeafbdee73863426b77dafd0db00551864bd7b5e6a08b853f5e15fd2cfd", func := "loop.example/g00518/laws.FnExactCheckValue", spec := "fnExactCheckValue", recurses := true, apart := false }
def FnExactCheckValueSaid : Prop := fnExactCheckValueRow.holds Try.pinned (OpenSpec.ofChange fnExactCheckValueSpec)

/-- ITS FALSE NEIGHBOUR: 'it returns false'. Refute it at one input. -/
def fnExactCheckValueWrong : ChangeSpec := { name := "fnExactCheckValue", fn := fun _ => fun
  | [d1, d2, d3, d4] => { results := [.lit (.bool false)], args := [d1, d2, d3, d4] }
  | _ => none }
def FnExactCheckValueWrongFalsely : Prop := fnExactCheckValueRow.holds Try.pinned (OpenSpec.ofChange fnExactCheckValueWrong)

/-- 'laws.FnExactCheckFile': WHATEVER THE INPUT: true; the input reads as it did. -/
def fnExactCheckFileSpec : ChangeSpec := { name := "fnExactCheckFile", fn := fun _ => fun
  | [d1, d2] => { results := [.lit (.bool true)], args := [d1, d2] }
  | _ => none }
def fnExactCheckFileRow : OpenClaim := { program := "ytcpboonjaceneaa", sum := "baad3eeafbdee73863426b77dafd0db00551864bd7b5e6a08b853f5e15fd2cfd", func := "loop.example/g00518/laws.FnExactCheckFile", spec := "fnExactCheckFile", recurses := true, apart := false }
def FnExactCheckFileSaid : Prop := fnExactCheckFileRow.holds Try.pinned (OpenSpec.ofChange fnExactCheckFileSpec)

/-- ITS FALSE NEIGHBOUR: 'it returns false'. Refute it at one input. -/
def fnExactCheckFileWrong : ChangeSpec := { name := "fnExactCheckFile", fn := fun _ => fun
  | [d1, d2] => { results := [.lit (.bool false)], args := [d1, d2] }
  | _ => none }
def FnExactCheckFileWrongFalsely : Prop := fnExactCheckFileRow.holds Try.pinned (OpenSpec.ofChange fnExactCheckFileWrong)

/-- 'laws.FnExactValidPrefix': WHATEVER THE INPUT: true; the input reads as it did. -/
def fnExactValidPrefixSpec : ChangeSpec := { name := "fnExactValidPrefix", fn := fun _ => fun
  | [d1, d2] => { results := [.lit (.bool true)], args := [d1, d2] }
  | _ => none }
def fnExactValidPrefixRow : OpenClaim := { program := "ytcpboonjaceneaa", sum := "baad3eeafbdee73863426b77dafd0db00551864bd7b5e6a08b853f5e15fd2cfd", func := "loop.example/g00518/laws.FnExactValidPrefix", spec := "fnExactValidPrefix", recurses := true, apart := false }
def FnExactValidPrefixSaid : Prop := fnExactValidPrefixRow.holds Try.pinned (OpenSpec.ofChange fnExactValidPrefixSpec)

/-- ITS FALSE NEIGHBOUR: 'it returns false'. Refute it at one input. -/
def fnExactValidPrefixWrong : ChangeSpec := { name := "fnExactValidPrefix", fn := fun _ => fun
  | [d1, d2] => { results := [.lit (.bool false)], args := [d1, d2] }
  | _ => none }
def FnExactValidPrefixWrongFalsely : Prop := fnExactValidPrefixRow.holds Try.pinned (OpenSpec.ofChange fnExactValidPrefixWrong)

/-- 'laws.FnExactCountApplications': WHATEVER THE INPUT: true; the input reads as it did. -/
def fnExactCountApplicationsSpec : ChangeSpec := { name := "fnExactCountApplications", fn := fun _ => fun
  | [d1, d2] => { results := [.lit (.bool true)], args := [d1, d2] }
  | _ => none }
def fnExactCountApplicationsRow : OpenClaim := { program := "ytcpboonjaceneaa", sum := "baad3eeafbdee73863426b77dafd0db00551864bd7b5e6a08b853f5e15fd2cfd", func := "loop.example/g00518/laws.FnExactCountApplications", spec := "fnExactCountApplications", recurses := true, apart := false }
def FnExactCountApplicationsSaid : Prop := fnExactCountApplicationsRow.holds Try.pinned (OpenSpec.ofChange fnExactCountApplicationsSpec)

/-- ITS FALSE NEIGHBOUR: 'it returns false'. Refute it at one input. -/
def fnExactCountApplicationsWrong : ChangeSpec := { name := "fnExactCountApplications", fn := fun _ => fun
  | [d1, d2] => { results := [.lit (.bool false)], args := [d1, d2] }
  | _ => none }
def FnExactCountApplicationsWrongFalsely : Prop := fnExactCountApplicationsRow.holds Try.pinned (OpenSpec.ofChange fnExactCountApplicationsWrong)

/-- 'laws.FnExactLongestValidPrefix': WHATEVER THE INPUT: true; the input reads as it did. -/
def fnExactLongestValidPrefixSpec : ChangeSpec := { name := "fnExactLongestValidPrefix", fn := fun _ => fun
  | [d1, d2] => { results := [.lit (.bool true)], args := [d1, d2] }
  | _ => none }
def fnExactLongestValidPrefixRow : OpenClaim := { program := "ytcpboonjaceneaa", sum := "baad3eeafbdee73863426b77dafd0db00551864bd7b5e6a08b853f5e15fd2cfd", func := "loop.example/g00518/laws.FnExactLongestValidPrefix", spec := "fnExactLongestValidPrefix", unfollowed := true, recurses := true, apart := false }
def FnExactLongestValidPrefixSaid : Prop := fnExactLongestValidPrefixRow.holds Try.pinned (OpenSpec.ofChange fnExactLongestValidPrefixSpec)

/-- ITS FALSE NEIGHBOUR: 'it returns false'. Refute it at one input. -/
def fnExactLongestValidPrefixWrong : ChangeSpec := { name := "fnExactLongestValidPrefix", fn := fun _ => fun
  | [d1, d2] => { results := [.lit (.bool false)], args := [d1, d2] }
  | _ => none }
def FnExactLongestValidPrefixWrongFalsely : Prop := fnExactLongestValidPrefixRow.holds Try.pinned (OpenSpec.ofChange fnExactLongestValidPrefixWrong)

/-- 'laws.FnExactCountErrors': WHATEVER THE INPUT: true; the input reads as it did. -/
def fnExactCountErrorsSpec : ChangeSpec := { name := "fnExactCountErrors", fn := fun _ => fun
  | [d1, d2, d3] => { results := [.lit (.bool true)], args := [d1, d2, d3] }
  | _ => none }
def fnExactCountErrorsRow : OpenClaim := { program := "ytcpboonjaceneaa", sum := "baad3eeafbdee73863426b77dafd0db00551864bd7b5e6a08b853f5e15fd2cfd", func := "loop.example/g00518/laws.FnExactCountErrors", spec := "fnExactCountErrors", recurses := true, apart := false }
def FnExactCountErrorsSaid : Prop := fnExactCountErrorsRow.holds Try.pinned (OpenSpec.ofChange fnExactCountErrorsSpec)

/-- ITS FALSE NEIGHBOUR: 'it returns false'. Refute it at one input. -/
def fnExactCountErrorsWrong : ChangeSpec := { name := "fnExactCountErrors", fn := fun _ => fun
  | [d1, d2, d3] => { results := [.lit (.bool false)], args := [d1, d2, d3] }
  | _ => none }
def FnExactCountErrorsWrongFalsely : Prop := fnExactCountErrorsRow.holds Try.pinned (OpenSpec.ofChange fnExactCountErrorsWrong)

/-- 'laws.FnExactTrimFile': WHATEVER THE INPUT: true; the input reads as it did. -/
def fnExactTrimFileSpec : ChangeSpec := { name := "fnExactTrimFile", fn := fun _ => fun
  | [d1, d2] => { results := [.lit (.bool true)], args := [d1, d2] }
  | _ => none }
def fnExactTrimFileRow : OpenClaim := { program := "ytcpboonjaceneaa", sum := "baad3eeafbdee73863426b77dafd0db00551864bd7b5e6a08b853f5e15fd2cfd", func := "loop.example/g00518/laws.FnExactTrimFile", spec := "fnExactTrimFile", recurses := true, apart := false }
def FnExactTrimFileSaid : Prop := fnExactTrimFileRow.holds Try.pinned (OpenSpec.ofChange fnExactTrimFileSpec)

/-- ITS FALSE NEIGHBOUR: 'it returns false'. Refute it at one input. -/
def fnExactTrimFileWrong : ChangeSpec := { name := "fnExactTrimFile", fn := fun _ => fun
  | [d1, d2] => { results := [.lit (.bool false)], args := [d1, d2] }
  | _ => none }
def FnExactTrimFileWrongFalsely : Prop := fnExactTrimFileRow.holds Try.pinned (OpenSpec.ofChange fnExactTrimFileWrong)

/-- 'laws.FnValidator': WHATEVER THE INPUT: true; the input reads as it did. -/
def fnValidatorSpec : ChangeSpec := { name := "fnValidator", fn := fun _ => fun
  | [d] => { results := [.lit (.bool true)], args := [d] }
  | _ => none }
def fnValidatorRow : OpenClaim := { program := "ytcpboonjaceneaa", sum := "baad3eeafbdee73863426b77dafd0db00551864bd7b5e6a08b853f5e15fd2cfd", func := "loop.example/g00518/laws.FnValidator", spec := "fnValidator", recurses := true, apart := false }
def FnValidatorSaid : Prop := fnValidatorRow.holds Try.pinned (OpenSpec.ofChange fnValidatorSpec)

/-- ITS FALSE NEIGHBOUR: 'it returns false'. Refute it at one input. -/
def fnValidatorWrong : ChangeSpec := { name := "fnValidator", fn := fun _ => fun
  | [d] => { results := [.lit (.bool false)], args := [d] }
  | _ => none }
def FnValidatorWrongFalsely : Prop := fnValidatorRow.holds Try.pinned (OpenSpec.ofChange fnValidatorWrong)

/-- 'laws.FnPrefixes': WHATEVER THE INPUT: true; the input reads as it did. -/
def fnPrefixesSpec : ChangeSpec := { name := "fnPrefixes", fn := fun _ => fun
  | [d] => { results := [.lit (.bool true)], args := [d] }
  | _ => none }
def fnPrefixesRow : OpenClaim := { program := "ytcpboonjaceneaa", sum := "baad3eeafbdee73863426b77dafd0db00551864bd7b5e6a08b853f5e15fd2cfd", func := "loop.example/g00518/laws.FnPrefixes", spec := "fnPrefixes", unfollowed := true, recurses := true, apart := false }
def FnPrefixesSaid : Prop := fnPrefixesRow.holds Try.pinned (OpenSpec.ofChange fnPrefixesSpec)

/-- ITS FALSE NEIGHBOUR: 'it returns false'. Refute it at one input. -/
def fnPrefixesWrong : ChangeSpec := { name := "fnPrefixes", fn := fun _ => fun
  | [d] => { results := [.lit (.bool false)], args := [d] }
  | _ => none }
def FnPrefixesWrongFalsely : Prop := fnPrefixesRow.holds Try.pinned (OpenSpec.ofChange fnPrefixesWrong)

/- THE SECOND FORM. 'bulk': how many values and letters a reading holds, each counted each time it is reached (what is shared counts as often as it is met; a slice's spare places count too). A statement '..UptoSaid' is the law's where the arguments, and the package variables that the reading takes, are together of bulk at most 1048576: NARROWER than '..Said'. Prove '..Said' where nothing that the law and all that it calls make is longer than what came in: it says more and counts as full. Else prove '..UptoSaid'. A law counts once. -/
mutual
def uptoBulk {H : Type} : DataW H → Nat
  | .lit (.string bytes) => bytes.length + 1
  | .lit _ => 1
  | .nil => 1
  | .ptr d => uptoBulk d + 1
  | .slice elems spare => uptoBulkAll elems + uptoBulkAll spare + 1
  | .agg parts => uptoBulkAll parts + 1
  | .iface _ d => uptoBulk d + 1
  | .map entries => uptoBulkEntries entries + 1
  | .held _ => 1
def uptoBulkAll {H : Type} : List (DataW H) → Nat
  | [] => 0
  | d :: r => uptoBulk d + uptoBulkAll r
def uptoBulkEntries {H : Type} : List (Lit × DataW H) → Nat
  | [] => 0
  | x :: r => uptoBulkEntry x + uptoBulkEntries r
def uptoBulkEntry {H : Type} : Lit × DataW H → Nat
  | (.string bytes, d) => bytes.length + uptoBulk d + 1
  | (_, d) => uptoBulk d + 1
 end
def uptoSmall : (H : Type) → List (DataW H) → Bool := fun _ ds => decide (uptoBulkAll ds ≤ 1048576)
def OpenSpec.upto (s : _root_.Go.ChangeSpec) : _root_.Go.OpenSpec := { _root_.Go.OpenSpec.ofChange s with cond := some uptoSmall }

/-- 'laws.FnWorkBound', WHERE WHAT IT READS IS OF BULK AT MOST 1048576: true; the input reads as it did. -/
def fnWorkBoundUptoRow : OpenClaim := { program := "ytcpboonjaceneaa", sum := "baad3eeafbdee73863426b77dafd0db00551864bd7b5e6a08b853f5e15fd2cfd", func := "loop.example/g00518/laws.FnWorkBound", spec := "fnWorkBound", recurses := true, apart := false, narrowed := true }
def FnWorkBoundUptoSaid : Prop := fnWorkBoundUptoRow.holds Try.pinned (OpenSpec.upto fnWorkBoundSpec)

/-- 'laws.FnExactCheckValue', WHERE WHAT IT READS IS OF BULK AT MOST 1048576: true; the input reads as it did. -/
def fnExactCheckValueUptoRow : OpenClaim := { program := "ytcpboonjaceneaa", sum := "baad3eeafbdee73863426b77dafd0db00551864bd7b5e6a08b853f5e15fd2cfd", func := "loop.example/g00518/laws.FnExactCheckValue", spec := "fnExactCheckValue", recurses := true, apart := false, narrowed := true }
def FnExactCheckValueUptoSaid : Prop := fnExactCheckValueUptoRow.holds Try.pinned (OpenSpec.upto fnExactCheckValueSpec)

/-- 'laws.FnExactCheckFile', WHERE WHAT IT READS IS OF BULK AT MOST 1048576: true; the input reads as it did. -/
def fnExactCheckFileUptoRow : OpenClaim := { program := "ytcpboonjaceneaa", sum := "baad3eeafbdee73863426b77dafd0db00551864bd7b5e6a08b853f5e15fd2cfd", func := "loop.example/g00518/laws.FnExactCheckFile", spec := "fnExactCheckFile", recurses := true, apart := false, narrowed := true }
def FnExactCheckFileUptoSaid : Prop := fnExactCheckFileUptoRow.holds Try.pinned (OpenSpec.upto fnExactCheckFileSpec)

/-- 'laws.FnExactValidPrefix', WHERE WHAT IT READS IS OF BULK AT MOST 1048576: true; the input reads as it did. -/
def fnExactValidPrefixUptoRow : OpenClaim := { program := "ytcpboonjaceneaa", sum := "baad3eeafbdee73863426b77dafd0db00551864bd7b5e6a08b853f5e15fd2cfd", func := "loop.example/g00518/laws.FnExactValidPrefix", spec := "fnExactValidPrefix", recurses := true, apart := false, narrowed := true }
def FnExactValidPrefixUptoSaid : Prop := fnExactValidPrefixUptoRow.holds Try.pinned (OpenSpec.upto fnExactValidPrefixSpec)

/-- 'laws.FnExactCountApplications', WHERE WHAT IT READS IS OF BULK AT MOST 1048576: true; the input reads as it did. -/
def fnExactCountApplicationsUptoRow : OpenClaim := { program := "ytcpboonjaceneaa", sum := "baad3eeafbdee73863426b77dafd0db00551864bd7b5e6a08b853f5e15fd2cfd", func := "loop.example/g00518/laws.FnExactCountApplications", spec := "fnExactCountApplications", recurses := true, apart := false, narrowed := true }
def FnExactCountApplicationsUptoSaid : Prop := fnExactCountApplicationsUptoRow.holds Try.pinned (OpenSpec.upto fnExactCountApplicationsSpec)

/-- 'laws.FnExactLongestValidPrefix', WHERE WHAT IT READS IS OF BULK AT MOST 1048576: true; the input reads as it did. -/
def fnExactLongestValidPrefixUptoRow : OpenClaim := { program := "ytcpboonjaceneaa", sum := "baad3eeafbdee73863426b77dafd0db00551864bd7b5e6a08b853f5e15fd2cfd", func := "loop.example/g00518/laws.FnExactLongestValidPrefix", spec := "fnExactLongestValidPrefix", unfollowed := true, recurses := true, apart := false, narrowed := true }
def FnExactLongestValidPrefixUptoSaid : Prop := fnExactLongestValidPrefixUptoRow.holds Try.pinned (OpenSpec.upto fnExactLongestValidPrefixSpec)

/-- 'laws.FnExactCountErrors', WHERE WHAT IT READS IS OF BULK AT MOST 1048576: true; the input reads as it did. -/
def fnExactCountErrorsUptoRow : OpenClaim := { program := "ytcpboonjaceneaa", sum := "baad3eeafbdee73863426b77dafd0db00551864bd7b5e6a08b853f5e15fd2cfd", func := "loop.example/g00518/laws.FnExactCountErrors", spec := "fnExactCountErrors", recurses := true, apart := false, narrowed := true }
def FnExactCountErrorsUptoSaid : Prop := fnExactCountErrorsUptoRow.holds Try.pinned (OpenSpec.upto fnExactCountErrorsSpec)

/-- 'laws.FnExactTrimFile', WHERE WHAT IT READS IS OF BULK AT MOST 1048576: true; the input reads as it did. -/
def fnExactTrimFileUptoRow : OpenClaim := { program := "ytcpboonjaceneaa", sum := "baad3eeafbdee73863426b77dafd0db00551864bd7b5e6a08b853f5e15fd2cfd", func := "loop.example/g00518/laws.FnExactTrimFile", spec := "fnExactTrimFile", recurses := true, apart := false, narrowed := true }
def FnExactTrimFileUptoSaid : Prop := fnExactTrimFileUptoRow.holds Try.pinned (OpenSpec.upto fnExactTrimFileSpec)

/-- 'laws.FnValidator', WHERE WHAT IT READS IS OF BULK AT MOST 1048576: true; the input reads as it did. -/
def fnValidatorUptoRow : OpenClaim := { program := "ytcpboonjaceneaa", sum := "baad3eeafbdee73863426b77dafd0db00551864bd7b5e6a08b853f5e15fd2cfd", func := "loop.example/g00518/laws.FnValidator", spec := "fnValidator", recurses := true, apart := false, narrowed := true }
def FnValidatorUptoSaid : Prop := fnValidatorUptoRow.holds Try.pinned (OpenSpec.upto fnValidatorSpec)

/-- 'laws.FnPrefixes', WHERE WHAT IT READS IS OF BULK AT MOST 1048576: true; the input reads as it did. -/
def fnPrefixesUptoRow : OpenClaim := { program := "ytcpboonjaceneaa", sum := "baad3eeafbdee73863426b77dafd0db00551864bd7b5e6a08b853f5e15fd2cfd", func := "loop.example/g00518/laws.FnPrefixes", spec := "fnPrefixes", unfollowed := true, recurses := true, apart := false, narrowed := true }
def FnPrefixesUptoSaid : Prop := fnPrefixesUptoRow.holds Try.pinned (OpenSpec.upto fnPrefixesSpec)

end Rows
end Go.Proofs.Ytcpboonjaceneaa
