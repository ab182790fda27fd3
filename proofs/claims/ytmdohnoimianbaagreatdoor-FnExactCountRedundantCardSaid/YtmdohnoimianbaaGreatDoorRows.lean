/-
  NARROWER THAN 'FOR EVERY INPUT', by the rows' own cells (each row's printed sentence says how): FnExactReadValue: laid · FnExactReadFile: laid · FnExactCountRedundant: laid · FnExactIsCanonical: laid · FnExactCanonicalFile: laid.
  DERIVED. THE GIVEN ROWS OF THIS SEAT. 5 by the template 'for every input the law returns true; each argument reads behind the call as it read before'; 0 by the template 'total and deterministic' (their statements: YtmdohnoimianbaaGreatDoorTotals.lean).
  GIVEN WITH THE SEED: the statements are not yours to turn. If you find one false, say at which input.
  Laid BY PROGRAM, IN A SANDBOX (cutbox-rows.mjs): the forced cells as the released guide's own fill.sh prints them over the translation f981038b031f79fd… (all of the seat's roots in one cut). By AI agents, Wed Nov 11 2026. No macro, syntax, notation, axiom, sorry.
-/
import Derived.Test.YtmdohnoimianbaaGreatDoorChecked
import GoSem.Claim
import GoSem.ClaimJoined
import GoSem.ClaimMapViews
import Derived.JoinedTies
import Derived.KernelRfl
namespace Go.Proofs.YtmdohnoimianbaaGreatDoor
/- THE CELL 'sum', in the pinned program and in every row, IS THE sha256 OF THE DUMP (.gsa) THAT YtmdohnoimianbaaGreatDoorProg.lean LOADS. Nothing in Lean hashes anything: it is a label: what it is worth is what the hold of that sum in a sandbox is worth. -/
noncomputable def Tryz.pinned : Pinned := { name := "ytmdohnoimianbaagreatdoor", sum := "f981038b031f79fd95faea1ea54da720e4b4dfb5545fe0d22fe475b93a89b073", checked := Tryz.checked }
namespace Rows
def none {H : Type} : Left H := { results := [], args := [] }

/- WHAT THE LISTED PACKAGE-LEVEL VARIABLES READ AS WHEN THE CALL BEGINS. Each datum BY PROGRAM (the guide's laid-datum.mjs) off the statement by which the dump's own 'gosem.cut.vars' lays the variable. In a bare row this is a premise. The card (YtmdohnoimianbaaGreatDoorCards.lean) ties it to the program's text. -/
def laid_errors_errorType {H : Type} : DataW H := .iface "internal/reflectlite.rtype" (.agg [.ptr (.lit (.string [101, 114, 114, 111, 114]))])

/-- 'laws.FnExactReadValue': WHATEVER THE INPUT: true; the input reads as it did. -/
def fnExactReadValueSpec : ChangeSpec := { name := "fnExactReadValue", fn := fun _ => fun
  | [d1, d2, d3, d4] => { results := [.lit (.bool true)], args := [d1, d2, d3, d4] }
  | _ => none }
def fnExactReadValueRow : OpenClaim := { program := "ytmdohnoimianbaagreatdoor", sum := "f981038b031f79fd95faea1ea54da720e4b4dfb5545fe0d22fe475b93a89b073", func := "loop.example/g00518/laws.FnExactReadValue", spec := "fnExactReadValue", inPlace := ["internal/reflectlite.ValueOf", "(internal/reflectlite.Value).Type", "(internal/reflectlite.Value).IsNil", "internal/reflectlite.TypeOf", "(internal/reflectlite.Value).Elem", "(internal/reflectlite.Value).Set"], unfollowed := true, recurses := true, named := ["errors.errorType"], apart := false, laid := [("errors.errorType", laid_errors_errorType)] }
def FnExactReadValueSaid : Prop := fnExactReadValueRow.holds Tryz.pinned (OpenSpec.ofChange fnExactReadValueSpec)

/-- ITS FALSE NEIGHBOUR: 'it returns false'. Refute it at one input. -/
def fnExactReadValueWrong : ChangeSpec := { name := "fnExactReadValue", fn := fun _ => fun
  | [d1, d2, d3, d4] => { results := [.lit (.bool false)], args := [d1, d2, d3, d4] }
  | _ => none }
def FnExactReadValueWrongFalsely : Prop := fnExactReadValueRow.holds Tryz.pinned (OpenSpec.ofChange fnExactReadValueWrong)

/-- 'laws.FnExactReadFile': WHATEVER THE INPUT: true; the input reads as it did. -/
def fnExactReadFileSpec : ChangeSpec := { name := "fnExactReadFile", fn := fun _ => fun
  | [d1, d2] => { results := [.lit (.bool true)], args := [d1, d2] }
  | _ => none }
def fnExactReadFileRow : OpenClaim := { program := "ytmdohnoimianbaagreatdoor", sum := "f981038b031f79fd95faea1ea54da720e4b4dfb5545fe0d22fe475b93a89b073", func := "loop.example/g00518/laws.FnExactReadFile", spec := "fnExactReadFile", inPlace := ["internal/reflectlite.ValueOf", "(internal/reflectlite.Value).Type", "(internal/reflectlite.Value).IsNil", "internal/reflectlite.TypeOf", "(internal/reflectlite.Value).Elem", "(internal/reflectlite.Value).Set"], unfollowed := true, recurses := true, named := ["errors.errorType"], apart := false, laid := [("errors.errorType", laid_errors_errorType)] }
def FnExactReadFileSaid : Prop := fnExactReadFileRow.holds Tryz.pinned (OpenSpec.ofChange fnExactReadFileSpec)

/-- ITS FALSE NEIGHBOUR: 'it returns false'. Refute it at one input. -/
def fnExactReadFileWrong : ChangeSpec := { name := "fnExactReadFile", fn := fun _ => fun
  | [d1, d2] => { results := [.lit (.bool false)], args := [d1, d2] }
  | _ => none }
def FnExactReadFileWrongFalsely : Prop := fnExactReadFileRow.holds Tryz.pinned (OpenSpec.ofChange fnExactReadFileWrong)

/-- 'laws.FnExactCountRedundant': WHATEVER THE INPUT: true; the input reads as it did. -/
def fnExactCountRedundantSpec : ChangeSpec := { name := "fnExactCountRedundant", fn := fun _ => fun
  | [d1, d2] => { results := [.lit (.bool true)], args := [d1, d2] }
  | _ => none }
def fnExactCountRedundantRow : OpenClaim := { program := "ytmdohnoimianbaagreatdoor", sum := "f981038b031f79fd95faea1ea54da720e4b4dfb5545fe0d22fe475b93a89b073", func := "loop.example/g00518/laws.FnExactCountRedundant", spec := "fnExactCountRedundant", inPlace := ["internal/reflectlite.ValueOf", "(internal/reflectlite.Value).Type", "(internal/reflectlite.Value).IsNil", "internal/reflectlite.TypeOf", "(internal/reflectlite.Value).Elem", "(internal/reflectlite.Value).Set"], unfollowed := true, recurses := true, named := ["errors.errorType"], apart := false, laid := [("errors.errorType", laid_errors_errorType)] }
def FnExactCountRedundantSaid : Prop := fnExactCountRedundantRow.holds Tryz.pinned (OpenSpec.ofChange fnExactCountRedundantSpec)

/-- ITS FALSE NEIGHBOUR: 'it returns false'. Refute it at one input. -/
def fnExactCountRedundantWrong : ChangeSpec := { name := "fnExactCountRedundant", fn := fun _ => fun
  | [d1, d2] => { results := [.lit (.bool false)], args := [d1, d2] }
  | _ => none }
def FnExactCountRedundantWrongFalsely : Prop := fnExactCountRedundantRow.holds Tryz.pinned (OpenSpec.ofChange fnExactCountRedundantWrong)

/-- 'laws.FnExactIsCanonical': WHATEVER THE INPUT: true; the input reads as it did. -/
def fnExactIsCanonicalSpec : ChangeSpec := { name := "fnExactIsCanonical", fn := fun _ => fun
  | [d1, d2] => { results := [.lit (.bool true)], args := [d1, d2] }
  | _ => none }
def fnExactIsCanonicalRow : OpenClaim := { program := "ytmdohnoimianbaagreatdoor", sum := "f981038b031f79fd95faea1ea54da720e4b4dfb5545fe0d22fe475b93a89b073", func := "loop.example/g00518/laws.FnExactIsCanonical", spec := "fnExactIsCanonical", inPlace := ["internal/reflectlite.ValueOf", "(internal/reflectlite.Value).Type", "(internal/reflectlite.Value).IsNil", "internal/reflectlite.TypeOf", "(internal/reflectlite.Value).Elem", "(internal/reflectlite.Value).Set"], unfollowed := true, recurses := true, named := ["errors.errorType"], apart := false, laid := [("errors.errorType", laid_errors_errorType)] }
def FnExactIsCanonicalSaid : Prop := fnExactIsCanonicalRow.holds Tryz.pinned (OpenSpec.ofChange fnExactIsCanonicalSpec)

/-- ITS FALSE NEIGHBOUR: 'it returns false'. Refute it at one input. -/
def fnExactIsCanonicalWrong : ChangeSpec := { name := "fnExactIsCanonical", fn := fun _ => fun
  | [d1, d2] => { results := [.lit (.bool false)], args := [d1, d2] }
  | _ => none }
def FnExactIsCanonicalWrongFalsely : Prop := fnExactIsCanonicalRow.holds Tryz.pinned (OpenSpec.ofChange fnExactIsCanonicalWrong)

/-- 'laws.FnExactCanonicalFile': WHATEVER THE INPUT: true; the input reads as it did. -/
def fnExactCanonicalFileSpec : ChangeSpec := { name := "fnExactCanonicalFile", fn := fun _ => fun
  | [d1, d2] => { results := [.lit (.bool true)], args := [d1, d2] }
  | _ => none }
def fnExactCanonicalFileRow : OpenClaim := { program := "ytmdohnoimianbaagreatdoor", sum := "f981038b031f79fd95faea1ea54da720e4b4dfb5545fe0d22fe475b93a89b073", func := "loop.example/g00518/laws.FnExactCanonicalFile", spec := "fnExactCanonicalFile", inPlace := ["internal/reflectlite.ValueOf", "(internal/reflectlite.Value).Type", "(internal/reflectlite.Value).IsNil", "internal/reflectlite.TypeOf", "(internal/reflectlite.Value).Elem", "(internal/reflectlite.Value).Set"], unfollowed := true, recurses := true, named := ["errors.errorType"], apart := false, laid := [("errors.errorType", laid_errors_errorType)] }
def FnExactCanonicalFileSaid : Prop := fnExactCanonicalFileRow.holds Tryz.pinned (OpenSpec.ofChange fnExactCanonicalFileSpec)

/-- ITS FALSE NEIGHBOUR: 'it returns false'. Refute it at one input. -/
def fnExactCanonicalFileWrong : ChangeSpec := { name := "fnExactCanonicalFile", fn := fun _ => fun
  | [d1, d2] => { results := [.lit (.bool false)], args := [d1, d2] }
  | _ => none }
def FnExactCanonicalFileWrongFalsely : Prop := fnExactCanonicalFileRow.holds Tryz.pinned (OpenSpec.ofChange fnExactCanonicalFileWrong)

/- THE SECOND FORM. 'bulk': how many values and letters a reading holds, each counted each time it is reached (what is shared counts as often as it is met; a slice's spare places count too). A statement '..UptoSaid' is the law's where the arguments, and the package variables that the reading takes, are together of bulk at most 1048576: NARROWER than '..Said'. Prove '..Said' where nothing that the law and all that it calls make is longer than what came in: it says more and counts as full. Else prove '..UptoSaid'. A law counts once. -/
mutual
def uptoBulk {H : Type} : DataW H → Nat
  | .lit (.string bytes) => bytes.length + 1
  | .lit _ => 1
  | .nil => 1
  | .ptr d => uptoBulk d + 1
  | .slice elems spare => uptoBulkAll elems + uptoBulkAll spare + 1
  | .agg parts => uptoBulkAll parts + 1
  | .iface _ d => uptoBulk d + 1
  | .map entries => uptoBulkEntries entries + 1
  | .held _ => 1
def uptoBulkAll {H : Type} : List (DataW H) → Nat
  | [] => 0
  | d :: r => uptoBulk d + uptoBulkAll r
def uptoBulkEntries {H : Type} : List (Lit × DataW H) → Nat
  | [] => 0
  | x :: r => uptoBulkEntry x + uptoBulkEntries r
def uptoBulkEntry {H : Type} : Lit × DataW H → Nat
  | (.string bytes, d) => bytes.length + uptoBulk d + 1
  | (_, d) => uptoBulk d + 1
 end
def uptoSmall : (H : Type) → List (DataW H) → Bool := fun _ ds => decide (uptoBulkAll ds ≤ 1048576)
def OpenSpec.upto (s : _root_.Go.ChangeSpec) : _root_.Go.OpenSpec := { _root_.Go.OpenSpec.ofChange s with cond := some uptoSmall }

/-- 'laws.FnExactReadValue', WHERE WHAT IT READS IS OF BULK AT MOST 1048576: true; the input reads as it did. -/
def fnExactReadValueUptoRow : OpenClaim := { program := "ytmdohnoimianbaagreatdoor", sum := "f981038b031f79fd95faea1ea54da720e4b4dfb5545fe0d22fe475b93a89b073", func := "loop.example/g00518/laws.FnExactReadValue", spec := "fnExactReadValue", inPlace := ["internal/reflectlite.ValueOf", "(internal/reflectlite.Value).Type", "(internal/reflectlite.Value).IsNil", "internal/reflectlite.TypeOf", "(internal/reflectlite.Value).Elem", "(internal/reflectlite.Value).Set"], unfollowed := true, recurses := true, named := ["errors.errorType"], apart := false, laid := [("errors.errorType", laid_errors_errorType)], narrowed := true }
def FnExactReadValueUptoSaid : Prop := fnExactReadValueUptoRow.holds Tryz.pinned (OpenSpec.upto fnExactReadValueSpec)

/-- 'laws.FnExactReadFile', WHERE WHAT IT READS IS OF BULK AT MOST 1048576: true; the input reads as it did. -/
def fnExactReadFileUptoRow : OpenClaim := { program := "ytmdohnoimianbaagreatdoor", sum := "f981038b031f79fd95faea1ea54da720e4b4dfb5545fe0d22fe475b93a89b073", func := "loop.example/g00518/laws.FnExactReadFile", spec := "fnExactReadFile", inPlace := ["internal/reflectlite.ValueOf", "(internal/reflectlite.Value).Type", "(internal/reflectlite.Value).IsNil", "internal/reflectlite.TypeOf", "(internal/reflectlite.Value).Elem", "(internal/reflectlite.Value).Set"], unfollowed := true, recurses := true, named := ["errors.errorType"], apart := false, laid := [("errors.errorType", laid_errors_errorType)], narrowed := true }
def FnExactReadFileUptoSaid : Prop := fnExactReadFileUptoRow.holds Tryz.pinned (OpenSpec.upto fnExactReadFileSpec)

/-- 'laws.FnExactCountRedundant', WHERE WHAT IT READS IS OF BULK AT MOST 1048576: true; the input reads as it did. -/
def fnExactCountRedundantUptoRow : OpenClaim := { program := "ytmdohnoimianbaagreatdoor", sum := "f981038b031f79fd95faea1ea54da720e4b4dfb5545fe0d22fe475b93a89b073", func := "loop.example/g00518/laws.FnExactCountRedundant", spec := "fnExactCountRedundant", inPlace := ["internal/reflectlite.ValueOf", "(internal/reflectlite.Value).Type", "(internal/reflectlite.Value).IsNil", "internal/reflectlite.TypeOf", "(internal/reflectlite.Value).Elem", "(internal/reflectlite.Value).Set"], unfollowed := true, recurses := true, named := ["errors.errorType"], apart := false, laid := [("errors.errorType", laid_errors_errorType)], narrowed := true }
def FnExactCountRedundantUptoSaid : Prop := fnExactCountRedundantUptoRow.holds Tryz.pinned (OpenSpec.upto fnExactCountRedundantSpec)

/-- 'laws.FnExactIsCanonical', WHERE WHAT IT READS IS OF BULK AT MOST 1048576: true; the input reads as it did. -/
def fnExactIsCanonicalUptoRow : OpenClaim := { program := "ytmdohnoimianbaagreatdoor", sum := "f981038b031f79fd95faea1ea54da720e4b4dfb5545fe0d22fe475b93a89b073", func := "loop.example/g00518/laws.FnExactIsCanonical", spec := "fnExactIsCanonical", inPlace := ["internal/reflectlite.ValueOf", "(internal/reflectlite.Value).Type", "(internal/reflectlite.Value).IsNil", "internal/reflectlite.TypeOf", "(internal/reflectlite.Value).Elem", "(internal/reflectlite.Value).Set"], unfollowed := true, recurses := true, named := ["errors.errorType"], apart := false, laid := [("errors.errorType", laid_errors_errorType)], narrowed := true }
def FnExactIsCanonicalUptoSaid : Prop := fnExactIsCanonicalUptoRow.holds Tryz.pinned (OpenSpec.upto fnExactIsCanonicalSpec)

/-- 'laws.FnExactCanonicalFile', WHERE WHAT IT READS IS OF BULK AT MOST 1048576: true; the input reads as it did. -/
def fnExactCanonicalFileUptoRow : OpenClaim := { program := "ytmdohnoimianbaagreatdoor", sum := "f981038b031f79fd95faea1ea54da720e4b4dfb5545fe0d22fe475b93a89b073", func := "loop.example/g00518/laws.FnExactCanonicalFile", spec := "fnExactCanonicalFile", inPlace := ["internal/reflectlite.ValueOf", "(internal/reflectlite.Value).Type", "(internal/reflectlite.Value).IsNil", "internal/reflectlite.TypeOf", "(internal/reflectlite.Value).Elem", "(internal/reflectlite.Value).Set"], unfollowed := true, recurses := true, named := ["errors.errorType"], apart := false, laid := [("errors.errorType", laid_errors_errorType)], narrowed := true }
def FnExactCanonicalFileUptoSaid : Prop := fnExactCanonicalFileUptoRow.holds Tryz.pinned (OpenSpec.upto fnExactCanonicalFileSpec)

end Rows
end Go.Proofs.YtmdohnoimianbaaGreatDoor
