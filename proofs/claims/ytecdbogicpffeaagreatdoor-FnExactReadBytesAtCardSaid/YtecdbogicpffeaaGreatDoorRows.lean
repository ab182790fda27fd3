/-
  NARROWER THAN 'FOR EVERY INPUT', by the rows' own cells (each row's printed sentence says how): FnExactReadBytesAt: laid · FnForthAndBack: laid · FnExactArchiveSize: laid · FnExactReadValue: laid · FnExactReadFile: laid.
  DERIVED. THE GIVEN ROWS OF THIS SEAT. 5 by the template 'for every input the law returns true; each argument reads behind the call as it read before'; 0 by the template 'total and deterministic' (their statements: YtecdbogicpffeaaGreatDoorTotals.lean).
  GIVEN WITH THE SEED: the statements are not yours to turn. If you find one false, say at which input.
  Laid BY PROGRAM, IN A SANDBOX (cutbox-rows.mjs): the forced cells as the released guide's own fill.sh prints them over the translation 40294baef7daef99… (all of the seat's roots in one cut). By AI agents, Wed Nov 11 2026. No macro, syntax, notation, axiom, sorry.
-/
import Derived.Test.YtecdbogicpffeaaGreatDoorChecked
import GoSem.Claim
import GoSem.ClaimJoined
import GoSem.ClaimMapViews
import Derived.JoinedTies
import Derived.KernelRfl
namespace Go.Proofs.YtecdbogicpffeaaGreatDoor
/- THE CELL 'sum', in the pinned program and in every row, IS THE sha256 OF THE DUMP (.gsa) THAT YtecdbogicpffeaaGreatDoorProg.lean LOADS. Nothing in Lean hashes anything: it is a label: what it is worth is what the hold of that sum in a sandbox is worth. -/
noncomputable def Tryz.pinned : Pinned := { name := "ytecdbogicpffeaagreatdoor", sum := "40294baef7daef99312273008b5105328b70e0ac5bdcd0b223a594d6dab9d1f5", checked := Tryz.checked }
namespace Rows
def none {H : Type} : Left H := { results := [], args := [] }

/- WHAT THE LISTED PACKAGE-LEVEL VARIABLES READ AS WHEN THE CALL BEGINS. Each datum BY PROGRAM (the guide's laid-datum.mjs) off the statement by which the dump's own 'gosem.cut.vars' lays the variable. In a bare row this is a premise. The card (YtecdbogicpffeaaGreatDoorCards.lean) ties it to the program's text. -/
def laid_errors_errorType {H : Type} : DataW H := .iface "internal/reflectlite.rtype" (.agg [.ptr (.lit (.string [101, 114, 114, 111, 114]))])

/-- 'laws.FnExactReadBytesAt': WHATEVER THE INPUT: true; the input reads as it did. -/
def fnExactReadBytesAtSpec : ChangeSpec := { name := "fnExactReadBytesAt", fn := fun _ => fun
  | [d1, d2, d3] => { results := [.lit (.bool true)], args := [d1, d2, d3] }
  | _ => none }
def fnExactReadBytesAtRow : OpenClaim := { program := "ytecdbogicpffeaagreatdoor", sum := "40294baef7daef99312273008b5105328b70e0ac5bdcd0b223a594d6dab9d1f5", func := "loop.example/g00518/laws.FnExactReadBytesAt", spec := "fnExactReadBytesAt", inPlace := ["internal/reflectlite.ValueOf", "(internal/reflectlite.Value).Type", "(internal/reflectlite.Value).IsNil", "internal/reflectlite.TypeOf", "(internal/reflectlite.Value).Elem", "(internal/reflectlite.Value).Set"], unfollowed := true, recurses := true, named := ["errors.errorType"], apart := false, laid := [("errors.errorType", laid_errors_errorType)] }
def FnExactReadBytesAtSaid : Prop := fnExactReadBytesAtRow.holds Tryz.pinned (OpenSpec.ofChange fnExactReadBytesAtSpec)

/-- ITS FALSE NEIGHBOUR: 'it returns false'. Refute it at one input. -/
def fnExactReadBytesAtWrong : ChangeSpec := { name := "fnExactReadBytesAt", fn := fun _ => fun
  | [d1, d2, d3] => { results := [.lit (.bool false)], args := [d1, d2, d3] }
  | _ => none }
def FnExactReadBytesAtWrongFalsely : Prop := fnExactReadBytesAtRow.holds Tryz.pinned (OpenSpec.ofChange fnExactReadBytesAtWrong)

/-- 'laws.FnForthAndBack': WHATEVER THE INPUT: true; the input reads as it did. -/
def fnForthAndBackSpec : ChangeSpec := { name := "fnForthAndBack", fn := fun _ => fun
  | [d] => { results := [.lit (.bool true)], args := [d] }
  | _ => none }
def fnForthAndBackRow : OpenClaim := { program := "ytecdbogicpffeaagreatdoor", sum := "40294baef7daef99312273008b5105328b70e0ac5bdcd0b223a594d6dab9d1f5", func := "loop.example/g00518/laws.FnForthAndBack", spec := "fnForthAndBack", inPlace := ["internal/reflectlite.ValueOf", "(internal/reflectlite.Value).Type", "(internal/reflectlite.Value).IsNil", "internal/reflectlite.TypeOf", "(internal/reflectlite.Value).Elem", "(internal/reflectlite.Value).Set"], unfollowed := true, recurses := true, named := ["errors.errorType"], apart := false, laid := [("errors.errorType", laid_errors_errorType)] }
def FnForthAndBackSaid : Prop := fnForthAndBackRow.holds Tryz.pinned (OpenSpec.ofChange fnForthAndBackSpec)

/-- ITS FALSE NEIGHBOUR: 'it returns false'. Refute it at one input. -/
def fnForthAndBackWrong : ChangeSpec := { name := "fnForthAndBack", fn := fun _ => fun
  | [d] => { results := [.lit (.bool false)], args := [d] }
  | _ => none }
def FnForthAndBackWrongFalsely : Prop := fnForthAndBackRow.holds Tryz.pinned (OpenSpec.ofChange fnForthAndBackWrong)

/-- 'laws.FnExactArchiveSize': WHATEVER THE INPUT: true; the input reads as it did. -/
def fnExactArchiveSizeSpec : ChangeSpec := { name := "fnExactArchiveSize", fn := fun _ => fun
  | [d] => { results := [.lit (.bool true)], args := [d] }
  | _ => none }
def fnExactArchiveSizeRow : OpenClaim := { program := "ytecdbogicpffeaagreatdoor", sum := "40294baef7daef99312273008b5105328b70e0ac5bdcd0b223a594d6dab9d1f5", func := "loop.example/g00518/laws.FnExactArchiveSize", spec := "fnExactArchiveSize", inPlace := ["internal/reflectlite.ValueOf", "(internal/reflectlite.Value).Type", "(internal/reflectlite.Value).IsNil", "internal/reflectlite.TypeOf", "(internal/reflectlite.Value).Elem", "(internal/reflectlite.Value).Set"], unfollowed := true, recurses := true, named := ["errors.errorType"], apart := false, laid := [("errors.errorType", laid_errors_errorType)] }
def FnExactArchiveSizeSaid : Prop := fnExactArchiveSizeRow.holds Tryz.pinned (OpenSpec.ofChange fnExactArchiveSizeSpec)

/-- ITS FALSE NEIGHBOUR: 'it returns false'. Refute it at one input. -/
def fnExactArchiveSizeWrong : ChangeSpec := { name := "fnExactArchiveSize", fn := fun _ => fun
  | [d] => { results := [.lit (.bool false)], args := [d] }
  | _ => none }
def FnExactArchiveSizeWrongFalsely : Prop := fnExactArchiveSizeRow.holds Tryz.pinned (OpenSpec.ofChange fnExactArchiveSizeWrong)

/-- 'laws.FnExactReadValue': WHATEVER THE INPUT: true; the input reads as it did. -/
def fnExactReadValueSpec : ChangeSpec := { name := "fnExactReadValue", fn := fun _ => fun
  | [d1, d2, d3, d4] => { results := [.lit (.bool true)], args := [d1, d2, d3, d4] }
  | _ => none }
def fnExactReadValueRow : OpenClaim := { program := "ytecdbogicpffeaagreatdoor", sum := "40294baef7daef99312273008b5105328b70e0ac5bdcd0b223a594d6dab9d1f5", func := "loop.example/g00518/laws.FnExactReadValue", spec := "fnExactReadValue", inPlace := ["internal/reflectlite.ValueOf", "(internal/reflectlite.Value).Type", "(internal/reflectlite.Value).IsNil", "internal/reflectlite.TypeOf", "(internal/reflectlite.Value).Elem", "(internal/reflectlite.Value).Set"], unfollowed := true, recurses := true, named := ["errors.errorType"], apart := false, laid := [("errors.errorType", laid_errors_errorType)] }
def FnExactReadValueSaid : Prop := fnExactReadValueRow.holds Tryz.pinned (OpenSpec.ofChange fnExactReadValueSpec)

/-- ITS FALSE NEIGHBOUR: 'it returns false'. Refute it at one input. -/
def fnExactReadValueWrong : ChangeSpec := { name := "fnExactReadValue", fn := fun _ => fun
  | [d1, d2, d3, d4] => { results := [.lit (.bool false)], args := [d1, d2, d3, d4] }
  | _ => none }
def FnExactReadValueWrongFalsely : Prop := fnExactReadValueRow.holds Tryz.pinned (OpenSpec.ofChange fnExactReadValueWrong)

/-- 'laws.FnExactReadFile': WHATEVER THE INPUT: true; the input reads as it did. -/
def fnExactReadFileSpec : ChangeSpec := { name := "fnExactReadFile", fn := fun _ => fun
  | [d1, d2] => { results := [.lit (.bool true)], args := [d1, d2] }
  | _ => none }
def fnExactReadFileRow : OpenClaim := { program := "ytecdbogicpffeaagreatdoor", sum := "40294baef7daef99312273008b5105328b70e0ac5bdcd0b223a594d6dab9d1f5", func := "loop.example/g00518/laws.FnExactReadFile", spec := "fnExactReadFile", inPlace := ["internal/reflectlite.ValueOf", "(internal/reflectlite.Value).Type", "(internal/reflectlite.Value).IsNil", "internal/reflectlite.TypeOf", "(internal/reflectlite.Value).Elem", "(internal/reflectlite.Value).Set"], unfollowed := true, recurses := true, named := ["errors.errorType"], apart := false, laid := [("errors.errorType", laid_errors_errorType)] }
def FnExactReadFileSaid : Prop := fnExactReadFileRow.holds Tryz.pinned (OpenSpec.ofChange fnExactReadFileSpec)

/-- ITS FALSE NEIGHBOUR: 'it returns false'. Refute it at one input. -/
def fnExactReadFileWrong : ChangeSpec := { name := "fnExactReadFile", fn := fun _ => fun
  | [d1, d2] => { results := [.lit (.bool false)], args := [d1, d2] }
  | _ => none }
def FnExactReadFileWrongFalsely : Prop := fnExactReadFileRow.holds Tryz.pinned (OpenSpec.ofChange fnExactReadFileWrong)

/- THE SECOND FORM. 'bulk': how many values and letters a reading holds, each counted each time it is reached (what is shared counts as often as it is met; a slice's spare places count too). A statement '..UptoSaid' is the law's where the arguments, and the package variables that the reading takes, are together of bulk at most 1048576: NARROWER than '..Said'. Prove '..Said' where nothing that the law and all that it calls make is longer than what came in: it says more and counts as full. Else prove '..UptoSaid'. A law counts once. -/
mutual
def uptoBulk {H : Type} : DataW H → Nat
  | .lit (.string bytes) => bytes.length + 1
  | .lit _ => 1
  | .nil => 1
  | .ptr d => uptoBulk d + 1
  | .slice elems spare => uptoBulkAll elems + uptoBulkAll spare + 1
  | .agg parts => uptoBulkAll parts + 1
  | .iface _ d => uptoBulk d + 1
  | .map entries => uptoBulkEntries entries + 1
  | .held _ => 1
def uptoBulkAll {H : Type} : List (DataW H) → Nat
  | [] => 0
  | d :: r => uptoBulk d + uptoBulkAll r
def uptoBulkEntries {H : Type} : List (Lit × DataW H) → Nat
  | [] => 0
  | x :: r => uptoBulkEntry x + uptoBulkEntries r
def uptoBulkEntry {H : Type} : Lit × DataW H → Nat
  | (.string bytes, d) => bytes.length + uptoBulk d + 1
  | (_, d) => uptoBulk d + 1
 end
def uptoSmall : (H : Type) → List (DataW H) → Bool := fun _ ds => decide (uptoBulkAll ds ≤ 1048576)
def OpenSpec.upto (s : _root_.Go.ChangeSpec) : _root_.Go.OpenSpec := { _root_.Go.OpenSpec.ofChange s with cond := some uptoSmall }

/-- 'laws.FnExactReadBytesAt', WHERE WHAT IT READS IS OF BULK AT MOST 1048576: true; the input reads as it did. -/
def fnExactReadBytesAtUptoRow : OpenClaim := { program := "ytecdbogicpffeaagreatdoor", sum := "40294baef7daef99312273008b5105328b70e0ac5bdcd0b223a594d6dab9d1f5", func := "loop.example/g00518/laws.FnExactReadBytesAt", spec := "fnExactReadBytesAt", inPlace := ["internal/reflectlite.ValueOf", "(internal/reflectlite.Value).Type", "(internal/reflectlite.Value).IsNil", "internal/reflectlite.TypeOf", "(internal/reflectlite.Value).Elem", "(internal/reflectlite.Value).Set"], unfollowed := true, recurses := true, named := ["errors.errorType"], apart := false, laid := [("errors.errorType", laid_errors_errorType)], narrowed := true }
def FnExactReadBytesAtUptoSaid : Prop := fnExactReadBytesAtUptoRow.holds Tryz.pinned (OpenSpec.upto fnExactReadBytesAtSpec)

/-- 'laws.FnForthAndBack', WHERE WHAT IT READS IS OF BULK AT MOST 1048576: true; the input reads as it did. -/
def fnForthAndBackUptoRow : OpenClaim := { program := "ytecdbogicpffeaagreatdoor", sum := "40294baef7daef99312273008b5105328b70e0ac5bdcd0b223a594d6dab9d1f5", func := "loop.example/g00518/laws.FnForthAndBack", spec := "fnForthAndBack", inPlace := ["internal/reflectlite.ValueOf", "(internal/reflectlite.Value).Type", "(internal/reflectlite.Value).IsNil", "internal/reflectlite.TypeOf", "(internal/reflectlite.Value).Elem", "(internal/reflectlite.Value).Set"], unfollowed := true, recurses := true, named := ["errors.errorType"], apart := false, laid := [("errors.errorType", laid_errors_errorType)], narrowed := true }
def FnForthAndBackUptoSaid : Prop := fnForthAndBackUptoRow.holds Tryz.pinned (OpenSpec.upto fnForthAndBackSpec)

/-- 'laws.FnExactArchiveSize', WHERE WHAT IT READS IS OF BULK AT MOST 1048576: true; the input reads as it did. -/
def fnExactArchiveSizeUptoRow : OpenClaim := { program := "ytecdbogicpffeaagreatdoor", sum := "40294baef7daef99312273008b5105328b70e0ac5bdcd0b223a594d6dab9d1f5", func := "loop.example/g00518/laws.FnExactArchiveSize", spec := "fnExactArchiveSize", inPlace := ["internal/reflectlite.ValueOf", "(internal/reflectlite.Value).Type", "(internal/reflectlite.Value).IsNil", "internal/reflectlite.TypeOf", "(internal/reflectlite.Value).Elem", "(internal/reflectlite.Value).Set"], unfollowed := true, recurses := true, named := ["errors.errorType"], apart := false, laid := [("errors.errorType", laid_errors_errorType)], narrowed := true }
def FnExactArchiveSizeUptoSaid : Prop := fnExactArchiveSizeUptoRow.holds Tryz.pinned (OpenSpec.upto fnExactArchiveSizeSpec)

/-- 'laws.FnExactReadValue', WHERE WHAT IT READS IS OF BULK AT MOST 1048576: true; the input reads as it did. -/
def fnExactReadValueUptoRow : OpenClaim := { program := "ytecdbogicpffeaagreatdoor", sum := "40294baef7daef99312273008b5105328b70e0ac5bdcd0b223a594d6dab9d1f5", func := "loop.example/g00518/laws.FnExactReadValue", spec := "fnExactReadValue", inPlace := ["internal/reflectlite.ValueOf", "(internal/reflectlite.Value).Type", "(internal/reflectlite.Value).IsNil", "internal/reflectlite.TypeOf", "(internal/reflectlite.Value).Elem", "(internal/reflectlite.Value).Set"], unfollowed := true, recurses := true, named := ["errors.errorType"], apart := false, laid := [("errors.errorType", laid_errors_errorType)], narrowed := true }
def FnExactReadValueUptoSaid : Prop := fnExactReadValueUptoRow.holds Tryz.pinned (OpenSpec.upto fnExactReadValueSpec)

/-- 'laws.FnExactReadFile', WHERE WHAT IT READS IS OF BULK AT MOST 1048576: true; the input reads as it did. -/
def fnExactReadFileUptoRow : OpenClaim := { program := "ytecdbogicpffeaagreatdoor", sum := "40294baef7daef99312273008b5105328b70e0ac5bdcd0b223a594d6dab9d1f5", func := "loop.example/g00518/laws.FnExactReadFile", spec := "fnExactReadFile", inPlace := ["internal/reflectlite.ValueOf", "(internal/reflectlite.Value).Type", "(internal/reflectlite.Value).IsNil", "internal/reflectlite.TypeOf", "(internal/reflectlite.Value).Elem", "(internal/reflectlite.Value).Set"], unfollowed := true, recurses := true, named := ["errors.errorType"], apart := false, laid := [("errors.errorType", laid_errors_errorType)], narrowed := true }
def FnExactReadFileUptoSaid : Prop := fnExactReadFileUptoRow.holds Tryz.pinned (OpenSpec.upto fnExactReadFileSpec)

end Rows
end Go.Proofs.YtecdbogicpffeaaGreatDoor
