/-
  NARROWER THAN 'FOR EVERY INPUT', by the rows' own cells (each row's printed sentence says how): FnExactIsFileOf: laid · FnExactMissingAtLeast: ifaces, laid · FnExactSameFile: laid · FnExactReadValue: laid · FnExactReadFile: laid · FnExactDetectVersions: laid · FnExactRepairReplace: laid · FnExactRepairLength: laid · FnExactCountRedundant: laid · FnExactIsCanonical: laid · FnExactCanonicalFile: laid.
  DERIVED. THE GIVEN ROWS OF THIS SEAT. 11 by the template 'for every input the law returns true; each argument reads behind the call as it read before'; 0 by the template 'total and deterministic' (their statements: YtoegmaebdihnaaaGreatDoorTotals.lean).
  GIVEN WITH THE SEED: the statements are not yours to turn. If you find one false, say at which input.
  Laid BY PROGRAM, IN A SANDBOX (cutbox-rows.mjs): the forced cells as the released guide's own fill.sh prints them over the translation da08b9e94a6e9985… (all of the seat's roots in one cut). By AI agents, Wed Nov 11 2026. No macro, syntax, notation, axiom, sorry.
-/
import Derived.Test.YtoegmaebdihnaaaGreatDoorChecked
import GoSem.Claim
import GoSem.ClaimJoined
import GoSem.ClaimMapViews
import Derived.JoinedTies
import Derived.KernelRfl
namespace Go.Proofs.YtoegmaebdihnaaaGreatDoor
/- THE CELL 'sum', in the pinned program and in every row, IS THE sha256 OF THE DUMP (.gsa) THAT YtoegmaebdihnaaaGreatDoorProg.lean LOADS. Nothing in Lean hashes anything: it is a label: what it is worth is what the hold of that sum in a sandbox is worth. -/
noncomputable def Tryz.pinned : Pinned := { name := "ytoegmaebdihnaaagreatdoor", sum := "da08b9e94a6e9985461d9acc3333378f229bf786096fc5beefdee7ff07313b5b", checked := Tryz.checked }
namespace Rows
def none {H : Type} : Left H := { results := [], args := [] }

/- WHAT THE LISTED PACKAGE-LEVEL VARIABLES READ AS WHEN THE CALL BEGINS. Each datum BY PROGRAM (the guide's laid-datum.mjs) off the statement by which the dump's own 'gosem.cut.vars' lays the variable. In a bare row this is a premise. The card (YtoegmaebdihnaaaGreatDoorCards.lean) ties it to the program's text. -/
def laid_errors_errorType {H : Type} : DataW H := .iface "internal/reflectlite.rtype" (.agg [.ptr (.lit (.string [101, 114, 114, 111, 114]))])
def laid_loop_example_g00518_impl_errTruncated {H : Type} : DataW H := .iface "*errors.errorString" (.ptr (.agg [.lit (.string [116, 114, 117, 110, 99, 97, 116, 101, 100])]))

/-- 'laws.FnExactIsFileOf': WHATEVER THE INPUT: true; the input reads as it did. -/
def fnExactIsFileOfSpec : ChangeSpec := { name := "fnExactIsFileOf", fn := fun _ => fun
  | [d1, d2] => { results := [.lit (.bool true)], args := [d1, d2] }
  | _ => none }
def fnExactIsFileOfRow : OpenClaim := { program := "ytoegmaebdihnaaagreatdoor", sum := "da08b9e94a6e9985461d9acc3333378f229bf786096fc5beefdee7ff07313b5b", func := "loop.example/g00518/laws.FnExactIsFileOf", spec := "fnExactIsFileOf", inPlace := ["internal/reflectlite.ValueOf", "(internal/reflectlite.Value).Type", "(internal/reflectlite.Value).IsNil", "internal/reflectlite.TypeOf", "(internal/reflectlite.Value).Elem", "(internal/reflectlite.Value).Set"], unfollowed := true, recurses := true, named := ["errors.errorType"], apart := false, laid := [("errors.errorType", laid_errors_errorType)] }
def FnExactIsFileOfSaid : Prop := fnExactIsFileOfRow.holds Tryz.pinned (OpenSpec.ofChange fnExactIsFileOfSpec)

/-- ITS FALSE NEIGHBOUR: 'it returns false'. Refute it at one input. -/
def fnExactIsFileOfWrong : ChangeSpec := { name := "fnExactIsFileOf", fn := fun _ => fun
  | [d1, d2] => { results := [.lit (.bool false)], args := [d1, d2] }
  | _ => none }
def FnExactIsFileOfWrongFalsely : Prop := fnExactIsFileOfRow.holds Tryz.pinned (OpenSpec.ofChange fnExactIsFileOfWrong)

/-- 'laws.FnExactMissingAtLeast': WHATEVER THE INPUT: true; the input reads as it did. -/
def fnExactMissingAtLeastSpec : ChangeSpec := { name := "fnExactMissingAtLeast", vars := ["loop.example/g00518/impl.errTruncated"], fn := fun _ => fun
  | [d1, d2, g1] => { results := [.lit (.bool true)], args := [d1, d2], vars := [g1] }
  | _ => none }
def fnExactMissingAtLeastRow : OpenClaim := { program := "ytoegmaebdihnaaagreatdoor", sum := "da08b9e94a6e9985461d9acc3333378f229bf786096fc5beefdee7ff07313b5b", func := "loop.example/g00518/laws.FnExactMissingAtLeast", spec := "fnExactMissingAtLeast", inPlace := ["internal/reflectlite.TypeOf"], unfollowed := true, recurses := true, named := ["loop.example/g00518/impl.errTruncated"], ifaces := true, apart := false, laid := [("loop.example/g00518/impl.errTruncated", laid_loop_example_g00518_impl_errTruncated)] }
def FnExactMissingAtLeastSaid : Prop := fnExactMissingAtLeastRow.holds Tryz.pinned (OpenSpec.ofChange fnExactMissingAtLeastSpec)

/-- ITS FALSE NEIGHBOUR: 'it returns false'. Refute it at one input. -/
def fnExactMissingAtLeastWrong : ChangeSpec := { name := "fnExactMissingAtLeast", vars := ["loop.example/g00518/impl.errTruncated"], fn := fun _ => fun
  | [d1, d2, g1] => { results := [.lit (.bool false)], args := [d1, d2], vars := [g1] }
  | _ => none }
def FnExactMissingAtLeastWrongFalsely : Prop := fnExactMissingAtLeastRow.holds Tryz.pinned (OpenSpec.ofChange fnExactMissingAtLeastWrong)

/-- 'laws.FnExactSameFile': WHATEVER THE INPUT: true; the input reads as it did. -/
def fnExactSameFileSpec : ChangeSpec := { name := "fnExactSameFile", fn := fun _ => fun
  | [d1, d2, d3] => { results := [.lit (.bool true)], args := [d1, d2, d3] }
  | _ => none }
def fnExactSameFileRow : OpenClaim := { program := "ytoegmaebdihnaaagreatdoor", sum := "da08b9e94a6e9985461d9acc3333378f229bf786096fc5beefdee7ff07313b5b", func := "loop.example/g00518/laws.FnExactSameFile", spec := "fnExactSameFile", inPlace := ["internal/reflectlite.ValueOf", "(internal/reflectlite.Value).Type", "(internal/reflectlite.Value).IsNil", "internal/reflectlite.TypeOf", "(internal/reflectlite.Value).Elem", "(internal/reflectlite.Value).Set"], unfollowed := true, recurses := true, named := ["errors.errorType"], apart := false, laid := [("errors.errorType", laid_errors_errorType)] }
def FnExactSameFileSaid : Prop := fnExactSameFileRow.holds Tryz.pinned (OpenSpec.ofChange fnExactSameFileSpec)

/-- ITS FALSE NEIGHBOUR: 'it returns false'. Refute it at one input. -/
def fnExactSameFileWrong : ChangeSpec := { name := "fnExactSameFile", fn := fun _ => fun
  | [d1, d2, d3] => { results := [.lit (.bool false)], args := [d1, d2, d3] }
  | _ => none }
def FnExactSameFileWrongFalsely : Prop := fnExactSameFileRow.holds Tryz.pinned (OpenSpec.ofChange fnExactSameFileWrong)

/-- 'laws.FnExactReadValue': WHATEVER THE INPUT: true; the input reads as it did. -/
def fnExactReadValueSpec : ChangeSpec := { name := "fnExactReadValue", fn := fun _ => fun
  | [d1, d2, d3, d4] => { results := [.lit (.bool true)], args := [d1, d2, d3, d4] }
  | _ => none }
def fnExactReadValueRow : OpenClaim := { program := "ytoegmaebdihnaaagreatdoor", sum := "da08b9e94a6e9985461d9acc3333378f229bf786096fc5beefdee7ff07313b5b", func := "loop.example/g00518/laws.FnExactReadValue", spec := "fnExactReadValue", inPlace := ["internal/reflectlite.ValueOf", "(internal/reflectlite.Value).Type", "(internal/reflectlite.Value).IsNil", "internal/reflectlite.TypeOf", "(internal/reflectlite.Value).Elem", "(internal/reflectlite.Value).Set"], unfollowed := true, recurses := true, named := ["errors.errorType"], apart := false, laid := [("errors.errorType", laid_errors_errorType)] }
def FnExactReadValueSaid : Prop := fnExactReadValueRow.holds Tryz.pinned (OpenSpec.ofChange fnExactReadValueSpec)

/-- ITS FALSE NEIGHBOUR: 'it returns false'. Refute it at one input. -/
def fnExactReadValueWrong : ChangeSpec := { name := "fnExactReadValue", fn := fun _ => fun
  | [d1, d2, d3, d4] => { results := [.lit (.bool false)], args := [d1, d2, d3, d4] }
  | _ => none }
def FnExactReadValueWrongFalsely : Prop := fnExactReadValueRow.holds Tryz.pinned (OpenSpec.ofChange fnExactReadValueWrong)

/-- 'laws.FnExactReadFile': WHATEVER THE INPUT: true; the input reads as it did. -/
def fnExactReadFileSpec : ChangeSpec := { name := "fnExactReadFile", fn := fun _ => fun
  | [d1, d2] => { results := [.lit (.bool true)], args := [d1, d2] }
  | _ => none }
def fnExactReadFileRow : OpenClaim := { program := "ytoegmaebdihnaaagreatdoor", sum := "da08b9e94a6e9985461d9acc3333378f229bf786096fc5beefdee7ff07313b5b", func := "loop.example/g00518/laws.FnExactReadFile", spec := "fnExactReadFile", inPlace := ["internal/reflectlite.ValueOf", "(internal/reflectlite.Value).Type", "(internal/reflectlite.Value).IsNil", "internal/reflectlite.TypeOf", "(internal/reflectlite.Value).Elem", "(internal/reflectlite.Value).Set"], unfollowed := true, recurses := true, named := ["errors.errorType"], apart := false, laid := [("errors.errorType", laid_errors_errorType)] }
def FnExactReadFileSaid : Prop := fnExactReadFileRow.holds Tryz.pinned (OpenSpec.ofChange fnExactReadFileSpec)

/-- ITS FALSE NEIGHBOUR: 'it returns false'. Refute it at one input. -/
def fnExactReadFileWrong : ChangeSpec := { name := "fnExactReadFile", fn := fun _ => fun
  | [d1, d2] => { results := [.lit (.bool false)], args := [d1, d2] }
  | _ => none }
def FnExactReadFileWrongFalsely : Prop := fnExactReadFileRow.holds Tryz.pinned (OpenSpec.ofChange fnExactReadFileWrong)

/-- 'laws.FnExactDetectVersions': WHATEVER THE INPUT: true; the input reads as it did. -/
def fnExactDetectVersionsSpec : ChangeSpec := { name := "fnExactDetectVersions", fn := fun _ => fun
  | [d1, d2] => { results := [.lit (.bool true)], args := [d1, d2] }
  | _ => none }
def fnExactDetectVersionsRow : OpenClaim := { program := "ytoegmaebdihnaaagreatdoor", sum := "da08b9e94a6e9985461d9acc3333378f229bf786096fc5beefdee7ff07313b5b", func := "loop.example/g00518/laws.FnExactDetectVersions", spec := "fnExactDetectVersions", inPlace := ["internal/reflectlite.ValueOf", "(internal/reflectlite.Value).Type", "(internal/reflectlite.Value).IsNil", "internal/reflectlite.TypeOf", "(internal/reflectlite.Value).Elem", "(internal/reflectlite.Value).Set"], unfollowed := true, recurses := true, named := ["errors.errorType"], apart := false, laid := [("errors.errorType", laid_errors_errorType)] }
def FnExactDetectVersionsSaid : Prop := fnExactDetectVersionsRow.holds Tryz.pinned (OpenSpec.ofChange fnExactDetectVersionsSpec)

/-- ITS FALSE NEIGHBOUR: 'it returns false'. Refute it at one input. -/
def fnExactDetectVersionsWrong : ChangeSpec := { name := "fnExactDetectVersions", fn := fun _ => fun
  | [d1, d2] => { results := [.lit (.bool false)], args := [d1, d2] }
  | _ => none }
def FnExactDetectVersionsWrongFalsely : Prop := fnExactDetectVersionsRow.holds Tryz.pinned (OpenSpec.ofChange fnExactDetectVersionsWrong)

/-- 'laws.FnExactRepairReplace': WHATEVER THE INPUT: true; the input reads as it did. -/
def fnExactRepairReplaceSpec : ChangeSpec := { name := "fnExactRepairReplace", fn := fun _ => fun
  | [d1, d2] => { results := [.lit (.bool true)], args := [d1, d2] }
  | _ => none }
def fnExactRepairReplaceRow : OpenClaim := { program := "ytoegmaebdihnaaagreatdoor", sum := "da08b9e94a6e9985461d9acc3333378f229bf786096fc5beefdee7ff07313b5b", func := "loop.example/g00518/laws.FnExactRepairReplace", spec := "fnExactRepairReplace", inPlace := ["internal/reflectlite.ValueOf", "(internal/reflectlite.Value).Type", "(internal/reflectlite.Value).IsNil", "internal/reflectlite.TypeOf", "(internal/reflectlite.Value).Elem", "(internal/reflectlite.Value).Set"], unfollowed := true, recurses := true, named := ["errors.errorType"], apart := false, laid := [("errors.errorType", laid_errors_errorType)] }
def FnExactRepairReplaceSaid : Prop := fnExactRepairReplaceRow.holds Tryz.pinned (OpenSpec.ofChange fnExactRepairReplaceSpec)

/-- ITS FALSE NEIGHBOUR: 'it returns false'. Refute it at one input. -/
def fnExactRepairReplaceWrong : ChangeSpec := { name := "fnExactRepairReplace", fn := fun _ => fun
  | [d1, d2] => { results := [.lit (.bool false)], args := [d1, d2] }
  | _ => none }
def FnExactRepairReplaceWrongFalsely : Prop := fnExactRepairReplaceRow.holds Tryz.pinned (OpenSpec.ofChange fnExactRepairReplaceWrong)

/-- 'laws.FnExactRepairLength': WHATEVER THE INPUT: true; the input reads as it did. -/
def fnExactRepairLengthSpec : ChangeSpec := { name := "fnExactRepairLength", fn := fun _ => fun
  | [d1, d2] => { results := [.lit (.bool true)], args := [d1, d2] }
  | _ => none }
def fnExactRepairLengthRow : OpenClaim := { program := "ytoegmaebdihnaaagreatdoor", sum := "da08b9e94a6e9985461d9acc3333378f229bf786096fc5beefdee7ff07313b5b", func := "loop.example/g00518/laws.FnExactRepairLength", spec := "fnExactRepairLength", inPlace := ["internal/reflectlite.ValueOf", "(internal/reflectlite.Value).Type", "(internal/reflectlite.Value).IsNil", "internal/reflectlite.TypeOf", "(internal/reflectlite.Value).Elem", "(internal/reflectlite.Value).Set"], unfollowed := true, recurses := true, named := ["errors.errorType"], apart := false, laid := [("errors.errorType", laid_errors_errorType)] }
def FnExactRepairLengthSaid : Prop := fnExactRepairLengthRow.holds Tryz.pinned (OpenSpec.ofChange fnExactRepairLengthSpec)

/-- ITS FALSE NEIGHBOUR: 'it returns false'. Refute it at one input. -/
def fnExactRepairLengthWrong : ChangeSpec := { name := "fnExactRepairLength", fn := fun _ => fun
  | [d1, d2] => { results := [.lit (.bool false)], args := [d1, d2] }
  | _ => none }
def FnExactRepairLengthWrongFalsely : Prop := fnExactRepairLengthRow.holds Tryz.pinned (OpenSpec.ofChange fnExactRepairLengthWrong)

/-- 'laws.FnExactCountRedundant': WHATEVER THE INPUT: true; the input reads as it did. -/
def fnExactCountRedundantSpec : ChangeSpec := { name := "fnExactCountRedundant", fn := fun _ => fun
  | [d1, d2] => { results := [.lit (.bool true)], args := [d1, d2] }
  | _ => none }
def fnExactCountRedundantRow : OpenClaim := { program := "ytoegmaebdihnaaagreatdoor", sum := "da08b9e94a6e9985461d9acc3333378f229bf786096fc5beefdee7ff07313b5b", func := "loop.example/g00518/laws.FnExactCountRedundant", spec := "fnExactCountRedundant", inPlace := ["internal/reflectlite.ValueOf", "(internal/reflectlite.Value).Type", "(internal/reflectlite.Value).IsNil", "internal/reflectlite.TypeOf", "(internal/reflectlite.Value).Elem", "(internal/reflectlite.Value).Set"], unfollowed := true, recurses := true, named := ["errors.errorType"], apart := false, laid := [("errors.errorType", laid_errors_errorType)] }
def FnExactCountRedundantSaid : Prop := fnExactCountRedundantRow.holds Tryz.pinned (OpenSpec.ofChange fnExactCountRedundantSpec)

/-- ITS FALSE NEIGHBOUR: 'it returns false'. Refute it at one input. -/
def fnExactCountRedundantWrong : ChangeSpec := { name := "fnExactCountRedundant", fn := fun _ => fun
  | [d1, d2] => { results := [.lit (.bool false)], args := [d1, d2] }
  | _ => none }
def FnExactCountRedundantWrongFalsely : Prop := fnExactCountRedundantRow.holds Tryz.pinned (OpenSpec.ofChange fnExactCountRedundantWrong)

/-- 'laws.FnExactIsCanonical': WHATEVER THE INPUT: true; the input reads as it did. -/
def fnExactIsCanonicalSpec : ChangeSpec := { name := "fnExactIsCanonical", fn := fun _ => fun
  | [d1, d2] => { results := [.lit (.bool true)], args := [d1, d2] }
  | _ => none }
def fnExactIsCanonicalRow : OpenClaim := { program := "ytoegmaebdihnaaagreatdoor", sum := "da08b9e94a6e9985461d9acc3333378f229bf786096fc5beefdee7ff07313b5b", func := "loop.example/g00518/laws.FnExactIsCanonical", spec := "fnExactIsCanonical", inPlace := ["internal/reflectlite.ValueOf", "(internal/reflectlite.Value).Type", "(internal/reflectlite.Value).IsNil", "internal/reflectlite.TypeOf", "(internal/reflectlite.Value).Elem", "(internal/reflectlite.Value).Set"], unfollowed := true, recurses := true, named := ["errors.errorType"], apart := false, laid := [("errors.errorType", laid_errors_errorType)] }
def FnExactIsCanonicalSaid : Prop := fnExactIsCanonicalRow.holds Tryz.pinned (OpenSpec.ofChange fnExactIsCanonicalSpec)

/-- ITS FALSE NEIGHBOUR: 'it returns false'. Refute it at one input. -/
def fnExactIsCanonicalWrong : ChangeSpec := { name := "fnExactIsCanonical", fn := fun _ => fun
  | [d1, d2] => { results := [.lit (.bool false)], args := [d1, d2] }
  | _ => none }
def FnExactIsCanonicalWrongFalsely : Prop := fnExactIsCanonicalRow.holds Tryz.pinned (OpenSpec.ofChange fnExactIsCanonicalWrong)

/-- 'laws.FnExactCanonicalFile': WHATEVER THE INPUT: true; the input reads as it did. -/
def fnExactCanonicalFileSpec : ChangeSpec := { name := "fnExactCanonicalFile", fn := fun _ => fun
  | [d1, d2] => { results := [.lit (.bool true)], args := [d1, d2] }
  | _ => none }
def fnExactCanonicalFileRow : OpenClaim := { program := "ytoegmaebdihnaaagreatdoor", sum := "da08b9e94a6e9985461d9acc3333378f229bf786096fc5beefdee7ff07313b5b", func := "loop.example/g00518/laws.FnExactCanonicalFile", spec := "fnExactCanonicalFile", inPlace := ["internal/reflectlite.ValueOf", "(internal/reflectlite.Value).Type", "(internal/reflectlite.Value).IsNil", "internal/reflectlite.TypeOf", "(internal/reflectlite.Value).Elem", "(internal/reflectlite.Value).Set"], unfollowed := true, recurses := true, named := ["errors.errorType"], apart := false, laid := [("errors.errorType", laid_errors_errorType)] }
def FnExactCanonicalFileSaid : Prop := fnExactCanonicalFileRow.holds Tryz.pinned (OpenSpec.ofChange fnExactCanonicalFileSpec)

/-- ITS FALSE NEIGHBOUR: 'it returns false'. Refute it at one input. -/
def fnExactCanonicalFileWrong : ChangeSpec := { name := "fnExactCanonicalFile", fn := fun _ => fun
  | [d1, d2] => { results := [.lit (.bool false)], args := [d1, d2] }
  | _ => none }
def FnExactCanonicalFileWrongFalsely : Prop := fnExactCanonicalFileRow.holds Tryz.pinned (OpenSpec.ofChange fnExactCanonicalFileWrong)

/- THE SECOND FORM. 'bulk': how many values and letters a reading holds, each counted each time it is reached (what is shared counts as often as it is met; a slice's spare places count too). A statement '..UptoSaid' is the law's where the arguments, and the package variables that the reading takes, are together of bulk at most 1048576: NARROWER than '..Said'. Prove '..Said' where nothing that the law and all that it calls make is longer than what came in: it says more and counts as full. Else prove '..UptoSaid'. A law counts once. -/
mutual
def uptoBulk {H : Type} : DataW H → Nat
  | .lit (.string bytes) => bytes.length + 1
  | .lit _ => 1
  | .nil => 1
  | .ptr d => uptoBulk d + 1
  | .slice elems spare => uptoBulkAll elems + uptoBulkAll spare + 1
  | .agg parts => uptoBulkAll parts + 1
  | .iface _ d => uptoBulk d + 1
  | .map entries => uptoBulkEntries entries + 1
  | .held _ => 1
def uptoBulkAll {H : Type} : List (DataW H) → Nat
  | [] => 0
  | d :: r => uptoBulk d + uptoBulkAll r
def uptoBulkEntries {H : Type} : List (Lit × DataW H) → Nat
  | [] => 0
  | x :: r => uptoBulkEntry x + uptoBulkEntries r
def uptoBulkEntry {H : Type} : Lit × DataW H → Nat
  | (.string bytes, d) => bytes.length + uptoBulk d + 1
  | (_, d) => uptoBulk d + 1
 end
def uptoSmall : (H : Type) → List (DataW H) → Bool := fun _ ds => decide (uptoBulkAll ds ≤ 1048576)
def OpenSpec.upto (s : _root_.Go.ChangeSpec) : _root_.Go.OpenSpec := { _root_.Go.OpenSpec.ofChange s with cond := some uptoSmall }

/-- 'laws.FnExactIsFileOf', WHERE WHAT IT READS IS OF BULK AT MOST 1048576: true; the input reads as it did. -/
def fnExactIsFileOfUptoRow : OpenClaim := { program := "ytoegmaebdihnaaagreatdoor", sum := "da08b9e94a6e9985461d9acc3333378f229bf786096fc5beefdee7ff07313b5b", func := "loop.example/g00518/laws.FnExactIsFileOf", spec := "fnExactIsFileOf", inPlace := ["internal/reflectlite.ValueOf", "(internal/reflectlite.Value).Type", "(internal/reflectlite.Value).IsNil", "internal/reflectlite.TypeOf", "(internal/reflectlite.Value).Elem", "(internal/reflectlite.Value).Set"], unfollowed := true, recurses := true, named := ["errors.errorType"], apart := false, laid := [("errors.errorType", laid_errors_errorType)], narrowed := true }
def FnExactIsFileOfUptoSaid : Prop := fnExactIsFileOfUptoRow.holds Tryz.pinned (OpenSpec.upto fnExactIsFileOfSpec)

/-- 'laws.FnExactMissingAtLeast', WHERE WHAT IT READS IS OF BULK AT MOST 1048576: true; the input reads as it did. -/
def fnExactMissingAtLeastUptoRow : OpenClaim := { program := "ytoegmaebdihnaaagreatdoor", sum := "da08b9e94a6e9985461d9acc3333378f229bf786096fc5beefdee7ff07313b5b", func := "loop.example/g00518/laws.FnExactMissingAtLeast", spec := "fnExactMissingAtLeast", inPlace := ["internal/reflectlite.TypeOf"], unfollowed := true, recurses := true, named := ["loop.example/g00518/impl.errTruncated"], ifaces := true, apart := false, laid := [("loop.example/g00518/impl.errTruncated", laid_loop_example_g00518_impl_errTruncated)], narrowed := true }
def FnExactMissingAtLeastUptoSaid : Prop := fnExactMissingAtLeastUptoRow.holds Tryz.pinned (OpenSpec.upto fnExactMissingAtLeastSpec)

/-- 'laws.FnExactSameFile', WHERE WHAT IT READS IS OF BULK AT MOST 1048576: true; the input reads as it did. -/
def fnExactSameFileUptoRow : OpenClaim := { program := "ytoegmaebdihnaaagreatdoor", sum := "da08b9e94a6e9985461d9acc3333378f229bf786096fc5beefdee7ff07313b5b", func := "loop.example/g00518/laws.FnExactSameFile", spec := "fnExactSameFile", inPlace := ["internal/reflectlite.ValueOf", "(internal/reflectlite.Value).Type", "(internal/reflectlite.Value).IsNil", "internal/reflectlite.TypeOf", "(internal/reflectlite.Value).Elem", "(internal/reflectlite.Value).Set"], unfollowed := true, recurses := true, named := ["errors.errorType"], apart := false, laid := [("errors.errorType", laid_errors_errorType)], narrowed := true }
def FnExactSameFileUptoSaid : Prop := fnExactSameFileUptoRow.holds Tryz.pinned (OpenSpec.upto fnExactSameFileSpec)

/-- 'laws.FnExactReadValue', WHERE WHAT IT READS IS OF BULK AT MOST 1048576: true; the input reads as it did. -/
def fnExactReadValueUptoRow : OpenClaim := { program := "ytoegmaebdihnaaagreatdoor", sum := "da08b9e94a6e9985461d9acc3333378f229bf786096fc5beefdee7ff07313b5b", func := "loop.example/g00518/laws.FnExactReadValue", spec := "fnExactReadValue", inPlace := ["internal/reflectlite.ValueOf", "(internal/reflectlite.Value).Type", "(internal/reflectlite.Value).IsNil", "internal/reflectlite.TypeOf", "(internal/reflectlite.Value).Elem", "(internal/reflectlite.Value).Set"], unfollowed := true, recurses := true, named := ["errors.errorType"], apart := false, laid := [("errors.errorType", laid_errors_errorType)], narrowed := true }
def FnExactReadValueUptoSaid : Prop := fnExactReadValueUptoRow.holds Tryz.pinned (OpenSpec.upto fnExactReadValueSpec)

/-- 'laws.FnExactReadFile', WHERE WHAT IT READS IS OF BULK AT MOST 1048576: true; the input reads as it did. -/
def fnExactReadFileUptoRow : OpenClaim := { program := "ytoegmaebdihnaaagreatdoor", sum := "da08b9e94a6e9985461d9acc3333378f229bf786096fc5beefdee7ff07313b5b", func := "loop.example/g00518/laws.FnExactReadFile", spec := "fnExactReadFile", inPlace := ["internal/reflectlite.ValueOf", "(internal/reflectlite.Value).Type", "(internal/reflectlite.Value).IsNil", "internal/reflectlite.TypeOf", "(internal/reflectlite.Value).Elem", "(internal/reflectlite.Value).Set"], unfollowed := true, recurses := true, named := ["errors.errorType"], apart := false, laid := [("errors.errorType", laid_errors_errorType)], narrowed := true }
def FnExactReadFileUptoSaid : Prop := fnExactReadFileUptoRow.holds Tryz.pinned (OpenSpec.upto fnExactReadFileSpec)

/-- 'laws.FnExactDetectVersions', WHERE WHAT IT READS IS OF BULK AT MOST 1048576: true; the input reads as it did. -/
def fnExactDetectVersionsUptoRow : OpenClaim := { program := "ytoegmaebdihnaaagreatdoor", sum := "da08b9e94a6e9985461d9acc3333378f229bf786096fc5beefdee7ff07313b5b", func := "loop.example/g00518/laws.FnExactDetectVersions", spec := "fnExactDetectVersions", inPlace := ["internal/reflectlite.ValueOf", "(internal/reflectlite.Value).Type", "(internal/reflectlite.Value).IsNil", "internal/reflectlite.TypeOf", "(internal/reflectlite.Value).Elem", "(internal/reflectlite.Value).Set"], unfollowed := true, recurses := true, named := ["errors.errorType"], apart := false, laid := [("errors.errorType", laid_errors_errorType)], narrowed := true }
def FnExactDetectVersionsUptoSaid : Prop := fnExactDetectVersionsUptoRow.holds Tryz.pinned (OpenSpec.upto fnExactDetectVersionsSpec)

/-- 'laws.FnExactRepairReplace', WHERE WHAT IT READS IS OF BULK AT MOST 1048576: true; the input reads as it did. -/
def fnExactRepairReplaceUptoRow : OpenClaim := { program := "ytoegmaebdihnaaagreatdoor", sum := "da08b9e94a6e9985461d9acc3333378f229bf786096fc5beefdee7ff07313b5b", func := "loop.example/g00518/laws.FnExactRepairReplace", spec := "fnExactRepairReplace", inPlace := ["internal/reflectlite.ValueOf", "(internal/reflectlite.Value).Type", "(internal/reflectlite.Value).IsNil", "internal/reflectlite.TypeOf", "(internal/reflectlite.Value).Elem", "(internal/reflectlite.Value).Set"], unfollowed := true, recurses := true, named := ["errors.errorType"], apart := false, laid := [("errors.errorType", laid_errors_errorType)], narrowed := true }
def FnExactRepairReplaceUptoSaid : Prop := fnExactRepairReplaceUptoRow.holds Tryz.pinned (OpenSpec.upto fnExactRepairReplaceSpec)

/-- 'laws.FnExactRepairLength', WHERE WHAT IT READS IS OF BULK AT MOST 1048576: true; the input reads as it did. -/
def fnExactRepairLengthUptoRow : OpenClaim := { program := "ytoegmaebdihnaaagreatdoor", sum := "da08b9e94a6e9985461d9acc3333378f229bf786096fc5beefdee7ff07313b5b", func := "loop.example/g00518/laws.FnExactRepairLength", spec := "fnExactRepairLength", inPlace := ["internal/reflectlite.ValueOf", "(internal/reflectlite.Value).Type", "(internal/reflectlite.Value).IsNil", "internal/reflectlite.TypeOf", "(internal/reflectlite.Value).Elem", "(internal/reflectlite.Value).Set"], unfollowed := true, recurses := true, named := ["errors.errorType"], apart := false, laid := [("errors.errorType", laid_errors_errorType)], narrowed := true }
def FnExactRepairLengthUptoSaid : Prop := fnExactRepairLengthUptoRow.holds Tryz.pinned (OpenSpec.upto fnExactRepairLengthSpec)

/-- 'laws.FnExactCountRedundant', WHERE WHAT IT READS IS OF BULK AT MOST 1048576: true; the input reads as it did. -/
def fnExactCountRedundantUptoRow : OpenClaim := { program := "ytoegmaebdihnaaagreatdoor", sum := "da08b9e94a6e9985461d9acc3333378f229bf786096fc5beefdee7ff07313b5b", func := "loop.example/g00518/laws.FnExactCountRedundant", spec := "fnExactCountRedundant", inPlace := ["internal/reflectlite.ValueOf", "(internal/reflectlite.Value).Type", "(internal/reflectlite.Value).IsNil", "internal/reflectlite.TypeOf", "(internal/reflectlite.Value).Elem", "(internal/reflectlite.Value).Set"], unfollowed := true, recurses := true, named := ["errors.errorType"], apart := false, laid := [("errors.errorType", laid_errors_errorType)], narrowed := true }
def FnExactCountRedundantUptoSaid : Prop := fnExactCountRedundantUptoRow.holds Tryz.pinned (OpenSpec.upto fnExactCountRedundantSpec)

/-- 'laws.FnExactIsCanonical', WHERE WHAT IT READS IS OF BULK AT MOST 1048576: true; the input reads as it did. -/
def fnExactIsCanonicalUptoRow : OpenClaim := { program := "ytoegmaebdihnaaagreatdoor", sum := "da08b9e94a6e9985461d9acc3333378f229bf786096fc5beefdee7ff07313b5b", func := "loop.example/g00518/laws.FnExactIsCanonical", spec := "fnExactIsCanonical", inPlace := ["internal/reflectlite.ValueOf", "(internal/reflectlite.Value).Type", "(internal/reflectlite.Value).IsNil", "internal/reflectlite.TypeOf", "(internal/reflectlite.Value).Elem", "(internal/reflectlite.Value).Set"], unfollowed := true, recurses := true, named := ["errors.errorType"], apart := false, laid := [("errors.errorType", laid_errors_errorType)], narrowed := true }
def FnExactIsCanonicalUptoSaid : Prop := fnExactIsCanonicalUptoRow.holds Tryz.pinned (OpenSpec.upto fnExactIsCanonicalSpec)

/-- 'laws.FnExactCanonicalFile', WHERE WHAT IT READS IS OF BULK AT MOST 1048576: true; the input reads as it did. -/
def fnExactCanonicalFileUptoRow : OpenClaim := { program := "ytoegmaebdihnaaagreatdoor", sum := "da08b9e94a6e9985461d9acc3333378f229bf786096fc5beefdee7ff07313b5b", func := "loop.example/g00518/laws.FnExactCanonicalFile", spec := "fnExactCanonicalFile", inPlace := ["internal/reflectlite.ValueOf", "(internal/reflectlite.Value).Type", "(internal/reflectlite.Value).IsNil", "internal/reflectlite.TypeOf", "(internal/reflectlite.Value).Elem", "(internal/reflectlite.Value).Set"], unfollowed := true, recurses := true, named := ["errors.errorType"], apart := false, laid := [("errors.errorType", laid_errors_errorType)], narrowed := true }
def FnExactCanonicalFileUptoSaid : Prop := fnExactCanonicalFileUptoRow.holds Tryz.pinned (OpenSpec.upto fnExactCanonicalFileSpec)

end Rows
end Go.Proofs.YtoegmaebdihnaaaGreatDoor
