/-
  errors.Is at an error that unwraps to a sentinel (turned from the guide's SentryIs): nil, and *impl.truncation. The numbers go in by name.
-/
import Derived.Test.YtoegmaebdihnaaaDoorProg
import Derived.WalkKit
import Derived.LaidEql
import Derived.Stop.Asserts
import Derived.RowKitTokens
set_option linter.unusedSimpArgs false
set_option linter.unusedVariables false
namespace Go.Proofs.YtoegmaebdihnaaaDoor
open Go.RowKit Go.Extern.Stop Go.Stop Go.Extern
set_option maxRecDepth 100000

abbrev isG : Nat := 1
theorem isTypeOf (v : Value) (w : World) : (Extern.ReflectliteType.typeOf #[.iface 119 v]).run Tryd.prog w = .ok (.iface 74 (.agg #[.pointer (some ⟨isG, 119, none⟩)])) w := by kernel_rfl
theorem isComparable (w : World) : (callFunc 102 #[.agg #[.pointer (some ⟨isG, 119, none⟩)]]).run Tryd.prog w = .ok (.value (.bool true)) w := by
  have h32 := @run_callFunc_extern Tryd.prog 102 _ (Extern.ReflectliteType.method fun t => do Extern.Rtype.noPackHeld "Comparable" t; pure (.bool (← typeInfo t).comparable)) Tryd.func102 (by kernel_rfl) (by kernel_rfl) (by kernel_rfl) (by kernel_rfl)
  have e : ((Extern.ReflectliteType.method fun t => do Extern.Rtype.noPackHeld "Comparable" t; pure (.bool (← typeInfo t).comparable)) #[.agg #[.pointer (some ⟨isG, 119, none⟩)]]).run Tryd.prog w = .ok (.bool true) w := by kernel_rfl
  rw [h32, e]
  rfl
theorem isMethodComparable (n : Nat) (v : Value) (w : World) : (Go.method (n + 1) 74 v "Comparable").run Tryd.prog w = .ok (102, v) w := by kernel_rfl
theorem isComp : (Tryd.prog.info? 119).map (·.comparable) = some true := by kernel_rfl
theorem isSize : (Tryd.prog.info? 145).map (·.size) = some 1 := by kernel_rfl
theorem noIsW (v : Value) (xT : TypeId) (w : World) : (Instr.typeAssert (.iface 62 v) xT 76 true).run Tryd.prog w = .ok (.tuple #[.nilIface, .bool false]) w := run_typeAssert_lacksB Tryd.underlying76 (by kernel_rfl) (by kernel_rfl) v xT w
theorem noIsE (v : Value) (xT : TypeId) (w : World) : (Instr.typeAssert (.iface 119 v) xT 76 true).run Tryd.prog w = .ok (.tuple #[.nilIface, .bool false]) w := run_typeAssert_lacksB Tryd.underlying76 (by kernel_rfl) (by kernel_rfl) v xT w
theorem hasUnwrapW (v : Value) (xT : TypeId) (w : World) : (Instr.typeAssert (.iface 62 v) xT 79 true).run Tryd.prog w = .ok (.tuple #[.iface 62 v, .bool true]) w := run_typeAssert_hasB Tryd.underlying79 (by kernel_rfl) v xT w
theorem methodUnwrap (n : Nat) (v : Value) (w : World) : (Go.method (n + 1) 62 v "Unwrap").run Tryd.prog w = .ok (98, v) w := by kernel_rfl

/-- errors.Is(nil, x). -/
theorem is_nil (b : Addr) (w : World) :
    Calls Tryd.prog 14 #[.nilIface, .iface 119 (.pointer (some b))] w fun e w' => e = .returned (.bool false) ∧ w' = w := by
  have hn := run_eql_iface_nil_left (P := Tryd.prog) w 119 (.pointer (some b)) Tryd.underlying42
  go_enter Tryd.func14, Tryd.ntmps14
  go_wp2
  go_ret
  exact ⟨rfl, rfl⟩

/-- errors.Is(e, errTruncated), e a *truncation. -/
theorem is_trunc (p b : Addr) (w : World) (h1 : w.cell? ⟨0, 0, none⟩ = some (.iface 119 (.pointer (some b)))) :
    Calls Tryd.prog 14 #[.iface 62 (.pointer (some p)), .iface 119 (.pointer (some b))] w fun e w' => e = .returned (.bool true) ∧ w' = w := by
  obtain ⟨i, hi, hcmp⟩ := Option.map_eq_some_iff.1 isComp
  obtain ⟨j, hj, hjs⟩ := Option.map_eq_some_iff.1 isSize
  have h8 := @run_callFunc_extern Tryd.prog 20 _ Extern.ReflectliteType.typeOf Tryd.func20 (by kernel_rfl) (by kernel_rfl) (by kernel_rfl) (by kernel_rfl)
  have tT := isTypeOf
  have cT := isComparable
  have mR := isMethodComparable
  have nW := noIsW
  have uW := hasUnwrapW
  have mU := methodUnwrap
  have heq := run_eql_iface_ptr_same (P := Tryd.prog) w b Tryd.underlying42 Tryd.underlying119 hi hcmp hj
  have hty := run_eql_iface_types (P := Tryd.prog) 62 119 (.pointer (some p)) (.pointer (some b)) Tryd.underlying42 (by decide) w
  go_enter Tryd.func14, Tryd.ntmps14
  go_wp2
  refine wp_loop_rounds 2 ?_
  rw [rounds_succ]
  go_wp2
  rw [rounds_succ]
  go_wp2
  go_ret
  exact ⟨rfl, rfl⟩
end Go.Proofs.YtoegmaebdihnaaaDoor
