/-
  errors.Is at an error that unwraps to a sentinel (turned from the guide's SentryIs): nil, and *impl.truncation. The numbers go in by name.
-/
import Derived.Test.YtlcnmoolicfinaaGreatDoorProg
import Derived.WalkKit
import Derived.LaidEql
import Derived.Stop.Asserts
import Derived.RowKitTokens
set_option linter.unusedSimpArgs false
set_option linter.unusedVariables false
set_option linter.defProp false
set_option maxRecDepth 100000
set_option maxHeartbeats 4000000
namespace Go.Proofs.YtlcnmoolicfinaaGreatDoor
open Go.RowKit Go.Extern.Stop Go.Stop Go.Extern
set_option maxRecDepth 100000

abbrev isG : Nat := 1
theorem isTypeOf (v : Value) (w : World) : (Extern.ReflectliteType.typeOf #[.iface 130 v]).run Tryz.prog w = .ok (.iface 90 (.agg #[.pointer (some ⟨isG, 130, none⟩)])) w := by kernel_rfl
theorem isComparable (w : World) : (callFunc 117 #[.agg #[.pointer (some ⟨isG, 130, none⟩)]]).run Tryz.prog w = .ok (.value (.bool true)) w := by
  have h32 := @run_callFunc_extern Tryz.prog 117 _ (Extern.ReflectliteType.method fun t => do Extern.Rtype.noPackHeld "Comparable" t; pure (.bool (← typeInfo t).comparable)) Tryz.func117 (by kernel_rfl) (by kernel_rfl) (by kernel_rfl) (by kernel_rfl)
  have e : ((Extern.ReflectliteType.method fun t => do Extern.Rtype.noPackHeld "Comparable" t; pure (.bool (← typeInfo t).comparable)) #[.agg #[.pointer (some ⟨isG, 130, none⟩)]]).run Tryz.prog w = .ok (.bool true) w := by kernel_rfl
  rw [h32, e]
  rfl
theorem isMethodComparable (n : Nat) (v : Value) (w : World) : (Go.method (n + 1) 90 v "Comparable").run Tryz.prog w = .ok (117, v) w := by kernel_rfl
theorem isComp : (Tryz.prog.info? 130).map (·.comparable) = some true := by kernel_rfl
theorem isSize : (Tryz.prog.info? 156).map (·.size) = some 1 := by kernel_rfl
theorem noIsW (v : Value) (xT : TypeId) (w : World) : (Instr.typeAssert (.iface 81 v) xT 92 true).run Tryz.prog w = .ok (.tuple #[.nilIface, .bool false]) w := run_typeAssert_lacksB Tryz.underlying92 (by kernel_rfl) (by kernel_rfl) v xT w
theorem noIsE (v : Value) (xT : TypeId) (w : World) : (Instr.typeAssert (.iface 130 v) xT 92 true).run Tryz.prog w = .ok (.tuple #[.nilIface, .bool false]) w := run_typeAssert_lacksB Tryz.underlying92 (by kernel_rfl) (by kernel_rfl) v xT w
theorem hasUnwrapW (v : Value) (xT : TypeId) (w : World) : (Instr.typeAssert (.iface 81 v) xT 95 true).run Tryz.prog w = .ok (.tuple #[.iface 81 v, .bool true]) w := run_typeAssert_hasB Tryz.underlying95 (by kernel_rfl) v xT w
theorem methodUnwrap (n : Nat) (v : Value) (w : World) : (Go.method (n + 1) 81 v "Unwrap").run Tryz.prog w = .ok (113, v) w := by kernel_rfl

theorem is_nil (b : Addr) (w : World) :
    Calls Tryz.prog 27 #[.nilIface, .iface 130 (.pointer (some b))] w fun e w' => e = .returned (.bool false) ∧ w' = w := by
  have hn := run_eql_iface_nil_left (P := Tryz.prog) w 130 (.pointer (some b)) Tryz.underlying56
  go_enter Tryz.func27, Tryz.ntmps27
  go_wp2
  go_ret
  exact ⟨rfl, rfl⟩

theorem is_trunc (p b : Addr) (w : World) (h1 : w.cell? ⟨0, 0, none⟩ = some (.iface 130 (.pointer (some b)))) :
    Calls Tryz.prog 27 #[.iface 81 (.pointer (some p)), .iface 130 (.pointer (some b))] w fun e w' => e = .returned (.bool true) ∧ w' = w := by
  obtain ⟨i, hi, hcmp⟩ := Option.map_eq_some_iff.1 isComp
  obtain ⟨j, hj, hjs⟩ := Option.map_eq_some_iff.1 isSize
  have h8 := @run_callFunc_extern Tryz.prog 43 _ Extern.ReflectliteType.typeOf Tryz.func43 (by kernel_rfl) (by kernel_rfl) (by kernel_rfl) (by kernel_rfl)
  have tT := isTypeOf
  have cT := isComparable
  have mR := isMethodComparable
  have nW := noIsW
  have uW := hasUnwrapW
  have mU := methodUnwrap
  have heq := run_eql_iface_ptr_same (P := Tryz.prog) w b Tryz.underlying56 Tryz.underlying130 hi hcmp hj
  have hty := run_eql_iface_types (P := Tryz.prog) 81 130 (.pointer (some p)) (.pointer (some b)) Tryz.underlying56 (by decide) w
  go_enter Tryz.func27, Tryz.ntmps27
  go_wp2
  refine wp_loop_rounds 2 ?_
  rw [rounds_succ]
  go_wp2
  rw [rounds_succ]
  go_wp2
  go_ret
  exact ⟨rfl, rfl⟩
end Go.Proofs.YtlcnmoolicfinaaGreatDoor
