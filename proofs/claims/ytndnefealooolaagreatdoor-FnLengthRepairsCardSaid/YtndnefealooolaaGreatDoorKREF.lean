/-
 What the row's condition on four variables gives; a world that meets it.
-/
import Derived.Test.YtndnefealooolaaGreatDoorKR
import Derived.LaidSub
import Derived.MakeChecks
import Derived.Lib.LaidTab
import Derived.Lib.ItoaMem
import Derived.Stop.LaidErr
set_option linter.unusedSimpArgs false
set_option linter.unusedVariables false
set_option linter.defProp false
set_option maxRecDepth 100000
set_option maxHeartbeats 4000000
namespace Go.Proofs.YtndnefealooolaaGreatDoor
open Go.ChangeShapes Go.WideShapes Go.RowKit

abbrev laid4 : List (String × DataW Unit) := [("math/bits.deBruijn32tab", Rows.laid_math_bits_deBruijn32tab), ("math/bits.deBruijn64tab", Rows.laid_math_bits_deBruijn64tab), ("internal/strconv.uint64pow10", Rows.laid_internal_strconv_uint64pow10), ("errors.errorType", Rows.laid_errors_errorType)]
theorem laid4_e : laid4.filter (fun x => x.1 == "errors.errorType") = [("errors.errorType", Rows.laid_errors_errorType)] := by kernel_rfl
theorem laid4_p : laid4.filter (fun x => x.1 == "internal/strconv.uint64pow10") = [("internal/strconv.uint64pow10", Lib.tabData .u64 Lib.pow10Tab)] := by kernel_rfl
theorem handle_of_laid4 {W:World} (h:laidMetH Tryz.prog laid4 W):W.cell? ⟨0,0,none⟩=some (.iface 155 (.agg #[.pointer (some ⟨Eng.glN,86,none⟩)])):=by
 have h1 := h.filter (fun x => x.1 == "errors.errorType")
 rw [laid4_e] at h1
 exact handle_of_laid h1
theorem tab_of_laid4 {W : World} (h : laidMetH Tryz.prog laid4 W) : Lib.TabIs Tryz.prog W "internal/strconv.uint64pow10" .u64 Lib.pow10Tab := by
 have h1 := h.filter (fun x => x.1 == "internal/strconv.uint64pow10")
 rw [laid4_p,Go.MakeChecks.laidMetH_plain _ _ _ (by kernel_rfl)] at h1
 exact Lib.tabIs_of_head (g:=1) (t:=184) (e:=174) (n:=20) (by kernel_rfl) (by kernel_rfl) Tryz.underlying184 Tryz.underlying174 (by kernel_rfl) (by kernel_rfl) h1
def tabCells:DataW Unit→Array Value
 | .agg l=>(l.map fun x=>match x with
  | .lit (.int k n)=>Value.int k n
  | _=>.bool false).toArray
 | _=>#[]
noncomputable def laidWorld4 (os:Os):World:=
 let w0:=laidWorld os
 let set:=fun (h:Array Obj) (g:Nat) (cs:Array Value)=>h.modify g fun
   | .cells _ t frozen=>.cells cs t frozen
   | o=>o
 { w0 with heap:=set (set (set w0.heap 2 (tabCells Rows.laid_math_bits_deBruijn32tab)) 3 (tabCells Rows.laid_math_bits_deBruijn64tab)) 1 (tabCells Rows.laid_internal_strconv_uint64pow10) }
theorem laidWorld4_met (os:Os) (args:Array Value):laidMetH Tryz.prog laid4 ((laidWorld4 os).forCall (fun _ _=>0) ⟨#[],args,[]⟩).memory:=
 laidMetH_of_parts (laidMet_of_run' 8 (by kernel_rfl) (by kernel_rfl)) (by kernel_rfl)
end Go.Proofs.YtndnefealooolaaGreatDoor
