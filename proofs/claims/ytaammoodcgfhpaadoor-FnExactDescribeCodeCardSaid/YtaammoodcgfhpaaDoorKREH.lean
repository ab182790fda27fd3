/-
 What the row's condition on three tables gives; a world that meets it.
-/
import Derived.Test.YtaammoodcgfhpaaDoorKR
import Derived.Test.YtaammoodcgfhpaaDoorRows
import Derived.ChangeSame
import Derived.ChangeVars
import Derived.JoinedOf
import Derived.RowKitTokens
import Derived.LaidLaws
import Derived.LaidHandle
import Derived.Stop.Joined
import Derived.LaidSub
import Derived.MakeChecks
import Derived.Lib.LaidTab
import Derived.Lib.ItoaMem
import Derived.Stop.LaidErr
set_option linter.unusedSimpArgs false
set_option linter.unusedVariables false
set_option linter.defProp false
set_option maxRecDepth 100000
set_option maxHeartbeats 4000000
namespace Go.Proofs.YtaammoodcgfhpaaDoor
open Go.ChangeShapes Go.WideShapes Go.RowKit

abbrev laid3 : List (String × DataW Unit) := [("math/bits.deBruijn32tab", Rows.laid_math_bits_deBruijn32tab), ("math/bits.deBruijn64tab", Rows.laid_math_bits_deBruijn64tab), ("internal/strconv.uint64pow10", Rows.laid_internal_strconv_uint64pow10)]
theorem laid3_p : laid3.filter (fun x => x.1 == "internal/strconv.uint64pow10") = [("internal/strconv.uint64pow10", Lib.tabData .u64 Lib.pow10Tab)] := by kernel_rfl
theorem tab_of_laid3 {W : World} (h : laidMetH Tryd.prog laid3 W) : Lib.TabIs Tryd.prog W "internal/strconv.uint64pow10" .u64 Lib.pow10Tab := by
 have h1 := h.filter (fun x => x.1 == "internal/strconv.uint64pow10")
 rw [laid3_p,Go.MakeChecks.laidMetH_plain _ _ _ (by kernel_rfl)] at h1
 exact Lib.tabIs_of_head (g:=0) (t:=100) (e:=93) (n:=20) (by kernel_rfl) (by kernel_rfl) Tryd.underlying100 Tryd.underlying93 (by kernel_rfl) (by kernel_rfl) h1
def tabCells:DataW Unit→Array Value
 | .agg l=>(l.map fun x=>match x with
  | .lit (.int k n)=>Value.int k n
  | _=>.bool false).toArray
 | _=>#[]
noncomputable def laidWorld3 (os:Os):World:=
 let w0:=World.holding Tryd.prog os ⟨#[],#[],[]⟩
 let set:=fun (h:Array Obj) (g:Nat) (cs:Array Value)=>h.modify g fun
   | .cells _ t frozen=>.cells cs t frozen
   | o=>o
 { w0 with heap:=set (set (set w0.heap 1 (tabCells Rows.laid_math_bits_deBruijn32tab)) 2 (tabCells Rows.laid_math_bits_deBruijn64tab)) 0 (tabCells Rows.laid_internal_strconv_uint64pow10) }
theorem laidWorld3_met (os:Os) (args:Array Value):laidMetH Tryd.prog laid3 ((laidWorld3 os).forCall (fun _ _=>0) ⟨#[],args,[]⟩).memory:=
 laidMetH_of_parts (laidMet_of_run' 8 (by kernel_rfl) (by kernel_rfl)) (by kernel_rfl)
end Go.Proofs.YtaammoodcgfhpaaDoor
