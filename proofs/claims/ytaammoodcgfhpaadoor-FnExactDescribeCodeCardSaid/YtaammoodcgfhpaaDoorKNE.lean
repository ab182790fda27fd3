/-
 Bytes up to a terminator.
-/
import Derived.Test.YtaammoodcgfhpaaDoorKTy
import Derived.Test.YtaammoodcgfhpaaDoorKN0
import Derived.KernelRfl
set_option linter.unusedSimpArgs false
set_option linter.unusedVariables false
set_option linter.defProp false
set_option maxRecDepth 100000
set_option maxHeartbeats 4000000
namespace Go.Proofs.YtaammoodcgfhpaaDoor.Eng
open Go Go.RowKit

theorem l1In_t {n a b:Int} (h:a≤n∧n≤b):AC Tryd.prog 30 [.d (iD n),.d (iD a),.d (iD b)] none (fun r _=>r=.d (bD true)):=(l1In_c n a b).eqv (by simp [h])
theorem l1In_f {n a b:Int} (h:¬(a≤n∧n≤b)):AC Tryd.prog 30 [.d (iD n),.d (iD a),.d (iD b)] none (fun r _=>r=.d (bD false)):=(l1In_c n a b).eqv (by
 congr 3
 rw [←Bool.decide_and]
 exact decide_eq_false h)
abbrev rtR (l:List UInt8) (p:Nat) (t:UInt8):Rz:=.d (.tup [encB (rdT l p t).1,iD (rdT l p t).2.1,bD (rdT l p t).2.2])




end Go.Proofs.YtaammoodcgfhpaaDoor.Eng
