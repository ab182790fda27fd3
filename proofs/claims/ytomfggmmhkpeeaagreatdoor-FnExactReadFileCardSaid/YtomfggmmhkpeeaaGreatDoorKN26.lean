/-
 The program's reader: arrays, choices, options, what is checked.
-/
import Derived.Test.YtomfggmmhkpeeaaGreatDoorKNF
import Derived.Test.YtomfggmmhkpeeaaGreatDoorKNR
set_option linter.unusedSimpArgs false
set_option linter.unusedVariables false
set_option linter.defProp false
set_option maxRecDepth 100000
set_option maxHeartbeats 4000000
namespace Go.Proofs.YtomfggmmhkpeeaaGreatDoor.Eng
open Go Go.RowKit

section
variable {M:Nat}{D:List RuleD}{b:List UInt8}
def RdC (D:List RuleD) (b:List UInt8) (f:FuncId) (args:List A) (x:V × Nat × Nat):Prop:=∃ m:Nat,(x.2.2=0→m=x.2.1)∧AC Tryz.prog f args none (fun r _=>r=rdE m x)
theorem atItems_mk {f:Nat→Nat→V × Nat × Nat}{ks:List Nat}{n:Int}{p:Nat} (h:(mkItems n (rdItems f ks p)).2.2=0):atItems f ks p=(mkItems n (rdItems f ks p)).2.1:=by
 unfold mkItems at h ⊢
 split at h
 ·rename_i h0
  rw [if_pos h0]
  exact atItems_end h0
 ·rename_i h0
  exact absurd h h0

private def tyF:=ai (ai (ai tg25 (ai tg27 tg86)) (ai tg87 (ai tg29 tg89))) (ai (ai tg3 (ai tg4 tg5)) (ai tg57 (ai tg61 tg9)))
end
end Go.Proofs.YtomfggmmhkpeeaaGreatDoor.Eng
