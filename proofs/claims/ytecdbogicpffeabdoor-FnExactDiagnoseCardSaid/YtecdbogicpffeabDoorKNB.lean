/-
 Rules that are valid: what the walks of values need of them.

 The smaller of two numbers, the program's side.
-/
import Derived.Test.YtecdbogicpffeabDoorKN2
import Derived.Test.YtecdbogicpffeabDoorKP
import Derived.Test.YtecdbogicpffeabDoorKTy
import Derived.Test.YtecdbogicpffeabDoorKN0
set_option linter.unusedSimpArgs false
set_option linter.unusedVariables false
set_option linter.defProp false
set_option maxRecDepth 100000
set_option maxHeartbeats 4000000
namespace Go.Proofs.YtecdbogicpffeabDoor.Eng
open Go Go.RowKit

abbrev GoodR:=@Go.Proofs.YtecdbogicpffeabDoor.Good
section
variable {D:List RuleD}
theorem kid_int {i:Int} (h:0≤limD D i):∃ (j:Nat) (q:RuleD),i=j∧D[j]?=some q∧(1≤q.size∧q.size≤4)∧ruleD D i=q:=by
 obtain ⟨q,h1,_,h3⟩:=limD_rule h
 have h1':=h1
 unfold ruleAt at h1
 split at h1
 ·rename_i h0
  exact ⟨i.toNat,q,by omega,h1,h3,ruleD_of h1'⟩
 ·cases h1
end
theorem vKnown_spec {D:List RuleD}{i:Int} (h:vKnown D i=true):descP D∧0≤i∧i<D.length:=by
 unfold vKnown at h
 simp only [Bool.and_eq_true,decide_eq_true_eq] at h
 exact ⟨descP_of h.1,h.2⟩
end Go.Proofs.YtecdbogicpffeabDoor.Eng
namespace Go.Proofs.YtecdbogicpffeabDoor.Eng
open Go Go.RowKit

def minF (m n:Int):Int:=if n<m then n else m






end Go.Proofs.YtecdbogicpffeabDoor.Eng
