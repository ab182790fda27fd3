/-
 Plain functions: the size of what is read.
-/
import Derived.Test.YtomfggmmhkpeeaaGreatDoorKN10
import Derived.Test.YtomfggmmhkpeeaaGreatDoorKPure14
set_option linter.unusedSimpArgs false
set_option linter.unusedVariables false
set_option linter.defProp false
set_option maxRecDepth 100000
set_option maxHeartbeats 4000000
namespace Go.Proofs.YtomfggmmhkpeeaaGreatDoor.Eng
open Go Go.RowKit

theorem DB.mono {M N:Nat}{D:List RuleD} (h:DB M D) (k:M≤N):DB N D:=
 ⟨Nat.le_trans h.len k,fun r hr=>by
  have:=h.rule r hr
  exact ⟨Nat.le_trans this.name k,Nat.le_trans this.lb k,Nat.le_trans this.ln k,Nat.le_trans this.lt k,Nat.le_trans this.lk k,fun s hs=>Nat.le_trans (this.nm s hs) k⟩⟩

def Tq (f p:Nat) (z:V × Nat × Nat):Prop:=z.2.2=0→p+1≤z.2.1∧totV z.1+f*p≤f*z.2.1
end Go.Proofs.YtomfggmmhkpeeaaGreatDoor.Eng
