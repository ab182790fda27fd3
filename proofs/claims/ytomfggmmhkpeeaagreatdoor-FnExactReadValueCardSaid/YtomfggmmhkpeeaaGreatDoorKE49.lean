/-
 The engine, part 49: regions that draw their order, one of whose operations waits for all ahead of it and is waited for by all behind it.
-/
import Derived.Test.YtomfggmmhkpeeaaGreatDoorKE41
import Derived.Test.YtomfggmmhkpeeaaGreatDoorKE30
set_option linter.unusedSimpArgs false
set_option linter.unusedVariables false
set_option linter.defProp false
set_option maxRecDepth 100000
set_option maxHeartbeats 4000000
namespace Go.Proofs.YtomfggmmhkpeeaaGreatDoor.Eng
open Go Go.RowKit

section
variable {P:Program}{en:En}{ops:Array Oper}
def Piv (P:Program) (en:En) (ops:Array Oper) (o:Oper) (R:St→Prop) (s:St):Prop:=∀ a w,SimS en s a w→∀ (K:Act→World→Prop) (Q:Exit→Act→World→Prop),(∀ s' a' w',SimS en s' a' w'→R s'→K a' w')→Region.wanted o (yielded ops a.tmps)=true∧o.wp P a w K Q
variable {s:St}{o:Oper}{R:St→Prop}
end
end Go.Proofs.YtomfggmmhkpeeaaGreatDoor.Eng
