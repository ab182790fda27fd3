/-
 Draws: a bent text.
-/
import Derived.Test.YtndnefealooolaaGreatDoorKNDB
import Derived.Test.YtndnefealooolaaGreatDoorKPDX
set_option linter.unusedSimpArgs false
set_option linter.unusedVariables false
set_option linter.defProp false
set_option maxRecDepth 100000
set_option maxHeartbeats 4000000
namespace Go.Proofs.YtndnefealooolaaGreatDoor.Eng
open Go Go.RowKit

section
variable {c:Cur}{b:List UInt8}
end
section
variable {p:Nat→Prop}
private def tyF:=ai (ai tg22 tg57) (ai tg3 (ai tg5 tg59))
end
end Go.Proofs.YtndnefealooolaaGreatDoor.Eng
