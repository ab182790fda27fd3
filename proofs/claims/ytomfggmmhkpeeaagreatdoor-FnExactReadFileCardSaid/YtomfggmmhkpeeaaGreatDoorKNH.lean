/-
 The program's reader: choices.

 The program's reader: options.

 The program's reader: what is checked.
-/
import Derived.Test.YtomfggmmhkpeeaaGreatDoorKN26
set_option linter.unusedSimpArgs false
set_option linter.unusedVariables false
set_option linter.defProp false
set_option maxRecDepth 100000
set_option maxHeartbeats 4000000
namespace Go.Proofs.YtomfggmmhkpeeaaGreatDoor.Eng
open Go Go.RowKit

section
variable {M:Nat}{D:List RuleD}{b:List UInt8}
private def tyF:=ai (ai (ai tg25 (ai tg27 tg32)) (ai (ai tg86 tg87) (ai tg29 tg34))) (ai (ai (ai tg59 tg89) (ai tg3 tg4)) (ai (ai tg5 tg57) (ai tg61 tg9)))
end
end Go.Proofs.YtomfggmmhkpeeaaGreatDoor.Eng
namespace Go.Proofs.YtomfggmmhkpeeaaGreatDoor.Eng
open Go Go.RowKit

section
variable {M:Nat}{D:List RuleD}{b:List UInt8}
end
end Go.Proofs.YtomfggmmhkpeeaaGreatDoor.Eng
namespace Go.Proofs.YtomfggmmhkpeeaaGreatDoor.Eng
open Go Go.RowKit

section
variable {M:Nat}{D:List RuleD}{b:List UInt8}
end
end Go.Proofs.YtomfggmmhkpeeaaGreatDoor.Eng
