/-
 Items of a rule.

 Rules that are valid: what the walks of values need of them.

 The smaller of two numbers, the program's side.

 Small functions of the reference; the rule of an item.
-/
import Derived.Test.YtaammoodcgfhpaaDoorKTy
import Derived.Test.YtaammoodcgfhpaaDoorKN0
import Derived.Test.YtaammoodcgfhpaaDoorKE3
import Derived.Test.YtaammoodcgfhpaaDoorKP
import Derived.Test.YtaammoodcgfhpaaDoorKNE
import Derived.Test.YtaammoodcgfhpaaDoorKP2
set_option linter.unusedSimpArgs false
set_option linter.unusedVariables false
set_option linter.defProp false
set_option maxRecDepth 100000
set_option maxHeartbeats 4000000
namespace Go.Proofs.YtaammoodcgfhpaaDoor.Eng
open Go Go.RowKit

end Go.Proofs.YtaammoodcgfhpaaDoor.Eng
namespace Go.Proofs.YtaammoodcgfhpaaDoor.Eng
open Go Go.RowKit

abbrev GoodR:=@Go.Proofs.YtaammoodcgfhpaaDoor.Good
section
variable {D:List RuleD}
end
end Go.Proofs.YtaammoodcgfhpaaDoor.Eng
namespace Go.Proofs.YtaammoodcgfhpaaDoor.Eng
open Go Go.RowKit

def minF (m n:Int):Int:=if n<m then n else m






end Go.Proofs.YtaammoodcgfhpaaDoor.Eng
namespace Go.Proofs.YtaammoodcgfhpaaDoor.Eng
open Go Go.RowKit

private def tyF:=tg3
section
variable {M:Nat}{D:List RuleD}
end
end Go.Proofs.YtaammoodcgfhpaaDoor.Eng
