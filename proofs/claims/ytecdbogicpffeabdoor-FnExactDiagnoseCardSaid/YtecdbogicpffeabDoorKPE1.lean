/-
 Plain functions: the codes and places that reading answers with.
-/
import Derived.Test.YtecdbogicpffeabDoorKP
import Derived.Test.YtecdbogicpffeabDoorKN9
set_option linter.unusedSimpArgs false
set_option linter.unusedVariables false
set_option linter.defProp false
set_option maxRecDepth 100000
set_option maxHeartbeats 4000000
namespace Go.Proofs.YtecdbogicpffeabDoor
open Go.RowKit

namespace Eng
end Eng
end Go.Proofs.YtecdbogicpffeabDoor
