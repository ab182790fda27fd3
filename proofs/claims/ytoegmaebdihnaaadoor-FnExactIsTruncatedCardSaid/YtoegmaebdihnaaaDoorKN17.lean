/-
  The smaller of two numbers, the program's side.
-/
import Derived.Test.YtoegmaebdihnaaaDoorKTy
import Derived.Test.YtoegmaebdihnaaaDoorKN0
set_option linter.unusedSimpArgs false
set_option linter.unusedVariables false
namespace Go.Proofs.YtoegmaebdihnaaaDoor.Eng
open Go Go.RowKit

def minF (m n : Int) : Int := if n < m then n else m






end Go.Proofs.YtoegmaebdihnaaaDoor.Eng
