/-
  Lists of bytes that came in.
-/
import Derived.Test.YtcpboonjaceneaaKR
import Derived.Test.YtcpboonjaceneaaKL9
set_option linter.unusedSimpArgs false
set_option linter.unusedVariables false
namespace Go.Proofs.Ytcpboonjaceneaa.Eng
open Go Go.RowKit
theorem open_BB : OpenT Try.prog 46 (fun l : List (List UInt8) => [encBs l]) (fun l => l.length ≤ maxLen ∧ ∀ x ∈ l, x.length ≤ maxLen ∧ ∀ y ∈ x, True) := open_sl Try.underlying46 (by kernel_rfl) (fun _ => rfl) (by decide) open_B
end Go.Proofs.Ytcpboonjaceneaa.Eng
