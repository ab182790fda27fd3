/-
  Plain law: what is printed is read.
-/
import Derived.Test.YtnndpimlfibncaaGreatDoorKPLP
import Derived.Test.YtnndpimlfibncaaGreatDoorKPure16
import Derived.Test.YtnndpimlfibncaaGreatDoorKN9
import Derived.Test.YtnndpimlfibncaaGreatDoorKNRF
set_option linter.unusedSimpArgs false
set_option linter.unusedVariables false
set_option linter.defProp false
set_option maxRecDepth 100000
set_option maxHeartbeats 4000000
namespace Go.Proofs.YtnndpimlfibncaaGreatDoor.Eng
open Go Go.RowKit

section
variable {D : List RuleD}
theorem readV_at (hV : vDesc D = true) {i : Nat} (hi : i < D.length) {b : List UInt8} {p : Nat} (hp : p ≤ b.length) (hb : b.length ≤ 400) : readV D b (i : Int) (p : Int) = rd D b D.length i p := by
  unfold readV
  rw [if_pos ⟨vKnown_yes hV (by omega), by omega, hb⟩, Int.toNat_natCast, Int.toNat_natCast]
end
end Go.Proofs.YtnndpimlfibncaaGreatDoor.Eng
