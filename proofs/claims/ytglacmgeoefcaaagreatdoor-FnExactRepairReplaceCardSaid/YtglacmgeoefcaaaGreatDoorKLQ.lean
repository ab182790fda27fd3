/-
  What the laws' sizes bound: descriptions.
-/
import Derived.Test.YtglacmgeoefcaaaGreatDoorKM2
set_option linter.unusedSimpArgs false
set_option linter.unusedVariables false
set_option linter.defProp false
set_option maxRecDepth 100000
set_option maxHeartbeats 4000000
namespace Go.Proofs.YtglacmgeoefcaaaGreatDoor.Eng
open Go Go.RowKit

theorem cntR_le {M : Nat} {r : RuleD} (h : RB M r) : cntR r ≤ 4 + 4 * M := by
  have h1 := h.lb
  have h2 := h.ln
  have h3 := h.lt
  have h4 := h.lk
  unfold cntR
  omega
theorem cntRs_bd {M : Nat} {D : List RuleD} (h : ∀ r ∈ D, RB M r) : cntRs D ≤ D.length * (4 + 4 * M) := by
  induction D with
  | nil => simp [cntRs]
  | cons r D ih =>
    have h1 := ih fun x hx => h x (List.mem_cons_of_mem _ hx)
    have h2 := cntR_le (h r (List.mem_cons_self ..))
    simp only [cntRs, List.length_cons]
    rw [Nat.add_mul]
    omega
theorem cntRs_DB {D : List RuleD} (h : DB 1048576 D) : cntRs D ≤ 4398050705408 := by
  refine Nat.le_trans (cntRs_bd h.rule) (Nat.le_trans (Nat.mul_le_mul_right _ h.len) (by decide))
end Go.Proofs.YtglacmgeoefcaaaGreatDoor.Eng
