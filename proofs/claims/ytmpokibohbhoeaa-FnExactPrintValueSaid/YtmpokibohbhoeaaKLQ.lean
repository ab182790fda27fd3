/-
  What the laws' sizes bound: descriptions.

  What the laws' sizes bound: values.

  What the laws of printing need.
-/
import Derived.Test.YtmpokibohbhoeaaKM2
import Derived.Test.YtmpokibohbhoeaaKLV2
import Derived.Test.YtmpokibohbhoeaaKP2
import Derived.Test.YtmpokibohbhoeaaKL
import Derived.Test.YtmpokibohbhoeaaKM3
import Derived.Test.YtmpokibohbhoeaaKM4
import Derived.Test.YtmpokibohbhoeaaKN52
set_option linter.unusedSimpArgs false
set_option linter.unusedVariables false
set_option linter.defProp false
namespace Go.Proofs.Ytmpokibohbhoeaa.Eng
open Go Go.RowKit

theorem cntR_le {M : Nat} {r : RuleD} (h : RB M r) : cntR r ≤ 4 + 4 * M := by
  have h1 := h.lb
  have h2 := h.ln
  have h3 := h.lt
  have h4 := h.lk
  unfold cntR
  omega
theorem cntRs_bd {M : Nat} {D : List RuleD} (h : ∀ r ∈ D, RB M r) : cntRs D ≤ D.length * (4 + 4 * M) := by
  induction D with
  | nil => simp [cntRs]
  | cons r D ih =>
    have h1 := ih fun x hx => h x (List.mem_cons_of_mem _ hx)
    have h2 := cntR_le (h r (List.mem_cons_self ..))
    simp only [cntRs, List.length_cons]
    rw [Nat.add_mul]
    omega
theorem cntRs_DB {D : List RuleD} (h : DB 1048576 D) : cntRs D ≤ 4398050705408 := by
  refine Nat.le_trans (cntRs_bd h.rule) (Nat.le_trans (Nat.mul_le_mul_right _ h.len) (by decide))
end Go.Proofs.Ytmpokibohbhoeaa.Eng
namespace Go.Proofs.Ytmpokibohbhoeaa.Eng
open Go Go.RowKit

mutual
theorem lftV_tot : ∀ {x : Int} {v : V}, 0 ≤ x → 0 ≤ lftV x v → (totV v : Int) ≤ x - lftV x v
  | x, .mk n bs vs, h, k => by
    have hl : lft x bs.length = if x - bs.length < 0 then -1 else x - bs.length := rfl
    unfold lftV at k ⊢
    rw [totV]
    by_cases h1 : x - bs.length < 0
    · rw [hl, if_pos h1, if_pos (by omega)] at k
      omega
    · rw [hl, if_neg h1, if_neg h1] at k ⊢
      by_cases h2 : x - bs.length - vs.length < 0
      · rw [if_pos h2] at k
        omega
      · rw [if_neg h2] at k ⊢
        have := subV_tot (x := x - bs.length - vs.length) (vs := vs) (by omega) k
        omega
theorem subV_tot : ∀ {x : Int} {vs : List V}, 0 ≤ x → 0 ≤ subV x vs → (totVs vs : Int) ≤ x - subV x vs
  | x, [], _, _ => by rw [subV, totVs]; omega
  | x, v :: vs, h, k => by
    rw [subV] at k ⊢
    rw [totVs]
    split at k
    · omega
    · rename_i h1
      rw [if_neg h1]
      have a1 := lftV_tot (v := v) h (by omega)
      have a2 := subV_tot (x := lftV x v) (vs := vs) (by omega) k
      omega
end
end Go.Proofs.Ytmpokibohbhoeaa.Eng
namespace Go.Proofs.Ytmpokibohbhoeaa.Eng
open Go Go.RowKit

end Go.Proofs.Ytmpokibohbhoeaa.Eng
