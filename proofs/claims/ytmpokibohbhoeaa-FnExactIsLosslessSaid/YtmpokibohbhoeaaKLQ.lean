/-
  What the laws' sizes bound: values.
-/
import Derived.Test.YtmpokibohbhoeaaKLV2
import Derived.Test.YtmpokibohbhoeaaKP2
set_option linter.unusedSimpArgs false
set_option linter.unusedVariables false
set_option linter.defProp false
set_option maxRecDepth 100000
set_option maxHeartbeats 4000000
namespace Go.Proofs.Ytmpokibohbhoeaa.Eng
open Go Go.RowKit

mutual
theorem lftV_tot : ∀ {x : Int} {v : V}, 0 ≤ x → 0 ≤ lftV x v → (totV v : Int) ≤ x - lftV x v
  | x, .mk n bs vs, h, k => by
    have hl : lft x bs.length = if x - bs.length < 0 then -1 else x - bs.length := rfl
    unfold lftV at k ⊢
    rw [totV]
    by_cases h1 : x - bs.length < 0
    · rw [hl, if_pos h1, if_pos (by omega)] at k
      omega
    · rw [hl, if_neg h1, if_neg h1] at k ⊢
      by_cases h2 : x - bs.length - vs.length < 0
      · rw [if_pos h2] at k
        omega
      · rw [if_neg h2] at k ⊢
        have := subV_tot (x := x - bs.length - vs.length) (vs := vs) (by omega) k
        omega
theorem subV_tot : ∀ {x : Int} {vs : List V}, 0 ≤ x → 0 ≤ subV x vs → (totVs vs : Int) ≤ x - subV x vs
  | x, [], _, _ => by rw [subV, totVs]; omega
  | x, v :: vs, h, k => by
    rw [subV] at k ⊢
    rw [totVs]
    split at k
    · omega
    · rename_i h1
      rw [if_neg h1]
      have a1 := lftV_tot (v := v) h (by omega)
      have a2 := subV_tot (x := lftV x v) (vs := vs) (by omega) k
      omega
end
end Go.Proofs.Ytmpokibohbhoeaa.Eng
