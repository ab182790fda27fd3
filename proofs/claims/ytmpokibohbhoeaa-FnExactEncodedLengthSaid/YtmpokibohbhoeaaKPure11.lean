/-
  Plain functions: which values are those of a rule.
-/
import Derived.Test.YtmpokibohbhoeaaKP
set_option linter.unusedSimpArgs false
set_option linter.unusedVariables false
namespace Go.Proofs.Ytmpokibohbhoeaa
open Go.RowKit

/-- A value's own fields fit a rule. -/
def ownV (D : List RuleD) (r : RuleD) (n : Int) (lb lv : Nat) : Bool :=
  if r.kind = 1 then decide (0 ≤ n ∧ n ≤ 2 ^ (8 * r.size.toNat) - 1 ∧ lb = 0 ∧ lv = 0)
  else if r.kind = 2 then decide (n = 0 ∧ lb = 0 ∧ lv = 0)
  else if r.kind = 3 then decide (n = 0 ∧ (lb : Int) = r.size ∧ lv = 0)
  else if r.kind = 4 then decide (n = 0 ∧ lb ≤ 400 ∧ (lb : Int) ≤ limD D (kid0 r) ∧ lv = 0)
  else if r.kind = 10 then decide (n = 0 ∧ lb ≤ 400 ∧ lv = 0)
  else if r.kind = 5 then decide (n = 0 ∧ lb = 0 ∧ lv ≤ 40 ∧ (lv : Int) ≤ limD D (kid0 r))
  else if r.kind = 6 then decide (n = 0 ∧ lb = 0 ∧ lv = r.kids.length)
  else if r.kind = 7 then decide (lb = 0 ∧ lv = 1 ∧ 0 ≤ itemK r n 0)
  else if r.kind = 8 then decide (n = 0 ∧ lb = 0 ∧ lv ≤ 1)
  else decide (n = 0 ∧ lb = 0 ∧ lv = 1)
mutual
/-- A value is one of rule i. -/
def validV (D : List RuleD) (i : Int) : V → Bool
  | .mk n bs vs => ownV D (ruleD D i) n bs.length vs.length && validVs D (ruleD D i) n 0 vs
/-- .. its items from k on. -/
def validVs (D : List RuleD) (r : RuleD) (n : Int) (k : Nat) : List V → Bool
  | [] => true
  | v :: vs => validV D (itemK r n k) v && validVs D r n (k + 1) vs
end
section
variable {D : List RuleD} {r : RuleD} {n : Int} {lb lv : Nat}
theorem ownV_1 (h : r.kind = 1) : ownV D r n lb lv = decide (0 ≤ n ∧ n ≤ 2 ^ (8 * r.size.toNat) - 1 ∧ lb = 0 ∧ lv = 0) := by rw [ownV, if_pos h]
theorem ownV_2 (h : r.kind = 2) : ownV D r n lb lv = decide (n = 0 ∧ lb = 0 ∧ lv = 0) := by rw [ownV, if_neg (by omega), if_pos h]
theorem ownV_3 (h : r.kind = 3) : ownV D r n lb lv = decide (n = 0 ∧ (lb : Int) = r.size ∧ lv = 0) := by rw [ownV, if_neg (by omega), if_neg (by omega), if_pos h]
theorem ownV_4 (h : r.kind = 4) : ownV D r n lb lv = decide (n = 0 ∧ lb ≤ 400 ∧ (lb : Int) ≤ limD D (kid0 r) ∧ lv = 0) := by rw [ownV, if_neg (by omega), if_neg (by omega), if_neg (by omega), if_pos h]
theorem ownV_10 (h : r.kind = 10) : ownV D r n lb lv = decide (n = 0 ∧ lb ≤ 400 ∧ lv = 0) := by rw [ownV, if_neg (by omega), if_neg (by omega), if_neg (by omega), if_neg (by omega), if_pos h]
theorem ownV_5 (h : r.kind = 5) : ownV D r n lb lv = decide (n = 0 ∧ lb = 0 ∧ lv ≤ 40 ∧ (lv : Int) ≤ limD D (kid0 r)) := by rw [ownV, if_neg (by omega), if_neg (by omega), if_neg (by omega), if_neg (by omega), if_neg (by omega), if_pos h]
theorem ownV_6 (h : r.kind = 6) : ownV D r n lb lv = decide (n = 0 ∧ lb = 0 ∧ lv = r.kids.length) := by rw [ownV, if_neg (by omega), if_neg (by omega), if_neg (by omega), if_neg (by omega), if_neg (by omega), if_neg (by omega), if_pos h]
theorem ownV_7 (h : r.kind = 7) : ownV D r n lb lv = decide (lb = 0 ∧ lv = 1 ∧ 0 ≤ itemK r n 0) := by rw [ownV, if_neg (by omega), if_neg (by omega), if_neg (by omega), if_neg (by omega), if_neg (by omega), if_neg (by omega), if_neg (by omega), if_pos h]
theorem ownV_8 (h : r.kind = 8) : ownV D r n lb lv = decide (n = 0 ∧ lb = 0 ∧ lv ≤ 1) := by rw [ownV, if_neg (by omega), if_neg (by omega), if_neg (by omega), if_neg (by omega), if_neg (by omega), if_neg (by omega), if_neg (by omega), if_neg (by omega), if_pos h]
theorem ownV_9 (h : r.kind = 9) : ownV D r n lb lv = decide (n = 0 ∧ lb = 0 ∧ lv = 1) := by rw [ownV, if_neg (by omega), if_neg (by omega), if_neg (by omega), if_neg (by omega), if_neg (by omega), if_neg (by omega), if_neg (by omega), if_neg (by omega), if_neg (by omega)]
end
end Go.Proofs.Ytmpokibohbhoeaa
