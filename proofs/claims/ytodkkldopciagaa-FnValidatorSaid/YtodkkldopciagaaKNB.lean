/-
 Rules that are valid: what the walks of values need of them.

 The smaller of two numbers, the program's side.
-/
import Derived.Test.YtodkkldopciagaaKN2
import Derived.Test.YtodkkldopciagaaKP
import Derived.Test.YtodkkldopciagaaKTy
import Derived.Test.YtodkkldopciagaaKN0
set_option linter.unusedSimpArgs false
set_option linter.unusedVariables false
set_option linter.defProp false
set_option maxRecDepth 100000
set_option maxHeartbeats 4000000
namespace Go.Proofs.Ytodkkldopciagaa.Eng
open Go Go.RowKit

abbrev GoodR := @Go.Proofs.Ytodkkldopciagaa.Good
section
variable {D : List RuleD}
theorem kid_int {i : Int} (h : 0 ≤ limD D i) : ∃ (j : Nat) (q : RuleD), i = j ∧ D[j]? = some q ∧ (1 ≤ q.size ∧ q.size ≤ 4) ∧ ruleD D i = q := by
 obtain ⟨q, h1, _, h3⟩ := limD_rule h
 have h1' := h1
 unfold ruleAt at h1
 split at h1
 ·rename_i h0
  exact ⟨i.toNat, q, by omega, h1, h3, ruleD_of h1'⟩
 ·cases h1
end
theorem vKnown_spec {D : List RuleD} {i : Int} (h : vKnown D i = true) : descP D ∧ 0 ≤ i ∧ i < D.length := by
 unfold vKnown at h
 simp only [Bool.and_eq_true, decide_eq_true_eq] at h
 exact ⟨descP_of h.1, h.2⟩
end Go.Proofs.Ytodkkldopciagaa.Eng
namespace Go.Proofs.Ytodkkldopciagaa.Eng
open Go Go.RowKit

def minF (m n : Int) : Int := if n < m then n else m
private def tyF := And.intro (And.intro (And.intro te65 (And.intro tk115 tk3)) (And.intro tk65 (And.intro tr115 tr3))) (And.intro (And.intro tr65 (And.intro tu115 tu3)) (And.intro (And.intro tu65 tz115) (And.intro tz3 tz65)))
theorem less_c (a b : Int) : AC Try.prog 100 [.d (iD a), .d (iD b)] none (fun r' _ => r' = .d (bD (decide (a < b)))) := by
 refine calls_body Try.func100 rfl Try.call100 Try.ntmps100 (by simp) (by simp [ArgsOk]) (by simp [Rz.nkL, Rz.nk]) fun en hsz hks hk0 => ?_; refine enS ?_
 refine walkS ?_
 (refine aw_ret ?_; (simp only [Fin, Try.results100]; refine finS ?_); exact ⟨_, _, .inl ⟨rfl, rfl⟩, List.nodup_nil, rfl⟩)

theorem pickMin_c (a : Int) {l : List Int} (hl : l.length ≤ 1048576) : AC Try.prog 99 [.d (.v (.func (.func 100) #[] #[])), .d (iD a), .d (encI l)] none (fun r' _ => r' = .d (iD (l.foldl minF a))) := by
 refine calls_body Try.func99 rfl Try.call99 Try.ntmps99 (by simp) (by simp [ArgsOk]) (by simp [Rz.nkL, Rz.nk]) fun en hsz hks hk0 => ?_; refine enS ?_
 refine walkS ?_
 refine aw_loopS [0, 6, 9, 10] (fun _ _ => []) (fun _ y => [(11, .d (iD (y.1 : Nat))), (1, .d (iD y.2))]) [] (fun _ _ => []) [] (fun _ _ => []) (fun y : Nat × Int => y.1 ≤ l.length ∧ l.foldl minF a = (l.drop y.1).foldl minF y.2) (fun y => l.length - y.1) ((0, a)) hks (fun _ => rfl) ⟨Nat.zero_le _, rfl⟩ wkS ?_; intro x hx; refine headS ?_
 obtain ⟨k, m⟩ := x
 simp only at hx ⊢
 obtain ⟨hx1, hx2⟩ := hx
 refine walkS ?_
 refine aw_condS rfl (fun hk => ?_) (fun hk => ?_)
 ·have hd : l.drop k = l[k]'(by omega) :: l.drop (k + 1) := List.drop_eq_getElem_cons (by omega)
  rw [hd, List.foldl_cons] at hx2
  (repeat (first | refine walkS ?_ | (refine callPre ?_; (first | refine callN_funS rfl (less_c (l[k]'(by omega)) m) ?_)) | (refine callPreL ?_; (first | refine callL_funS rfl (less_c (l[k]'(by omega)) m) ?_)) | (refine callPreV ?_; (first | refine callN_funS rfl (less_c (l[k]'(by omega)) m) ?_))))
  refine aw_condS rfl (fun hm => ?_) (fun hm => ?_)
  ·refine walkS ?_
   refine ⟨(k + 1, l[k]'(by omega)), ⟨by simp only; omega, by rw [hx2, minF, if_pos hm]⟩, by simp only; omega, ?_⟩
   exact wkS
  ·refine walkS ?_
   refine ⟨(k + 1, m), ⟨by simp only; omega, by rw [hx2, minF, if_neg hm]⟩, by simp only; omega, ?_⟩
   exact wkS
 ·rw [List.drop_eq_nil_of_le (by omega)] at hx2
  refine walkS ?_
  (refine aw_ret ?_; (simp only [Fin, Try.results99]; refine finS ?_); exact ⟨_, _, .inl ⟨rfl, rfl⟩, List.nodup_nil, by rw [hx2]; rfl⟩)

theorem minI_c (a b : Int) : AC Try.prog 60 [.d (iD a), .d (iD b)] none (fun r' _ => r' = .d (iD (minF a b))) := by
 refine calls_body Try.func60 rfl Try.call60 Try.ntmps60 (by simp) (by simp [ArgsOk]) (by simp [Rz.nkL, Rz.nk]) fun en hsz hks hk0 => ?_; refine enS ?_
 (repeat (first | refine walkS ?_ | (refine callPre ?_; (first | refine callN_funS rfl (pickMin_c a (l := [b]) (by simp)) ?_)) | (refine callPreL ?_; (first | refine callL_funS rfl (pickMin_c a (l := [b]) (by simp)) ?_))))
 (refine aw_ret ?_; (simp only [Fin, Try.results60]; refine finS ?_); exact ⟨_, _, .inl ⟨rfl, rfl⟩, List.nodup_nil, rfl⟩)

end Go.Proofs.Ytodkkldopciagaa.Eng
