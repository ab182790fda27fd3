/-
  IsValidValue: the program.
-/
import Derived.Test.YtmpokibohbhoeaaKN41
import Derived.Test.YtmpokibohbhoeaaKE4
set_option linter.unusedSimpArgs false
set_option linter.unusedVariables false
set_option linter.defProp false
set_option maxRecDepth 100000
set_option maxHeartbeats 4000000
namespace Go.Proofs.Ytmpokibohbhoeaa.Eng
open Go Go.RowKit

section
variable {M : Nat} {D : List RuleD}
private def tyF := And.intro (And.intro (And.intro (And.intro (And.intro (And.intro tb22 te106) (And.intro te107 te22)) (And.intro (And.intro te24 te42) (And.intro tf109_0 tf109_1))) (And.intro (And.intro (And.intro tf109_2 tf109_3) (And.intro tf109_4 tf109_5)) (And.intro (And.intro tf109_6 tf109_7) (And.intro tf26_0 (And.intro tf44_0 tf44_1))))) (And.intro (And.intro (And.intro (And.intro tf44_2 tk106) (And.intro tk107 tk109)) (And.intro (And.intro tk22 tk24) (And.intro tk26 (And.intro tk3 tk4)))) (And.intro (And.intro (And.intro tk42 tk44) (And.intro tk5 tk9)) (And.intro (And.intro tk99 tp109) (And.intro tp26 (And.intro tp44 tr106)))))) (And.intro (And.intro (And.intro (And.intro (And.intro tr107 tr109) (And.intro tr22 tr24)) (And.intro (And.intro tr26 tr3) (And.intro tr4 tr42))) (And.intro (And.intro (And.intro tr44 tr5) (And.intro tr9 tr99)) (And.intro (And.intro tu106 tu107) (And.intro tu22 (And.intro tu24 tu3))))) (And.intro (And.intro (And.intro (And.intro tu4 tu42) (And.intro tu5 tu9)) (And.intro (And.intro tu99 tz106) (And.intro tz107 (And.intro tz109 tz22)))) (And.intro (And.intro (And.intro tz24 tz26) (And.intro tz3 tz4)) (And.intro (And.intro tz42 tz44) (And.intro tz5 (And.intro tz9 tz99))))))
theorem isValidI_c (hD : DB M D) (hM : M ≤ 1048576) (i : Int) {v : V} (hv : VB 1048576 v) : AC Try.prog 81 [.d (encD D), .d (iD i), .d (encV v)] none (fun r' _ => r' = .d (bD (isVal D i v))) := by
  have HK := known_c hD hM i
  have hp : isVal D i v = (vKnown D i && validV D i v) := rfl
  cases hk : vKnown D i with
  | false =>
    rw [hk] at hp HK
    obtain ⟨n, bs, vs⟩ := v
    rw [encV_mk, encVs_eq]
    refine calls_body Try.func81 rfl Try.call81 Try.ntmps81 (by simp) (by simp [ArgsOk]) (by simp [Rz.nkL, Rz.nk]) fun en hsz hks hk0 => ?_; refine enS ?_
    (repeat (first | refine walkS ?_ | (refine callPre ?_; (first | refine callN_funS rfl (HK) ?_)) | (refine callPreL ?_; (first | refine callL_funS rfl (HK) ?_))))
    (refine aw_ret ?_; (simp only [Fin, Try.results81]; refine finS ?_); exact ⟨_, _, .inl ⟨rfl, rfl⟩, List.nodup_nil, by rw [hp]; rfl⟩)
  | true =>
    rw [hk] at hp HK
    obtain ⟨v1, v2, v3⟩ := vKnown_spec hk
    have HV := validI_all hD hM v1 _ (i := i.toNat) (by omega) (Nat.le_refl _) hv
    rw [Int.toNat_of_nonneg v2] at HV
    obtain ⟨n, bs, vs⟩ := v
    rw [encVc_mk, encVs_eq] at HV
    rw [encV_mk, encVs_eq]
    refine calls_body Try.func81 rfl Try.call81 Try.ntmps81 (by simp) (by simp [ArgsOk]) (by simp [Rz.nkL, Rz.nk]) fun en hsz hks hk0 => ?_; refine enS ?_
    (repeat (first | refine walkS ?_ | (refine callPre ?_; (first | refine callN_funS rfl (HK) ?_)) | (refine callPreL ?_; (first | refine callL_funS rfl (HK) ?_))))
    refine ow_freezeB 5 _ [iD n, encB bs, .sl 3 (vs.map encVc)] rfl rfl hks (by decide) ?_
    (repeat (first | refine walkS ?_ | (refine callPre ?_; (first | refine callN_funS rfl (HV) ?_)) | (refine callPreL ?_; (first | refine callL_funS rfl (HV) ?_))))
    (refine aw_ret ?_; (simp only [Fin, Try.results81]; refine finS ?_); exact ⟨_, _, .inl ⟨rfl, rfl⟩, List.nodup_nil, by rw [hp]; rfl⟩)
end
end Go.Proofs.Ytmpokibohbhoeaa.Eng
