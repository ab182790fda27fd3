/-
  IsValidValue: the program.
-/
import Derived.Test.YtnndpimlfibncaaKN41
import Derived.Test.YtnndpimlfibncaaKE4
set_option linter.unusedSimpArgs false
set_option linter.unusedVariables false
set_option linter.defProp false
set_option maxRecDepth 100000
set_option maxHeartbeats 4000000
namespace Go.Proofs.Ytnndpimlfibncaa.Eng
open Go Go.RowKit

section
variable {M : Nat} {D : List RuleD}
private def tyF := And.intro (And.intro (And.intro (And.intro (And.intro (And.intro tb22 te22) (And.intro te24 te33)) (And.intro (And.intro te60 te61) (And.intro tf26_0 tf37_0))) (And.intro (And.intro (And.intro tf37_1 tf37_2) (And.intro tf63_0 tf63_1)) (And.intro (And.intro tf63_2 tf63_3) (And.intro tf63_4 (And.intro tf63_5 tf63_6))))) (And.intro (And.intro (And.intro (And.intro tf63_7 tk22) (And.intro tk24 tk26)) (And.intro (And.intro tk3 tk33) (And.intro tk37 (And.intro tk4 tk5)))) (And.intro (And.intro (And.intro tk60 tk61) (And.intro tk63 tk85)) (And.intro (And.intro tk9 tp26) (And.intro tp37 (And.intro tp63 tr22)))))) (And.intro (And.intro (And.intro (And.intro (And.intro tr24 tr26) (And.intro tr3 tr33)) (And.intro (And.intro tr37 tr4) (And.intro tr5 tr60))) (And.intro (And.intro (And.intro tr61 tr63) (And.intro tr85 tr9)) (And.intro (And.intro tu22 tu24) (And.intro tu3 (And.intro tu33 tu4))))) (And.intro (And.intro (And.intro (And.intro tu5 tu60) (And.intro tu61 tu85)) (And.intro (And.intro tu9 tz22) (And.intro tz24 (And.intro tz26 tz3)))) (And.intro (And.intro (And.intro tz33 tz37) (And.intro tz4 tz5)) (And.intro (And.intro tz60 tz61) (And.intro tz63 (And.intro tz85 tz9))))))
theorem isValidI_c (hD : DB M D) (hM : M ≤ 1048576) (i : Int) {v : V} (hv : VB 1048576 v) : AC Try.prog 72 [.d (encD D), .d (iD i), .d (encV v)] none (fun r' _ => r' = .d (bD (isVal D i v))) := by
  have HK := known_c hD hM i
  have hp : isVal D i v = (vKnown D i && validV D i v) := rfl
  cases hk : vKnown D i with
  | false =>
    rw [hk] at hp HK
    obtain ⟨n, bs, vs⟩ := v
    rw [encV_mk, encVs_eq]
    refine calls_body Try.func72 rfl Try.call72 Try.ntmps72 (by simp) (by simp [ArgsOk]) (by simp [Rz.nkL, Rz.nk]) fun en hsz hks hk0 => ?_; refine enS ?_
    (repeat (first | refine walkS ?_ | (refine callPre ?_; (first | refine callN_funS rfl (HK) ?_)) | (refine callPreL ?_; (first | refine callL_funS rfl (HK) ?_))))
    (refine aw_ret ?_; (simp only [Fin, Try.results72]; refine finS ?_); exact ⟨_, _, .inl ⟨rfl, rfl⟩, List.nodup_nil, by rw [hp]; rfl⟩)
  | true =>
    rw [hk] at hp HK
    obtain ⟨v1, v2, v3⟩ := vKnown_spec hk
    have HV := validI_all hD hM v1 _ (i := i.toNat) (by omega) (Nat.le_refl _) hv
    rw [Int.toNat_of_nonneg v2] at HV
    obtain ⟨n, bs, vs⟩ := v
    rw [encVc_mk, encVs_eq] at HV
    rw [encV_mk, encVs_eq]
    refine calls_body Try.func72 rfl Try.call72 Try.ntmps72 (by simp) (by simp [ArgsOk]) (by simp [Rz.nkL, Rz.nk]) fun en hsz hks hk0 => ?_; refine enS ?_
    (repeat (first | refine walkS ?_ | (refine callPre ?_; (first | refine callN_funS rfl (HK) ?_)) | (refine callPreL ?_; (first | refine callL_funS rfl (HK) ?_))))
    refine ow_freezeB 5 _ [iD n, encB bs, .sl 3 (vs.map encVc)] rfl rfl hks (by decide) ?_
    (repeat (first | refine walkS ?_ | (refine callPre ?_; (first | refine callN_funS rfl (HV) ?_)) | (refine callPreL ?_; (first | refine callL_funS rfl (HV) ?_))))
    (refine aw_ret ?_; (simp only [Fin, Try.results72]; refine finS ?_); exact ⟨_, _, .inl ⟨rfl, rfl⟩, List.nodup_nil, by rw [hp]; rfl⟩)
end
end Go.Proofs.Ytnndpimlfibncaa.Eng
