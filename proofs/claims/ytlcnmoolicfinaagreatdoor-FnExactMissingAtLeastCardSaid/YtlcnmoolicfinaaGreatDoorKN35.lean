/-
  Truncated files: both sides.
-/
import Derived.Test.YtlcnmoolicfinaaGreatDoorKN18
import Derived.Test.YtlcnmoolicfinaaGreatDoorKN22
import Derived.Test.YtlcnmoolicfinaaGreatDoorKE4
set_option linter.unusedSimpArgs false
set_option linter.unusedVariables false
set_option linter.defProp false
set_option maxRecDepth 100000
set_option maxHeartbeats 4000000
namespace Go.Proofs.YtlcnmoolicfinaaGreatDoor.Eng
open Go Go.RowKit

section
variable {M : Nat} {D : List RuleD} {b : List UInt8}
abbrev nilE' : Eng.D := .v .nilIface
noncomputable def truncP (D : List RuleD) (b : List UInt8) : Bool := (((readF D b).2.2 : Int) == 1)
private def tyF := And.intro (And.intro (And.intro (And.intro (And.intro (And.intro tb25 te25) (And.intro te28 te44)) (And.intro (And.intro te45 tf30_0) (And.intro tf52_0 tf52_1))) (And.intro (And.intro (And.intro tf52_2 tf52_3) (And.intro tf52_4 tf52_5)) (And.intro (And.intro tf52_6 tf52_7) (And.intro tf83_0 (And.intro tk25 tk28))))) (And.intro (And.intro (And.intro (And.intro tk3 tk30) (And.intro tk4 tk44)) (And.intro (And.intro tk45 tk5) (And.intro tk52 tk56))) (And.intro (And.intro (And.intro tk81 tk83) (And.intro tk9 tp30)) (And.intro (And.intro tp52 tp83) (And.intro tq83 (And.intro tr25 tr28)))))) (And.intro (And.intro (And.intro (And.intro (And.intro tr3 tr30) (And.intro tr4 tr44)) (And.intro (And.intro tr45 tr5) (And.intro tr52 tr56))) (And.intro (And.intro (And.intro tr81 tr83) (And.intro tr9 tu25)) (And.intro (And.intro tu28 tu3) (And.intro tu4 (And.intro tu44 tu45))))) (And.intro (And.intro (And.intro (And.intro tu5 tu56) (And.intro tu81 tu9)) (And.intro (And.intro tz25 tz28) (And.intro tz3 tz30))) (And.intro (And.intro (And.intro tz4 tz44) (And.intro tz45 tz5)) (And.intro (And.intro tz52 tz56) (And.intro tz81 (And.intro tz83 tz9))))))
theorem fileError_c (hD : DB M D) (hM : M ≤ 1048576) (hb : b.length ≤ 1048576) : AC Tryz.prog 28 [.d (encD D), .d (encB b)] none (fun r' _ => r' = if truncP D b = true then .d (.ifc 81 (.rp [iD (readF D b).2.1])) else .d nilE') := by
  have HV := checkFileI_c hD hM hb
  have hf : truncP D b = (((readF D b).2.2 : Int) == 1) := rfl
  generalize readF D b = x at HV hf
  obtain ⟨v, q, c⟩ := x
  refine calls_body Tryz.func28 rfl Tryz.call28 Tryz.ntmps28 (by simp) (by simp [ArgsOk]) (by simp [Rz.nkL, Rz.nk]) fun en hsz hks hk0 => ?_; refine enS ?_
  (repeat (first | refine walkS ?_ | (refine callPre ?_; (first | refine callN_funS rfl (HV) ?_)) | (refine callPreL ?_; (first | refine callL_funS rfl (HV) ?_))))
  refine aw_condS rfl (fun h => ?_) (fun h => ?_)
  · refine walkS ?_
    refine aw_freezeI 4 48 _ [iD q] rfl rfl hks (by decide) ?_
    (refine aw_ret ?_; (simp only [Fin, Tryz.results28]; refine finS ?_); exact ⟨_, _, .inl ⟨rfl, rfl⟩, List.nodup_nil, by rw [hf, if_pos (beq_iff_eq.2 h)]⟩)
  · refine walkS ?_
    (refine aw_ret ?_; (simp only [Fin, Tryz.results28]; refine finS ?_); exact ⟨_, _, .inl ⟨rfl, rfl⟩, List.nodup_nil, by rw [hf, if_neg (fun h' => h (beq_iff_eq.1 h'))]⟩)
theorem isTruncI_c (hD : DB M D) (hM : M ≤ 1048576) (hb : b.length ≤ 1048576) : AC Tryz.prog 17 [.d (encD D), .d (encB b)] none (fun r' _ => r' = .d (bD (truncP D b))) := by
  have HV := fileError_c hD hM hb
  by_cases h : truncP D b = true
  · rw [if_pos h] at HV
    rw [h]
    refine calls_body Tryz.func17 rfl Tryz.call17 Tryz.ntmps17 (by simp) (by simp [ArgsOk]) (by simp [Rz.nkL, Rz.nk]) fun en hsz hks hk0 => ?_; refine enS ?_
    (repeat (first | refine walkS ?_ | (refine callPre ?_; (first | refine callN_funS rfl (HV) ?_ | refine callN_funS rfl (is_trunc_c _) ?_)) | (refine callPreL ?_; (first | refine callL_funS rfl (HV) ?_ | refine callL_funS rfl (is_trunc_c _) ?_))))
    (refine aw_ret ?_; (simp only [Fin, Tryz.results17]; refine finS ?_); exact ⟨_, _, .inl ⟨rfl, rfl⟩, List.nodup_nil, rfl⟩)
  · rw [if_neg h] at HV
    rw [show truncP D b = false by simpa using h]
    refine calls_body Tryz.func17 rfl Tryz.call17 Tryz.ntmps17 (by simp) (by simp [ArgsOk]) (by simp [Rz.nkL, Rz.nk]) fun en hsz hks hk0 => ?_; refine enS ?_
    (repeat (first | refine walkS ?_ | (refine callPre ?_; (first | refine callN_funS rfl (HV) ?_ | refine callN_funS rfl (is_nil_c) ?_)) | (refine callPreL ?_; (first | refine callL_funS rfl (HV) ?_ | refine callL_funS rfl (is_nil_c) ?_))))
    (refine aw_ret ?_; (simp only [Fin, Tryz.results17]; refine finS ?_); exact ⟨_, _, .inl ⟨rfl, rfl⟩, List.nodup_nil, rfl⟩)
theorem isTruncS_c (hD : DB M D) (hM : M ≤ 1048576) (hb : b.length ≤ 1048576) : AC Tryz.prog 12 [.d (encD D), .d (encB b)] none (fun r' _ => r' = .d (bD (truncP D b))) := by
  have HV := checkFileS_c hD hM hb
  have hf : truncP D b = (((readF D b).2.2 : Int) == 1) := rfl
  generalize readF D b = x at HV hf
  obtain ⟨v, q, c⟩ := x
  refine calls_body Tryz.func12 rfl Tryz.call12 Tryz.ntmps12 (by simp) (by simp [ArgsOk]) (by simp [Rz.nkL, Rz.nk]) fun en hsz hks hk0 => ?_; refine enS ?_
  (repeat (first | refine walkS ?_ | (refine callPre ?_; (first | refine callN_funS rfl (HV) ?_)) | (refine callPreL ?_; (first | refine callL_funS rfl (HV) ?_))))
  (refine aw_ret ?_; (simp only [Fin, Tryz.results12]; refine finS ?_); exact ⟨_, _, .inl ⟨rfl, rfl⟩, List.nodup_nil, by rw [hf]⟩)
end
end Go.Proofs.YtlcnmoolicfinaaGreatDoor.Eng
