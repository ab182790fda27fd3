/-
  How many bytes a file lacks at least: both sides.
-/
import Derived.Test.YtlcnmoolicfinaaGreatDoorKNSZ
import Derived.Test.YtlcnmoolicfinaaGreatDoorKN35
import Derived.Test.YtlcnmoolicfinaaGreatDoorKN40
set_option linter.unusedSimpArgs false
set_option linter.unusedVariables false
set_option linter.defProp false
set_option maxRecDepth 100000
set_option maxHeartbeats 4000000
namespace Go.Proofs.YtlcnmoolicfinaaGreatDoor.Eng
open Go Go.RowKit

section
variable {D : List RuleD} {M : Nat}
noncomputable def missP (D : List RuleD) (b : List UInt8) : Int := if truncP D b = true then maxF 1 (minOf D ((D.length : Int) - 1) - b.length) else 0
private def tyF := And.intro (And.intro (And.intro (And.intro (And.intro tb25 (And.intro te25 te28)) (And.intro te44 (And.intro te45 tf30_0))) (And.intro (And.intro tf52_0 (And.intro tf52_1 tf52_2)) (And.intro (And.intro tf52_3 tf52_4) (And.intro tf52_5 tf52_6)))) (And.intro (And.intro (And.intro tf52_7 (And.intro tk25 tk28)) (And.intro (And.intro tk3 tk30) (And.intro tk4 tk44))) (And.intro (And.intro tk45 (And.intro tk5 tk52)) (And.intro (And.intro tk9 tp30) (And.intro tp52 tr25))))) (And.intro (And.intro (And.intro (And.intro tr28 (And.intro tr3 tr30)) (And.intro tr4 (And.intro tr44 tr45))) (And.intro (And.intro tr5 (And.intro tr52 tr9)) (And.intro (And.intro tu25 tu28) (And.intro tu3 tu4)))) (And.intro (And.intro (And.intro tu44 (And.intro tu45 tu5)) (And.intro (And.intro tu9 tz25) (And.intro tz28 tz3))) (And.intro (And.intro tz30 (And.intro tz4 tz44)) (And.intro (And.intro tz45 tz5) (And.intro tz52 tz9)))))
theorem missI_c (hD : DB M D) (hM : M ≤ 1048576) {b : List UInt8} (hb : b.length ≤ 1048576) : AC Tryz.prog 8 [.d (encD D), .d (encB b)] none (fun r' _ => r' = .d (iD (missP D b))) := by
  have HT := isTruncI_c hD hM hb
  have HR := rootI_c hD hM
  have HM := minSizeI_c hD hM ((D.length : Int) - 1)
  have hbd := minOf_in D ((D.length : Int) - 1)
  by_cases h : truncP D b = true
  · rw [h] at HT
    rw [show missP D b = _ from if_pos h]
    refine calls_body Tryz.func8 rfl Tryz.call8 Tryz.ntmps8 (by simp) (by simp [ArgsOk]) (by simp [Rz.nkL, Rz.nk]) fun en hsz hks hk0 => ?_; refine enS ?_
    (repeat (first | refine walkS ?_ | (refine callPre ?_; (first | refine callN_funS rfl (HT) ?_)) | (refine callPreL ?_; (first | refine callL_funS rfl (HT) ?_))))
    refine aw_condS rfl (fun h2 => ?_) (fun h2 => ?_)
    · (first | exact absurd trivial h2 | exact absurd rfl h2 | (cases h2; done) | omega | exact absurd h2 (by decide) | (simp at h2; done))
    (repeat (first | refine walkS ?_ | (refine callPre ?_; (first | refine callN_funS rfl (HR) ?_ | refine callN_funS rfl (HM) ?_ | refine callN_funS rfl (maxI_c 1 (minOf D ((D.length : Int) - 1) - b.length)) ?_)) | (refine callPreL ?_; (first | refine callL_funS rfl (HR) ?_ | refine callL_funS rfl (HM) ?_ | refine callL_funS rfl (maxI_c 1 (minOf D ((D.length : Int) - 1) - b.length)) ?_))))
    (refine aw_ret ?_; (simp only [Fin, Tryz.results8]; refine finS ?_); exact ⟨_, _, .inl ⟨rfl, rfl⟩, List.nodup_nil, rfl⟩)
  · rw [show truncP D b = false by simpa using h] at HT
    rw [show missP D b = 0 from if_neg h]
    refine calls_body Tryz.func8 rfl Tryz.call8 Tryz.ntmps8 (by simp) (by simp [ArgsOk]) (by simp [Rz.nkL, Rz.nk]) fun en hsz hks hk0 => ?_; refine enS ?_
    (repeat (first | refine walkS ?_ | (refine callPre ?_; (first | refine callN_funS rfl (HT) ?_)) | (refine callPreL ?_; (first | refine callL_funS rfl (HT) ?_))))
    refine aw_condS rfl (fun h2 => ?_) (fun h2 => ?_)
    · refine walkS ?_
      (refine aw_ret ?_; (simp only [Fin, Tryz.results8]; refine finS ?_); exact ⟨_, _, .inl ⟨rfl, rfl⟩, List.nodup_nil, rfl⟩)
    · (first | exact absurd trivial h2 | exact absurd rfl h2 | (cases h2; done) | omega | exact absurd h2 (by decide) | (simp at h2; done))
theorem missS_c (hD : DB M D) (hM : M ≤ 1048576) {b : List UInt8} (hb : b.length ≤ 1048576) : AC Tryz.prog 5 [.d (encD D), .d (encB b)] none (fun r' _ => r' = .d (iD (missP D b))) := by
  have HT := isTruncS_c hD hM hb
  have HR := rootS_c hD hM
  have HM := minSizeS_c hD hM ((D.length : Int) - 1)
  have hbd := minOf_in D ((D.length : Int) - 1)
  by_cases h : truncP D b = true
  · rw [h] at HT
    rw [show missP D b = _ from if_pos h]
    refine calls_body Tryz.func5 rfl Tryz.call5 Tryz.ntmps5 (by simp) (by simp [ArgsOk]) (by simp [Rz.nkL, Rz.nk]) fun en hsz hks hk0 => ?_; refine enS ?_
    (repeat (first | refine walkS ?_ | (refine callPre ?_; (first | refine callN_funS rfl (HT) ?_)) | (refine callPreL ?_; (first | refine callL_funS rfl (HT) ?_))))
    refine aw_condS rfl (fun h2 => ?_) (fun h2 => ?_)
    · (first | exact absurd trivial h2 | exact absurd rfl h2 | (cases h2; done) | omega | exact absurd h2 (by decide) | (simp at h2; done))
    (repeat (first | refine walkS ?_ | (refine callPre ?_; (first | refine callN_funS rfl (HR) ?_ | refine callN_funS rfl (HM) ?_ | refine callN_funS rfl (maxS_c 1 (minOf D ((D.length : Int) - 1) - b.length)) ?_)) | (refine callPreL ?_; (first | refine callL_funS rfl (HR) ?_ | refine callL_funS rfl (HM) ?_ | refine callL_funS rfl (maxS_c 1 (minOf D ((D.length : Int) - 1) - b.length)) ?_))))
    (refine aw_ret ?_; (simp only [Fin, Tryz.results5]; refine finS ?_); exact ⟨_, _, .inl ⟨rfl, rfl⟩, List.nodup_nil, rfl⟩)
  · rw [show truncP D b = false by simpa using h] at HT
    rw [show missP D b = 0 from if_neg h]
    refine calls_body Tryz.func5 rfl Tryz.call5 Tryz.ntmps5 (by simp) (by simp [ArgsOk]) (by simp [Rz.nkL, Rz.nk]) fun en hsz hks hk0 => ?_; refine enS ?_
    (repeat (first | refine walkS ?_ | (refine callPre ?_; (first | refine callN_funS rfl (HT) ?_)) | (refine callPreL ?_; (first | refine callL_funS rfl (HT) ?_))))
    refine aw_condS rfl (fun h2 => ?_) (fun h2 => ?_)
    · refine walkS ?_
      (refine aw_ret ?_; (simp only [Fin, Tryz.results5]; refine finS ?_); exact ⟨_, _, .inl ⟨rfl, rfl⟩, List.nodup_nil, rfl⟩)
    · (first | exact absurd trivial h2 | exact absurd rfl h2 | (cases h2; done) | omega | exact absurd h2 (by decide) | (simp at h2; done))
end
end Go.Proofs.YtlcnmoolicfinaaGreatDoor.Eng
