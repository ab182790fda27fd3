/-
  The last rule.
-/
import Derived.Test.YtlcnmoolicfinaaGreatDoorKTy
import Derived.Test.YtlcnmoolicfinaaGreatDoorKN0
import Derived.Test.YtlcnmoolicfinaaGreatDoorKE3
set_option linter.unusedSimpArgs false
set_option linter.unusedVariables false
set_option linter.defProp false
set_option maxRecDepth 100000
set_option maxHeartbeats 4000000
namespace Go.Proofs.YtlcnmoolicfinaaGreatDoor.Eng
open Go Go.RowKit

section
variable {M : Nat} {D : List RuleD}
private def tyF := And.intro (And.intro (And.intro (And.intro (And.intro tb25 (And.intro te25 te28)) (And.intro te44 (And.intro te45 tf30_0))) (And.intro (And.intro tf52_0 (And.intro tf52_1 tf52_2)) (And.intro (And.intro tf52_3 tf52_4) (And.intro tf52_5 tf52_6)))) (And.intro (And.intro (And.intro tf52_7 (And.intro tk25 tk28)) (And.intro (And.intro tk3 tk30) (And.intro tk4 tk44))) (And.intro (And.intro tk45 (And.intro tk5 tk52)) (And.intro (And.intro tk9 tp30) (And.intro tp52 tr25))))) (And.intro (And.intro (And.intro (And.intro tr28 (And.intro tr3 tr30)) (And.intro tr4 (And.intro tr44 tr45))) (And.intro (And.intro tr5 (And.intro tr52 tr9)) (And.intro (And.intro tu25 tu28) (And.intro tu3 tu4)))) (And.intro (And.intro (And.intro tu44 (And.intro tu45 tu5)) (And.intro (And.intro tu9 tz25) (And.intro tz28 tz3))) (And.intro (And.intro tz30 (And.intro tz4 tz44)) (And.intro (And.intro tz45 tz5) (And.intro tz52 tz9)))))
theorem rootI_c (hD : DB M D) (hM : M ≤ 1048576) : AC Tryz.prog 20 [.d (encD D)] none (fun r' _ => r' = .d (iD ((D.length : Int) - 1))) := by
  have hl := hD.len
  refine calls_body Tryz.func20 rfl Tryz.call20 Tryz.ntmps20 (by simp) (by simp [ArgsOk]) (by simp [Rz.nkL, Rz.nk]) fun en hsz hks hk0 => ?_; refine enS ?_
  refine walkS ?_
  (refine aw_ret ?_; (simp only [Fin, Tryz.results20]; refine finS ?_); exact ⟨_, _, .inl ⟨rfl, rfl⟩, List.nodup_nil, rfl⟩)
theorem rootS_c (hD : DB M D) (hM : M ≤ 1048576) : AC Tryz.prog 15 [.d (encD D)] none (fun r' _ => r' = .d (iD ((D.length : Int) - 1))) := by
  have hl := hD.len
  refine calls_body Tryz.func15 rfl Tryz.call15 Tryz.ntmps15 (by simp) (by simp [ArgsOk]) (by simp [Rz.nkL, Rz.nk]) fun en hsz hks hk0 => ?_; refine enS ?_
  refine walkS ?_
  (refine aw_ret ?_; (simp only [Fin, Tryz.results15]; refine finS ?_); exact ⟨_, _, .inl ⟨rfl, rfl⟩, List.nodup_nil, rfl⟩)
end
end Go.Proofs.YtlcnmoolicfinaaGreatDoor.Eng
