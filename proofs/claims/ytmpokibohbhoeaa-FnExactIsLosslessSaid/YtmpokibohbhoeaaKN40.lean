/-
  The last rule.
-/
import Derived.Test.YtmpokibohbhoeaaKTy
import Derived.Test.YtmpokibohbhoeaaKN0
import Derived.Test.YtmpokibohbhoeaaKE3
set_option linter.unusedSimpArgs false
set_option linter.unusedVariables false
set_option linter.defProp false
set_option maxRecDepth 100000
set_option maxHeartbeats 4000000
namespace Go.Proofs.Ytmpokibohbhoeaa.Eng
open Go Go.RowKit

section
variable {M : Nat} {D : List RuleD}
private def tyF := And.intro (And.intro (And.intro (And.intro (And.intro tb22 (And.intro te106 te107)) (And.intro te22 (And.intro te24 tf109_0))) (And.intro (And.intro tf109_1 (And.intro tf109_2 tf109_3)) (And.intro (And.intro tf109_4 tf109_5) (And.intro tf109_6 tf109_7)))) (And.intro (And.intro (And.intro tf26_0 (And.intro tk106 tk107)) (And.intro (And.intro tk109 tk22) (And.intro tk24 tk26))) (And.intro (And.intro tk3 (And.intro tk4 tk5)) (And.intro (And.intro tk9 tp109) (And.intro tp26 tr106))))) (And.intro (And.intro (And.intro (And.intro tr107 (And.intro tr109 tr22)) (And.intro tr24 (And.intro tr26 tr3))) (And.intro (And.intro tr4 (And.intro tr5 tr9)) (And.intro (And.intro tu106 tu107) (And.intro tu22 tu24)))) (And.intro (And.intro (And.intro tu3 (And.intro tu4 tu5)) (And.intro (And.intro tu9 tz106) (And.intro tz107 tz109))) (And.intro (And.intro tz22 (And.intro tz24 tz26)) (And.intro (And.intro tz3 tz4) (And.intro tz5 tz9)))))
theorem rootI_c (hD : DB M D) (hM : M ≤ 1048576) : AC Try.prog 57 [.d (encD D)] none (fun r' _ => r' = .d (iD ((D.length : Int) - 1))) := by
  have hl := hD.len
  refine calls_body Try.func57 rfl Try.call57 Try.ntmps57 (by simp) (by simp [ArgsOk]) (by simp [Rz.nkL, Rz.nk]) fun en hsz hks hk0 => ?_; refine enS ?_
  refine walkS ?_
  (refine aw_ret ?_; (simp only [Fin, Try.results57]; refine finS ?_); exact ⟨_, _, .inl ⟨rfl, rfl⟩, List.nodup_nil, rfl⟩)
theorem rootS_c (hD : DB M D) (hM : M ≤ 1048576) : AC Try.prog 76 [.d (encD D)] none (fun r' _ => r' = .d (iD ((D.length : Int) - 1))) := by
  have hl := hD.len
  refine calls_body Try.func76 rfl Try.call76 Try.ntmps76 (by simp) (by simp [ArgsOk]) (by simp [Rz.nkL, Rz.nk]) fun en hsz hks hk0 => ?_; refine enS ?_
  refine walkS ?_
  (refine aw_ret ?_; (simp only [Fin, Try.results76]; refine finS ?_); exact ⟨_, _, .inl ⟨rfl, rfl⟩, List.nodup_nil, rfl⟩)
end
end Go.Proofs.Ytmpokibohbhoeaa.Eng
