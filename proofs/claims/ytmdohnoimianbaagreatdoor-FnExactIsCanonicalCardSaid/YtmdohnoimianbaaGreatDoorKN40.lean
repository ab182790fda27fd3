/-
  The last rule.
-/
import Derived.Test.YtmdohnoimianbaaGreatDoorKTy
import Derived.Test.YtmdohnoimianbaaGreatDoorKN0
import Derived.Test.YtmdohnoimianbaaGreatDoorKE3
set_option linter.unusedSimpArgs false
set_option linter.unusedVariables false
set_option linter.defProp false
set_option maxRecDepth 100000
set_option maxHeartbeats 4000000
namespace Go.Proofs.YtmdohnoimianbaaGreatDoor.Eng
open Go Go.RowKit

section
variable {M : Nat} {D : List RuleD}
private def tyF := And.intro (And.intro (And.intro (And.intro (And.intro tb25 (And.intro te25 te32)) (And.intro te73 (And.intro te74 tf34_0))) (And.intro (And.intro tf78_0 (And.intro tf78_1 tf78_2)) (And.intro (And.intro tf78_3 tf78_4) (And.intro tf78_5 tf78_6)))) (And.intro (And.intro (And.intro tf78_7 (And.intro tk25 tk3)) (And.intro (And.intro tk32 tk34) (And.intro tk4 tk5))) (And.intro (And.intro tk73 (And.intro tk74 tk78)) (And.intro (And.intro tk9 tp34) (And.intro tp78 tr25))))) (And.intro (And.intro (And.intro (And.intro tr3 (And.intro tr32 tr34)) (And.intro tr4 (And.intro tr5 tr73))) (And.intro (And.intro tr74 (And.intro tr78 tr9)) (And.intro (And.intro tu25 tu3) (And.intro tu32 tu4)))) (And.intro (And.intro (And.intro tu5 (And.intro tu73 tu74)) (And.intro (And.intro tu9 tz25) (And.intro tz3 tz32))) (And.intro (And.intro tz34 (And.intro tz4 tz5)) (And.intro (And.intro tz73 tz74) (And.intro tz78 tz9)))))
theorem rootI_c (hD : DB M D) (hM : M ≤ 1048576) : AC Tryz.prog 43 [.d (encD D)] none (fun r' _ => r' = .d (iD ((D.length : Int) - 1))) := by
  have hl := hD.len
  refine calls_body Tryz.func43 rfl Tryz.call43 Tryz.ntmps43 (by simp) (by simp [ArgsOk]) (by simp [Rz.nkL, Rz.nk]) fun en hsz hks hk0 => ?_; refine enS ?_
  refine walkS ?_
  (refine aw_ret ?_; (simp only [Fin, Tryz.results43]; refine finS ?_); exact ⟨_, _, .inl ⟨rfl, rfl⟩, List.nodup_nil, rfl⟩)
theorem rootS_c (hD : DB M D) (hM : M ≤ 1048576) : AC Tryz.prog 42 [.d (encD D)] none (fun r' _ => r' = .d (iD ((D.length : Int) - 1))) := by
  have hl := hD.len
  refine calls_body Tryz.func42 rfl Tryz.call42 Tryz.ntmps42 (by simp) (by simp [ArgsOk]) (by simp [Rz.nkL, Rz.nk]) fun en hsz hks hk0 => ?_; refine enS ?_
  refine walkS ?_
  (refine aw_ret ?_; (simp only [Fin, Tryz.results42]; refine finS ?_); exact ⟨_, _, .inl ⟨rfl, rfl⟩, List.nodup_nil, rfl⟩)
end
end Go.Proofs.YtmdohnoimianbaaGreatDoor.Eng
