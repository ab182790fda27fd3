/-
  The last rule.
-/
import Derived.Test.YtglacmgeoefcaaaGreatDoorKTy
import Derived.Test.YtglacmgeoefcaaaGreatDoorKN0
import Derived.Test.YtglacmgeoefcaaaGreatDoorKE3
set_option linter.unusedSimpArgs false
set_option linter.unusedVariables false
set_option linter.defProp false
set_option maxRecDepth 100000
set_option maxHeartbeats 4000000
namespace Go.Proofs.YtglacmgeoefcaaaGreatDoor.Eng
open Go Go.RowKit

section
variable {M : Nat} {D : List RuleD}
private def tyF := And.intro (And.intro (And.intro (And.intro (And.intro tb22 (And.intro te22 te24)) (And.intro te94 (And.intro te96 tf111_0))) (And.intro (And.intro tf111_1 (And.intro tf111_2 tf111_3)) (And.intro (And.intro tf111_4 tf111_5) (And.intro tf111_6 tf111_7)))) (And.intro (And.intro (And.intro tf26_0 (And.intro tk111 tk22)) (And.intro (And.intro tk24 tk26) (And.intro tk3 tk4))) (And.intro (And.intro tk5 (And.intro tk9 tk94)) (And.intro (And.intro tk96 tp111) (And.intro tp26 tr111))))) (And.intro (And.intro (And.intro (And.intro tr22 (And.intro tr24 tr26)) (And.intro tr3 (And.intro tr4 tr5))) (And.intro (And.intro tr9 (And.intro tr94 tr96)) (And.intro (And.intro tu22 tu24) (And.intro tu3 tu4)))) (And.intro (And.intro (And.intro tu5 (And.intro tu9 tu94)) (And.intro (And.intro tu96 tz111) (And.intro tz22 tz24))) (And.intro (And.intro tz26 (And.intro tz3 tz4)) (And.intro (And.intro tz5 tz9) (And.intro tz94 tz96)))))
theorem rootI_c (hD : DB M D) (hM : M ≤ 1048576) : AC Tryz.prog 72 [.d (encD D)] none (fun r' _ => r' = .d (iD ((D.length : Int) - 1))) := by
  have hl := hD.len
  refine calls_body Tryz.func72 rfl Tryz.call72 Tryz.ntmps72 (by simp) (by simp [ArgsOk]) (by simp [Rz.nkL, Rz.nk]) fun en hsz hks hk0 => ?_; refine enS ?_
  refine walkS ?_
  (refine aw_ret ?_; (simp only [Fin, Tryz.results72]; refine finS ?_); exact ⟨_, _, .inl ⟨rfl, rfl⟩, List.nodup_nil, rfl⟩)
theorem rootS_c (hD : DB M D) (hM : M ≤ 1048576) : AC Tryz.prog 71 [.d (encD D)] none (fun r' _ => r' = .d (iD ((D.length : Int) - 1))) := by
  have hl := hD.len
  refine calls_body Tryz.func71 rfl Tryz.call71 Tryz.ntmps71 (by simp) (by simp [ArgsOk]) (by simp [Rz.nkL, Rz.nk]) fun en hsz hks hk0 => ?_; refine enS ?_
  refine walkS ?_
  (refine aw_ret ?_; (simp only [Fin, Tryz.results71]; refine finS ?_); exact ⟨_, _, .inl ⟨rfl, rfl⟩, List.nodup_nil, rfl⟩)
end
end Go.Proofs.YtglacmgeoefcaaaGreatDoor.Eng
