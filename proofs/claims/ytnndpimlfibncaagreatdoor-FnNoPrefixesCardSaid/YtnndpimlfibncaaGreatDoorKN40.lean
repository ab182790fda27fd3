/-
  The last rule.
-/
import Derived.Test.YtnndpimlfibncaaGreatDoorKTy
import Derived.Test.YtnndpimlfibncaaGreatDoorKN0
import Derived.Test.YtnndpimlfibncaaGreatDoorKE3
set_option linter.unusedSimpArgs false
set_option linter.unusedVariables false
set_option linter.defProp false
set_option maxRecDepth 100000
set_option maxHeartbeats 4000000
namespace Go.Proofs.YtnndpimlfibncaaGreatDoor.Eng
open Go Go.RowKit

section
variable {M : Nat} {D : List RuleD}
private def tyF := And.intro (And.intro (And.intro (And.intro (And.intro tb22 (And.intro te22 te24)) (And.intro te55 (And.intro te75 tf26_0))) (And.intro (And.intro tf77_0 (And.intro tf77_1 tf77_2)) (And.intro (And.intro tf77_3 tf77_4) (And.intro tf77_5 tf77_6)))) (And.intro (And.intro (And.intro tf77_7 (And.intro tk22 tk24)) (And.intro (And.intro tk26 tk3) (And.intro tk4 tk5))) (And.intro (And.intro tk55 (And.intro tk75 tk77)) (And.intro (And.intro tk9 tp26) (And.intro tp77 tr22))))) (And.intro (And.intro (And.intro (And.intro tr24 (And.intro tr26 tr3)) (And.intro tr4 (And.intro tr5 tr55))) (And.intro (And.intro tr75 (And.intro tr77 tr9)) (And.intro (And.intro tu22 tu24) (And.intro tu3 tu4)))) (And.intro (And.intro (And.intro tu5 (And.intro tu55 tu75)) (And.intro (And.intro tu9 tz22) (And.intro tz24 tz26))) (And.intro (And.intro tz3 (And.intro tz4 tz5)) (And.intro (And.intro tz55 tz75) (And.intro tz77 tz9)))))
theorem rootI_c (hD : DB M D) (hM : M ≤ 1048576) : AC Tryz.prog 47 [.d (encD D)] none (fun r' _ => r' = .d (iD ((D.length : Int) - 1))) := by
  have hl := hD.len
  refine calls_body Tryz.func47 rfl Tryz.call47 Tryz.ntmps47 (by simp) (by simp [ArgsOk]) (by simp [Rz.nkL, Rz.nk]) fun en hsz hks hk0 => ?_; refine enS ?_
  refine walkS ?_
  (refine aw_ret ?_; (simp only [Fin, Tryz.results47]; refine finS ?_); exact ⟨_, _, .inl ⟨rfl, rfl⟩, List.nodup_nil, rfl⟩)
theorem rootS_c (hD : DB M D) (hM : M ≤ 1048576) : AC Tryz.prog 49 [.d (encD D)] none (fun r' _ => r' = .d (iD ((D.length : Int) - 1))) := by
  have hl := hD.len
  refine calls_body Tryz.func49 rfl Tryz.call49 Tryz.ntmps49 (by simp) (by simp [ArgsOk]) (by simp [Rz.nkL, Rz.nk]) fun en hsz hks hk0 => ?_; refine enS ?_
  refine walkS ?_
  (refine aw_ret ?_; (simp only [Fin, Tryz.results49]; refine finS ?_); exact ⟨_, _, .inl ⟨rfl, rfl⟩, List.nodup_nil, rfl⟩)
end
end Go.Proofs.YtnndpimlfibncaaGreatDoor.Eng
