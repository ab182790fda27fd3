/-
  The last rule.
-/
import Derived.Test.YtnndpimlfibncaaDoorKTy
import Derived.Test.YtnndpimlfibncaaDoorKN0
import Derived.Test.YtnndpimlfibncaaDoorKE3
set_option linter.unusedSimpArgs false
set_option linter.unusedVariables false
set_option linter.defProp false
set_option maxRecDepth 100000
set_option maxHeartbeats 4000000
namespace Go.Proofs.YtnndpimlfibncaaDoor.Eng
open Go Go.RowKit

section
variable {M : Nat} {D : List RuleD}
private def tyF := And.intro (And.intro (And.intro (And.intro (And.intro tb22 (And.intro te22 te24)) (And.intro te85 (And.intro te86 tf26_0))) (And.intro (And.intro tf88_0 (And.intro tf88_1 tf88_2)) (And.intro (And.intro tf88_3 tf88_4) (And.intro tf88_5 tf88_6)))) (And.intro (And.intro (And.intro tf88_7 (And.intro tk22 tk24)) (And.intro (And.intro tk26 tk3) (And.intro tk4 tk5))) (And.intro (And.intro tk85 (And.intro tk86 tk88)) (And.intro (And.intro tk9 tp26) (And.intro tp88 tr22))))) (And.intro (And.intro (And.intro (And.intro tr24 (And.intro tr26 tr3)) (And.intro tr4 (And.intro tr5 tr85))) (And.intro (And.intro tr86 (And.intro tr88 tr9)) (And.intro (And.intro tu22 tu24) (And.intro tu3 tu4)))) (And.intro (And.intro (And.intro tu5 (And.intro tu85 tu86)) (And.intro (And.intro tu9 tz22) (And.intro tz24 tz26))) (And.intro (And.intro tz3 (And.intro tz4 tz5)) (And.intro (And.intro tz85 tz86) (And.intro tz88 tz9)))))
theorem rootI_c (hD : DB M D) (hM : M ≤ 1048576) : AC Tryd.prog 26 [.d (encD D)] none (fun r' _ => r' = .d (iD ((D.length : Int) - 1))) := by
  have hl := hD.len
  refine calls_body Tryd.func26 rfl Tryd.call26 Tryd.ntmps26 (by simp) (by simp [ArgsOk]) (by simp [Rz.nkL, Rz.nk]) fun en hsz hks hk0 => ?_; refine enS ?_
  refine walkS ?_
  (refine aw_ret ?_; (simp only [Fin, Tryd.results26]; refine finS ?_); exact ⟨_, _, .inl ⟨rfl, rfl⟩, List.nodup_nil, rfl⟩)
theorem rootS_c (hD : DB M D) (hM : M ≤ 1048576) : AC Tryd.prog 25 [.d (encD D)] none (fun r' _ => r' = .d (iD ((D.length : Int) - 1))) := by
  have hl := hD.len
  refine calls_body Tryd.func25 rfl Tryd.call25 Tryd.ntmps25 (by simp) (by simp [ArgsOk]) (by simp [Rz.nkL, Rz.nk]) fun en hsz hks hk0 => ?_; refine enS ?_
  refine walkS ?_
  (refine aw_ret ?_; (simp only [Fin, Tryd.results25]; refine finS ?_); exact ⟨_, _, .inl ⟨rfl, rfl⟩, List.nodup_nil, rfl⟩)
end
end Go.Proofs.YtnndpimlfibncaaDoor.Eng
