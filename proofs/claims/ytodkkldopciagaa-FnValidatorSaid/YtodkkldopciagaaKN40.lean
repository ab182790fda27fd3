/-
 The last rule.
-/
import Derived.Test.YtodkkldopciagaaKTy
import Derived.Test.YtodkkldopciagaaKN0
import Derived.Test.YtodkkldopciagaaKE3
set_option linter.unusedSimpArgs false
set_option linter.unusedVariables false
set_option linter.defProp false
set_option maxRecDepth 100000
set_option maxHeartbeats 4000000
namespace Go.Proofs.Ytodkkldopciagaa.Eng
open Go Go.RowKit

section
variable {M : Nat} {D : List RuleD}
private def tyF := And.intro (And.intro (And.intro (And.intro (And.intro tb22 (And.intro te22 te24)) (And.intro te64 (And.intro te65 tf26_0))) (And.intro (And.intro tf67_0 (And.intro tf67_1 tf67_2)) (And.intro (And.intro tf67_3 tf67_4) (And.intro tf67_5 tf67_6)))) (And.intro (And.intro (And.intro tf67_7 (And.intro tk22 tk24)) (And.intro (And.intro tk26 tk3) (And.intro tk4 tk5))) (And.intro (And.intro tk64 (And.intro tk65 tk67)) (And.intro (And.intro tk9 tp26) (And.intro tp67 tr22))))) (And.intro (And.intro (And.intro (And.intro tr24 (And.intro tr26 tr3)) (And.intro tr4 (And.intro tr5 tr64))) (And.intro (And.intro tr65 (And.intro tr67 tr9)) (And.intro (And.intro tu22 tu24) (And.intro tu3 tu4)))) (And.intro (And.intro (And.intro tu5 (And.intro tu64 tu65)) (And.intro (And.intro tu9 tz22) (And.intro tz24 tz26))) (And.intro (And.intro tz3 (And.intro tz4 tz5)) (And.intro (And.intro tz64 tz65) (And.intro tz67 tz9)))))
theorem rootI_c (hD : DB M D) (hM : M ≤ 1048576) : AC Try.prog 47 [.d (encD D)] none (fun r' _ => r' = .d (iD ((D.length : Int) - 1))) := by
 have hl := hD.len
 refine calls_body Try.func47 rfl Try.call47 Try.ntmps47 (by simp) (by simp [ArgsOk]) (by simp [Rz.nkL, Rz.nk]) fun en hsz hks hk0 => ?_; refine enS ?_
 refine walkS ?_
 (refine aw_ret ?_; (simp only [Fin, Try.results47]; refine finS ?_); exact ⟨_, _, .inl ⟨rfl, rfl⟩, List.nodup_nil, rfl⟩)
theorem rootS_c (hD : DB M D) (hM : M ≤ 1048576) : AC Try.prog 66 [.d (encD D)] none (fun r' _ => r' = .d (iD ((D.length : Int) - 1))) := by
 have hl := hD.len
 refine calls_body Try.func66 rfl Try.call66 Try.ntmps66 (by simp) (by simp [ArgsOk]) (by simp [Rz.nkL, Rz.nk]) fun en hsz hks hk0 => ?_; refine enS ?_
 refine walkS ?_
 (refine aw_ret ?_; (simp only [Fin, Try.results66]; refine finS ?_); exact ⟨_, _, .inl ⟨rfl, rfl⟩, List.nodup_nil, rfl⟩)
end
end Go.Proofs.Ytodkkldopciagaa.Eng
