/-
  The last rule.
-/
import Derived.Test.YtnndpimlfibncaaKTy
import Derived.Test.YtnndpimlfibncaaKN0
import Derived.Test.YtnndpimlfibncaaKE3
set_option linter.unusedSimpArgs false
set_option linter.unusedVariables false
set_option linter.defProp false
set_option maxRecDepth 100000
set_option maxHeartbeats 4000000
namespace Go.Proofs.Ytnndpimlfibncaa.Eng
open Go Go.RowKit

section
variable {M : Nat} {D : List RuleD}
private def tyF := And.intro (And.intro (And.intro (And.intro (And.intro tb22 (And.intro te22 te24)) (And.intro te60 (And.intro te61 tf26_0))) (And.intro (And.intro tf63_0 (And.intro tf63_1 tf63_2)) (And.intro (And.intro tf63_3 tf63_4) (And.intro tf63_5 tf63_6)))) (And.intro (And.intro (And.intro tf63_7 (And.intro tk22 tk24)) (And.intro (And.intro tk26 tk3) (And.intro tk4 tk5))) (And.intro (And.intro tk60 (And.intro tk61 tk63)) (And.intro (And.intro tk9 tp26) (And.intro tp63 tr22))))) (And.intro (And.intro (And.intro (And.intro tr24 (And.intro tr26 tr3)) (And.intro tr4 (And.intro tr5 tr60))) (And.intro (And.intro tr61 (And.intro tr63 tr9)) (And.intro (And.intro tu22 tu24) (And.intro tu3 tu4)))) (And.intro (And.intro (And.intro tu5 (And.intro tu60 tu61)) (And.intro (And.intro tu9 tz22) (And.intro tz24 tz26))) (And.intro (And.intro tz3 (And.intro tz4 tz5)) (And.intro (And.intro tz60 tz61) (And.intro tz63 tz9)))))
theorem rootI_c (hD : DB M D) (hM : M ≤ 1048576) : AC Try.prog 45 [.d (encD D)] none (fun r' _ => r' = .d (iD ((D.length : Int) - 1))) := by
  have hl := hD.len
  refine calls_body Try.func45 rfl Try.call45 Try.ntmps45 (by simp) (by simp [ArgsOk]) (by simp [Rz.nkL, Rz.nk]) fun en hsz hks hk0 => ?_; refine enS ?_
  refine walkS ?_
  (refine aw_ret ?_; (simp only [Fin, Try.results45]; refine finS ?_); exact ⟨_, _, .inl ⟨rfl, rfl⟩, List.nodup_nil, rfl⟩)
theorem rootS_c (hD : DB M D) (hM : M ≤ 1048576) : AC Try.prog 64 [.d (encD D)] none (fun r' _ => r' = .d (iD ((D.length : Int) - 1))) := by
  have hl := hD.len
  refine calls_body Try.func64 rfl Try.call64 Try.ntmps64 (by simp) (by simp [ArgsOk]) (by simp [Rz.nkL, Rz.nk]) fun en hsz hks hk0 => ?_; refine enS ?_
  refine walkS ?_
  (refine aw_ret ?_; (simp only [Fin, Try.results64]; refine finS ?_); exact ⟨_, _, .inl ⟨rfl, rfl⟩, List.nodup_nil, rfl⟩)
end
end Go.Proofs.Ytnndpimlfibncaa.Eng
