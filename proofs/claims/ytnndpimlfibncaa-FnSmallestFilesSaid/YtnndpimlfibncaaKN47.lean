/-
  The printer: put, full.
-/
import Derived.Test.YtnndpimlfibncaaKE5
import Derived.Test.YtnndpimlfibncaaKN46
set_option linter.unusedSimpArgs false
set_option linter.unusedVariables false
set_option linter.defProp false
set_option maxRecDepth 100000
set_option maxHeartbeats 4000000
namespace Go.Proofs.Ytnndpimlfibncaa.Eng
open Go Go.RowKit

abbrev prn (D : List RuleD) (es : List UInt8) : List Rz := [.d (encDs D), .own 5 1 (es.map fun c => [uD c])]

private def tyF := And.intro (And.intro (And.intro (And.intro (And.intro tb22 (And.intro te22 te24)) (And.intro (And.intro te60 te61) (And.intro tf26_0 tf63_0))) (And.intro (And.intro (And.intro tf63_1 tf63_2) (And.intro tf63_3 tf63_4)) (And.intro (And.intro tf63_5 tf63_6) (And.intro tf63_7 tf83_0)))) (And.intro (And.intro (And.intro tf83_1 (And.intro tk22 tk24)) (And.intro (And.intro tk26 tk3) (And.intro tk4 tk5))) (And.intro (And.intro (And.intro tk60 tk61) (And.intro tk63 tk83)) (And.intro (And.intro tk9 tp26) (And.intro tp63 tp83))))) (And.intro (And.intro (And.intro (And.intro tr22 (And.intro tr24 tr26)) (And.intro (And.intro tr3 tr4) (And.intro tr5 tr60))) (And.intro (And.intro (And.intro tr61 tr63) (And.intro tr83 tr9)) (And.intro (And.intro tu22 tu24) (And.intro tu3 tu4)))) (And.intro (And.intro (And.intro tu5 (And.intro tu60 tu61)) (And.intro (And.intro tu9 tz22) (And.intro tz24 tz26))) (And.intro (And.intro (And.intro tz3 tz4) (And.intro tz5 tz60)) (And.intro (And.intro tz61 tz63) (And.intro tz83 tz9)))))
theorem full_c (D : List RuleD) {es : List UInt8} (he : es.length ≤ 268435456) : AC Try.prog 74 [.ptr 0 0] (some (prn D es)) (fun r' b' => r' = .d (bD (decide (400 < es.length))) ∧ b' = some (prn D es)) := by
  have e1 : decide (400 < es.length) = decide (400 < (es.length : Int)) := decide_eq_decide.2 (by omega)
  refine calls_body Try.func74 rfl Try.call74 Try.ntmps74 (by simp) (by simp [ArgsOk]) (by simp [Rz.nkL, Rz.nk]) fun en hsz hks hk0 => ?_; refine enS ?_
  refine walkS ?_
  ((try refine aw_ret ?_); (simp only [Fin, Try.results74]; refine finS ?_); exact ⟨_, [], .inl ⟨rfl, rfl⟩, _, (prn D es), [_], rfl, toZL_p (by simp only [List.length_append, List.length_map] <;> rfl), by simp, ⟨by rw [e1], rfl⟩⟩)
theorem put_c (D : List RuleD) {es b : List UInt8} (he : es.length + b.length ≤ 268435456) : AC Try.prog 118 [.ptr 0 0, .d (encB b)] (some (prn D es)) (fun r' b' => r' = .d (.tup []) ∧ b' = some (prn D (es ++ b))) := by
  refine calls_body Try.func118 rfl Try.call118 Try.ntmps118 (by simp) (by simp [ArgsOk]) (by simp [Rz.nkL, Rz.nk]) fun en hsz hks hk0 => ?_; refine enS ?_
  refine walkS ?_
  ((try refine aw_ret ?_); (simp only [Fin, Try.results118]; refine finS ?_); exact ⟨_, [], .inl ⟨rfl, rfl⟩, _, ([.d (encDs D), .own 5 1 (es.map (fun c => [uD c]) ++ b.map fun c => [uD c])]), [_], rfl, toZL_p (by simp only [List.length_append, List.length_map] <;> rfl), by simp, ⟨rfl, by rw [prn, List.map_append]⟩⟩)
end Go.Proofs.Ytnndpimlfibncaa.Eng
