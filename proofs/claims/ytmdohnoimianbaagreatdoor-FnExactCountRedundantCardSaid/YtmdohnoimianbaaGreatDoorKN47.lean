/-
  The printer: put, full.
-/
import Derived.Test.YtmdohnoimianbaaGreatDoorKE5
import Derived.Test.YtmdohnoimianbaaGreatDoorKN46
set_option linter.unusedSimpArgs false
set_option linter.unusedVariables false
set_option linter.defProp false
set_option maxRecDepth 100000
set_option maxHeartbeats 4000000
namespace Go.Proofs.YtmdohnoimianbaaGreatDoor.Eng
open Go Go.RowKit

abbrev prn (D : List RuleD) (es : List UInt8) : List Rz := [.d (encDs D), .own 5 1 (es.map fun c => [uD c])]

private def tyF := And.intro (And.intro (And.intro (And.intro (And.intro tb25 (And.intro te25 te32)) (And.intro (And.intro te73 te74) (And.intro tf140_0 tf140_1))) (And.intro (And.intro (And.intro tf34_0 tf78_0) (And.intro tf78_1 tf78_2)) (And.intro (And.intro tf78_3 tf78_4) (And.intro tf78_5 tf78_6)))) (And.intro (And.intro (And.intro tf78_7 (And.intro tk140 tk25)) (And.intro (And.intro tk3 tk32) (And.intro tk34 tk4))) (And.intro (And.intro (And.intro tk5 tk73) (And.intro tk74 tk78)) (And.intro (And.intro tk9 tp140) (And.intro tp34 tp78))))) (And.intro (And.intro (And.intro (And.intro tr140 (And.intro tr25 tr3)) (And.intro (And.intro tr32 tr34) (And.intro tr4 tr5))) (And.intro (And.intro (And.intro tr73 tr74) (And.intro tr78 tr9)) (And.intro (And.intro tu25 tu3) (And.intro tu32 tu4)))) (And.intro (And.intro (And.intro tu5 (And.intro tu73 tu74)) (And.intro (And.intro tu9 tz140) (And.intro tz25 tz3))) (And.intro (And.intro (And.intro tz32 tz34) (And.intro tz4 tz5)) (And.intro (And.intro tz73 tz74) (And.intro tz78 tz9)))))
theorem full_c (D : List RuleD) {es : List UInt8} (he : es.length ≤ 268435456) : AC Tryz.prog 105 [.ptr 0 0] (some (prn D es)) (fun r' b' => r' = .d (bD (decide (400 < es.length))) ∧ b' = some (prn D es)) := by
  have e1 : decide (400 < es.length) = decide (400 < (es.length : Int)) := decide_eq_decide.2 (by omega)
  refine calls_body Tryz.func105 rfl Tryz.call105 Tryz.ntmps105 (by simp) (by simp [ArgsOk]) (by simp [Rz.nkL, Rz.nk]) fun en hsz hks hk0 => ?_; refine enS ?_
  refine walkS ?_
  ((try refine aw_ret ?_); (simp only [Fin, Tryz.results105]; refine finS ?_); exact ⟨_, [], .inl ⟨rfl, rfl⟩, _, (prn D es), [_], rfl, toZL_p (by simp only [List.length_append, List.length_map] <;> rfl), by simp, ⟨by rw [e1], rfl⟩⟩)
theorem put_c (D : List RuleD) {es b : List UInt8} (he : es.length + b.length ≤ 268435456) : AC Tryz.prog 114 [.ptr 0 0, .d (encB b)] (some (prn D es)) (fun r' b' => r' = .d (.tup []) ∧ b' = some (prn D (es ++ b))) := by
  refine calls_body Tryz.func114 rfl Tryz.call114 Tryz.ntmps114 (by simp) (by simp [ArgsOk]) (by simp [Rz.nkL, Rz.nk]) fun en hsz hks hk0 => ?_; refine enS ?_
  refine walkS ?_
  ((try refine aw_ret ?_); (simp only [Fin, Tryz.results114]; refine finS ?_); exact ⟨_, [], .inl ⟨rfl, rfl⟩, _, ([.d (encDs D), .own 5 1 (es.map (fun c => [uD c]) ++ b.map fun c => [uD c])]), [_], rfl, toZL_p (by simp only [List.length_append, List.length_map] <;> rfl), by simp, ⟨rfl, by rw [prn, List.map_append]⟩⟩)
end Go.Proofs.YtmdohnoimianbaaGreatDoor.Eng
