/-
  The printer: put, full.
-/
import Derived.Test.YtmpokibohbhoeaaKE5
import Derived.Test.YtmpokibohbhoeaaKN46
set_option linter.unusedSimpArgs false
set_option linter.unusedVariables false
set_option linter.defProp false
namespace Go.Proofs.Ytmpokibohbhoeaa.Eng
open Go Go.RowKit

/-- The printer's fields. -/
abbrev prn (D : List RuleD) (es : List UInt8) : List Rz := [.d (encDs D), .own 5 1 (es.map fun c => [uD c])]

private def tyF := And.intro (And.intro (And.intro (And.intro (And.intro tb22 (And.intro te106 te107)) (And.intro (And.intro te22 te24) (And.intro tf109_0 tf109_1))) (And.intro (And.intro (And.intro tf109_2 tf109_3) (And.intro tf109_4 tf109_5)) (And.intro (And.intro tf109_6 tf109_7) (And.intro tf26_0 tf97_0)))) (And.intro (And.intro (And.intro tf97_1 (And.intro tk106 tk107)) (And.intro (And.intro tk109 tk22) (And.intro tk24 tk26))) (And.intro (And.intro (And.intro tk3 tk4) (And.intro tk5 tk9)) (And.intro (And.intro tk97 tp109) (And.intro tp26 tp97))))) (And.intro (And.intro (And.intro (And.intro tr106 (And.intro tr107 tr109)) (And.intro (And.intro tr22 tr24) (And.intro tr26 tr3))) (And.intro (And.intro (And.intro tr4 tr5) (And.intro tr9 tr97)) (And.intro (And.intro tu106 tu107) (And.intro tu22 tu24)))) (And.intro (And.intro (And.intro tu3 (And.intro tu4 tu5)) (And.intro (And.intro tu9 tz106) (And.intro tz107 tz109))) (And.intro (And.intro (And.intro tz22 tz24) (And.intro tz26 tz3)) (And.intro (And.intro tz4 tz5) (And.intro tz9 tz97)))))
set_option maxRecDepth 100000 in
set_option maxHeartbeats 1000000 in
theorem full_c (D : List RuleD) {es : List UInt8} (he : es.length ≤ 268435456) : AC Try.prog 83 [.ptr 0 0] (some (prn D es)) (fun r' b' => r' = .d (bD (decide (400 < es.length))) ∧ b' = some (prn D es)) := by
  have e1 : decide (400 < es.length) = decide (400 < (es.length : Int)) := decide_eq_decide.2 (by omega)
  refine calls_body Try.func83 rfl Try.call83 Try.ntmps83 (by simp) (by simp [ArgsOk]) (by simp [Rz.nkL, Rz.nk]) fun en hsz hks hk0 => ?_; simp only [St.init, frOf, Rz.addSL, Rz.addS, Rz.toAL, Rz.toA, Rz.nk, List.zipIdx_cons, List.zipIdx_nil, List.map_cons, List.map_nil, Nat.zero_add, Nat.reduceAdd]
  refine walkS ?_
  ((try refine aw_ret ?_); (simp only [Fin, Try.results83]; refine finS ?_); exact ⟨_, [], .inl ⟨rfl, rfl⟩, _, (prn D es), [_], rfl, toZL_p (by simp only [List.length_append, List.length_map] <;> rfl), by simp, ⟨by rw [e1], rfl⟩⟩)
set_option maxRecDepth 100000 in
set_option maxHeartbeats 1000000 in
theorem put_c (D : List RuleD) {es b : List UInt8} (he : es.length + b.length ≤ 268435456) : AC Try.prog 133 [.ptr 0 0, .d (encB b)] (some (prn D es)) (fun r' b' => r' = .d (.tup []) ∧ b' = some (prn D (es ++ b))) := by
  refine calls_body Try.func133 rfl Try.call133 Try.ntmps133 (by simp) (by simp [ArgsOk]) (by simp [Rz.nkL, Rz.nk]) fun en hsz hks hk0 => ?_; simp only [St.init, frOf, Rz.addSL, Rz.addS, Rz.toAL, Rz.toA, Rz.nk, List.zipIdx_cons, List.zipIdx_nil, List.map_cons, List.map_nil, Nat.zero_add, Nat.reduceAdd]
  refine walkS ?_
  ((try refine aw_ret ?_); (simp only [Fin, Try.results133]; refine finS ?_); exact ⟨_, [], .inl ⟨rfl, rfl⟩, _, ([.d (encDs D), .own 5 1 (es.map (fun c => [uD c]) ++ b.map fun c => [uD c])]), [_], rfl, toZL_p (by simp only [List.length_append, List.length_map] <;> rfl), by simp, ⟨rfl, by rw [prn, List.map_append]⟩⟩)
end Go.Proofs.Ytmpokibohbhoeaa.Eng
