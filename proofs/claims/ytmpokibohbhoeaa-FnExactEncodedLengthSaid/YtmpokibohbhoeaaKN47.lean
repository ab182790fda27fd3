/-
  The printer: put, full.
-/
import Derived.Test.YtmpokibohbhoeaaKE35
import Derived.Test.YtmpokibohbhoeaaKN46
set_option linter.unusedSimpArgs false
set_option linter.unusedVariables false
namespace Go.Proofs.Ytmpokibohbhoeaa.Eng
open Go Go.RowKit

/-- The printer's fields. -/
abbrev prn (D : List RuleD) (es : List UInt8) : List Rz := [.d (encDs D), .own 5 1 (es.map fun c => [uD c])]

private theorem tyF : (((((bytesT Try.prog 22 = true ∧ (tyElem Try.prog 106 = some 9 ∧ tyElem Try.prog 107 = some 3)) ∧ ((tyElem Try.prog 22 = some 5 ∧ tyElem Try.prog 24 = some 109) ∧ (tyField Try.prog 109 0 = some (0, 9) ∧ tyField Try.prog 109 1 = some (1, 3)))) ∧ (((tyField Try.prog 109 2 = some (2, 3) ∧ tyField Try.prog 109 3 = some (3, 4)) ∧ (tyField Try.prog 109 4 = some (4, 22) ∧ tyField Try.prog 109 5 = some (5, 106))) ∧ ((tyField Try.prog 109 6 = some (6, 107) ∧ tyField Try.prog 109 7 = some (7, 107)) ∧ (tyField Try.prog 26 0 = some (0, 24) ∧ tyField Try.prog 97 0 = some (0, 26))))) ∧ (((tyField Try.prog 97 1 = some (1, 22) ∧ (tyK Try.prog 106 = some (false, 1) ∧ tyK Try.prog 107 = some (false, 1))) ∧ ((tyK Try.prog 109 = some (true, 8) ∧ tyK Try.prog 22 = some (false, 1)) ∧ (tyK Try.prog 24 = some (false, 1) ∧ tyK Try.prog 26 = some (true, 1)))) ∧ (((tyK Try.prog 3 = some (false, 1) ∧ tyK Try.prog 4 = some (false, 1)) ∧ (tyK Try.prog 5 = some (false, 1) ∧ tyK Try.prog 9 = some (false, 1))) ∧ ((tyK Try.prog 97 = some (true, 2) ∧ tyPlaces Try.prog 109 = some [(0, 1), (1, 1), (2, 1), (3, 1), (4, 1), (5, 1), (6, 1), (7, 1)]) ∧ (tyPlaces Try.prog 26 = some [(0, 1)] ∧ tyPlaces Try.prog 97 = some [(0, 1), (1, 1)]))))) ∧ ((((tyRow Try.prog 106 = some 1 ∧ (tyRow Try.prog 107 = some 1 ∧ tyRow Try.prog 109 = some 8)) ∧ ((tyRow Try.prog 22 = some 1 ∧ tyRow Try.prog 24 = some 1) ∧ (tyRow Try.prog 26 = some 1 ∧ tyRow Try.prog 3 = some 1))) ∧ (((tyRow Try.prog 4 = some 1 ∧ tyRow Try.prog 5 = some 1) ∧ (tyRow Try.prog 9 = some 1 ∧ tyRow Try.prog 97 = some 2)) ∧ ((Try.prog.underlying 106 = some (TypeDesc.slice 9) ∧ Try.prog.underlying 107 = some (TypeDesc.slice 3)) ∧ (Try.prog.underlying 22 = some (TypeDesc.slice 5) ∧ Try.prog.underlying 24 = some (TypeDesc.slice 109))))) ∧ (((Try.prog.underlying 3 = some (TypeDesc.int IntKind.i64) ∧ (Try.prog.underlying 4 = some (TypeDesc.bool) ∧ Try.prog.underlying 5 = some (TypeDesc.int IntKind.u8))) ∧ ((Try.prog.underlying 9 = some (TypeDesc.string) ∧ tyZero Try.prog 106 = some [Value.slice none 0 0]) ∧ (tyZero Try.prog 107 = some [Value.slice none 0 0] ∧ tyZero Try.prog 109 = some [Value.string ByteArray.empty, Value.int IntKind.i64 0, Value.int IntKind.i64 0, Value.bool false, Value.slice none 0 0, Value.slice none 0 0, Value.slice none 0 0, Value.slice none 0 0]))) ∧ (((tyZero Try.prog 22 = some [Value.slice none 0 0] ∧ tyZero Try.prog 24 = some [Value.slice none 0 0]) ∧ (tyZero Try.prog 26 = some [Value.slice none 0 0] ∧ tyZero Try.prog 3 = some [Value.int IntKind.i64 0])) ∧ ((tyZero Try.prog 4 = some [Value.bool false] ∧ tyZero Try.prog 5 = some [Value.int IntKind.u8 0]) ∧ (tyZero Try.prog 9 = some [Value.string ByteArray.empty] ∧ tyZero Try.prog 97 = some [Value.slice none 0 0, Value.slice none 0 0])))))) := ⟨⟨⟨⟨⟨tb22, ⟨te106, te107⟩⟩, ⟨⟨te22, te24⟩, ⟨tf109_0, tf109_1⟩⟩⟩, ⟨⟨⟨tf109_2, tf109_3⟩, ⟨tf109_4, tf109_5⟩⟩, ⟨⟨tf109_6, tf109_7⟩, ⟨tf26_0, tf97_0⟩⟩⟩⟩, ⟨⟨⟨tf97_1, ⟨tk106, tk107⟩⟩, ⟨⟨tk109, tk22⟩, ⟨tk24, tk26⟩⟩⟩, ⟨⟨⟨tk3, tk4⟩, ⟨tk5, tk9⟩⟩, ⟨⟨tk97, tp109⟩, ⟨tp26, tp97⟩⟩⟩⟩⟩, ⟨⟨⟨⟨tr106, ⟨tr107, tr109⟩⟩, ⟨⟨tr22, tr24⟩, ⟨tr26, tr3⟩⟩⟩, ⟨⟨⟨tr4, tr5⟩, ⟨tr9, tr97⟩⟩, ⟨⟨tu106, tu107⟩, ⟨tu22, tu24⟩⟩⟩⟩, ⟨⟨⟨tu3, ⟨tu4, tu5⟩⟩, ⟨⟨tu9, tz106⟩, ⟨tz107, tz109⟩⟩⟩, ⟨⟨⟨tz22, tz24⟩, ⟨tz26, tz3⟩⟩, ⟨⟨tz4, tz5⟩, ⟨tz9, tz97⟩⟩⟩⟩⟩⟩
set_option maxRecDepth 100000 in
set_option maxHeartbeats 1000000 in
theorem full_c (D : List RuleD) {es : List UInt8} (he : es.length ≤ 268435456) : AC Try.prog 83 [.ptr 0 0] (some (prn D es)) (fun r' b' => r' = .d (bD (decide (400 < es.length))) ∧ b' = some (prn D es)) := by
  have e1 : decide (400 < es.length) = decide (400 < (es.length : Int)) := decide_eq_decide.2 (by omega)
  refine calls_body Try.func83 rfl Try.call83 Try.ntmps83 (by simp) (by simp [ArgsOk]) (by simp [Rz.nkL, Rz.nk]) fun en hsz hks hk0 => ?_; simp only [St.init, frOf, Rz.addSL, Rz.addS, Rz.toAL, Rz.toA, Rz.nk, List.zipIdx_cons, List.zipIdx_nil, List.map_cons, List.map_nil, Nat.zero_add, Nat.reduceAdd]
  refine walkS ?_
  ((try refine aw_ret ?_); (simp only [Fin, Try.results83]; refine finS ?_); exact ⟨_, [], .inl ⟨rfl, rfl⟩, _, (prn D es), [_], rfl, toZL_p (by simp only [List.length_append, List.length_map] <;> rfl), by simp, ⟨by rw [e1], rfl⟩⟩)
set_option maxRecDepth 100000 in
set_option maxHeartbeats 1000000 in
theorem put_c (D : List RuleD) {es b : List UInt8} (he : es.length + b.length ≤ 268435456) : AC Try.prog 133 [.ptr 0 0, .d (encB b)] (some (prn D es)) (fun r' b' => r' = .d (.tup []) ∧ b' = some (prn D (es ++ b))) := by
  refine calls_body Try.func133 rfl Try.call133 Try.ntmps133 (by simp) (by simp [ArgsOk]) (by simp [Rz.nkL, Rz.nk]) fun en hsz hks hk0 => ?_; simp only [St.init, frOf, Rz.addSL, Rz.addS, Rz.toAL, Rz.toA, Rz.nk, List.zipIdx_cons, List.zipIdx_nil, List.map_cons, List.map_nil, Nat.zero_add, Nat.reduceAdd]
  refine walkS ?_
  ((try refine aw_ret ?_); (simp only [Fin, Try.results133]; refine finS ?_); exact ⟨_, [], .inl ⟨rfl, rfl⟩, _, ([.d (encDs D), .own 5 1 (es.map (fun c => [uD c]) ++ b.map fun c => [uD c])]), [_], rfl, toZL_p (by simp only [List.length_append, List.length_map] <;> rfl), by simp, ⟨rfl, by rw [prn, List.map_append]⟩⟩)
end Go.Proofs.Ytmpokibohbhoeaa.Eng
