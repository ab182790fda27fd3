/-
  The reference: checking.
-/
import Derived.Test.YtoegmaebdihnaaaGreatDoorKN9
set_option linter.unusedSimpArgs false
set_option linter.unusedVariables false
namespace Go.Proofs.YtoegmaebdihnaaaGreatDoor.Eng
open Go Go.RowKit

noncomputable def validP (D : List RuleD) (b : List UInt8) : Bool := (readF D b).2.2 == 0 || (readF D b).2.2 == 1
/-- The greatest length of a beginning, at most n, that may be one of a file. -/
noncomputable def longP (D : List RuleD) (b : List UInt8) : Nat → Int
  | 0 => if validP D [] = true then 0 else -1
  | n + 1 => if validP D (b.take (n + 1)) = true then ((n + 1 : Nat) : Int) else longP D b n

theorem longP_hit {D : List RuleD} {b : List UInt8} {n : Nat} (h : validP D (b.take n) = true) : longP D b n = n := by
  cases n with
  | zero => rw [List.take_zero] at h; unfold longP; rw [if_pos h]; rfl
  | succ n => unfold longP; rw [if_pos h]
theorem longP_miss {D : List RuleD} {b : List UInt8} {n : Nat} (h : validP D (b.take n) = false) : longP D b n = if n = 0 then -1 else longP D b (n - 1) := by
  cases n with
  | zero => rw [List.take_zero] at h; unfold longP; rw [h]; simp
  | succ n => rw [longP, h]; simp

section
variable {M : Nat} {D : List RuleD} {b : List UInt8}


private theorem tyF : ((((((tyElem Tryz.prog 104 = some 9 ∧ tyElem Tryz.prog 25 = some 5) ∧ (tyElem Tryz.prog 28 = some 107 ∧ tyElem Tryz.prog 39 = some 41)) ∧ ((tyElem Tryz.prog 54 = some 3 ∧ tyField Tryz.prog 107 0 = some (0, 9)) ∧ (tyField Tryz.prog 107 1 = some (1, 3) ∧ tyField Tryz.prog 107 2 = some (2, 3)))) ∧ (((tyField Tryz.prog 107 3 = some (3, 4) ∧ tyField Tryz.prog 107 4 = some (4, 25)) ∧ (tyField Tryz.prog 107 5 = some (5, 104) ∧ tyField Tryz.prog 107 6 = some (6, 54))) ∧ ((tyField Tryz.prog 107 7 = some (7, 54) ∧ tyField Tryz.prog 30 0 = some (0, 28)) ∧ (tyField Tryz.prog 41 0 = some (0, 3) ∧ tyField Tryz.prog 41 1 = some (1, 25))))) ∧ ((((tyField Tryz.prog 41 2 = some (2, 39) ∧ tyK Tryz.prog 104 = some (false, 1)) ∧ (tyK Tryz.prog 107 = some (true, 8) ∧ tyK Tryz.prog 25 = some (false, 1))) ∧ ((tyK Tryz.prog 28 = some (false, 1) ∧ tyK Tryz.prog 3 = some (false, 1)) ∧ (tyK Tryz.prog 30 = some (true, 1) ∧ tyK Tryz.prog 39 = some (false, 1)))) ∧ (((tyK Tryz.prog 4 = some (false, 1) ∧ tyK Tryz.prog 41 = some (true, 3)) ∧ (tyK Tryz.prog 5 = some (false, 1) ∧ tyK Tryz.prog 54 = some (false, 1))) ∧ ((tyK Tryz.prog 9 = some (false, 1) ∧ tyPlaces Tryz.prog 107 = some [(0, 1), (1, 1), (2, 1), (3, 1), (4, 1), (5, 1), (6, 1), (7, 1)]) ∧ (tyPlaces Tryz.prog 30 = some [(0, 1)] ∧ tyPlaces Tryz.prog 41 = some [(0, 1), (1, 1), (2, 1)]))))) ∧ (((((tyRow Tryz.prog 104 = some 1 ∧ tyRow Tryz.prog 107 = some 8) ∧ (tyRow Tryz.prog 25 = some 1 ∧ tyRow Tryz.prog 28 = some 1)) ∧ ((tyRow Tryz.prog 3 = some 1 ∧ tyRow Tryz.prog 30 = some 1) ∧ (tyRow Tryz.prog 39 = some 1 ∧ tyRow Tryz.prog 4 = some 1))) ∧ (((tyRow Tryz.prog 41 = some 3 ∧ tyRow Tryz.prog 5 = some 1) ∧ (tyRow Tryz.prog 54 = some 1 ∧ tyRow Tryz.prog 9 = some 1)) ∧ ((Tryz.prog.underlying 104 = some (TypeDesc.slice 9) ∧ Tryz.prog.underlying 25 = some (TypeDesc.slice 5)) ∧ (Tryz.prog.underlying 28 = some (TypeDesc.slice 107) ∧ Tryz.prog.underlying 3 = some (TypeDesc.int IntKind.i64))))) ∧ ((((Tryz.prog.underlying 39 = some (TypeDesc.slice 41) ∧ Tryz.prog.underlying 4 = some (TypeDesc.bool)) ∧ (Tryz.prog.underlying 5 = some (TypeDesc.int IntKind.u8) ∧ Tryz.prog.underlying 54 = some (TypeDesc.slice 3))) ∧ ((Tryz.prog.underlying 9 = some (TypeDesc.string) ∧ tyZero Tryz.prog 104 = some [Value.slice none 0 0]) ∧ (tyZero Tryz.prog 107 = some [Value.string ByteArray.empty, Value.int IntKind.i64 0, Value.int IntKind.i64 0, Value.bool false, Value.slice none 0 0, Value.slice none 0 0, Value.slice none 0 0, Value.slice none 0 0] ∧ tyZero Tryz.prog 25 = some [Value.slice none 0 0]))) ∧ (((tyZero Tryz.prog 28 = some [Value.slice none 0 0] ∧ tyZero Tryz.prog 3 = some [Value.int IntKind.i64 0]) ∧ (tyZero Tryz.prog 30 = some [Value.slice none 0 0] ∧ tyZero Tryz.prog 39 = some [Value.slice none 0 0])) ∧ ((tyZero Tryz.prog 4 = some [Value.bool false] ∧ tyZero Tryz.prog 41 = some [Value.int IntKind.i64 0, Value.slice none 0 0, Value.slice none 0 0]) ∧ (tyZero Tryz.prog 5 = some [Value.int IntKind.u8 0] ∧ (tyZero Tryz.prog 54 = some [Value.slice none 0 0] ∧ tyZero Tryz.prog 9 = some [Value.string ByteArray.empty]))))))) := ⟨⟨⟨⟨⟨⟨te104, te25⟩, ⟨te28, te39⟩⟩, ⟨⟨te54, tf107_0⟩, ⟨tf107_1, tf107_2⟩⟩⟩, ⟨⟨⟨tf107_3, tf107_4⟩, ⟨tf107_5, tf107_6⟩⟩, ⟨⟨tf107_7, tf30_0⟩, ⟨tf41_0, tf41_1⟩⟩⟩⟩, ⟨⟨⟨⟨tf41_2, tk104⟩, ⟨tk107, tk25⟩⟩, ⟨⟨tk28, tk3⟩, ⟨tk30, tk39⟩⟩⟩, ⟨⟨⟨tk4, tk41⟩, ⟨tk5, tk54⟩⟩, ⟨⟨tk9, tp107⟩, ⟨tp30, tp41⟩⟩⟩⟩⟩, ⟨⟨⟨⟨⟨tr104, tr107⟩, ⟨tr25, tr28⟩⟩, ⟨⟨tr3, tr30⟩, ⟨tr39, tr4⟩⟩⟩, ⟨⟨⟨tr41, tr5⟩, ⟨tr54, tr9⟩⟩, ⟨⟨tu104, tu25⟩, ⟨tu28, tu3⟩⟩⟩⟩, ⟨⟨⟨⟨tu39, tu4⟩, ⟨tu5, tu54⟩⟩, ⟨⟨tu9, tz104⟩, ⟨tz107, tz25⟩⟩⟩, ⟨⟨⟨tz28, tz3⟩, ⟨tz30, tz39⟩⟩, ⟨⟨tz4, tz41⟩, ⟨tz5, ⟨tz54, tz9⟩⟩⟩⟩⟩⟩⟩
set_option maxRecDepth 100000 in
theorem checkFileS_c (hD : DB M D) (hM : M ≤ 1048576) (hb : b.length ≤ 1048576) : AC Tryz.prog 92 [.d (encD D), .d (encB b)] none (fun r' _ => r' = chR (readF D b)) := by
  refine calls_body Tryz.func92 rfl Tryz.call92 Tryz.ntmps92 (by simp) (by simp [ArgsOk]) (by simp [Rz.nkL, Rz.nk]) fun en hsz hks hk0 => ?_; simp only [St.init, frOf, Rz.addSL, Rz.addS, Rz.toAL, Rz.toA, Rz.nk, List.zipIdx_cons, List.zipIdx_nil, List.map_cons, List.map_nil, Nat.zero_add, Nat.reduceAdd]
  (repeat (first | refine walkS ?_ | (refine callPre ?_; (first | refine callN_funS rfl (readFile_c hD hM hb) ?_)) | (refine callPreL ?_; (first | refine callL_funS rfl (readFile_c hD hM hb) ?_))))
  (refine aw_ret ?_; (simp only [Fin, Tryz.results92]; refine finS ?_); exact ⟨_, _, .inl ⟨rfl, rfl⟩, List.nodup_nil, rfl⟩)




end
end Go.Proofs.YtoegmaebdihnaaaGreatDoor.Eng
