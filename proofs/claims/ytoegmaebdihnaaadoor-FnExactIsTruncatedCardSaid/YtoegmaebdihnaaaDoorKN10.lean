/-
  The reference: checking.
-/
import Derived.Test.YtoegmaebdihnaaaDoorKN9
set_option linter.unusedSimpArgs false
set_option linter.unusedVariables false
namespace Go.Proofs.YtoegmaebdihnaaaDoor.Eng
open Go Go.RowKit

noncomputable def validP (D : List RuleD) (b : List UInt8) : Bool := (readF D b).2.2 == 0 || (readF D b).2.2 == 1
/-- The greatest length of a beginning, at most n, that may be one of a file. -/
noncomputable def longP (D : List RuleD) (b : List UInt8) : Nat → Int
  | 0 => if validP D [] = true then 0 else -1
  | n + 1 => if validP D (b.take (n + 1)) = true then ((n + 1 : Nat) : Int) else longP D b n

theorem longP_hit {D : List RuleD} {b : List UInt8} {n : Nat} (h : validP D (b.take n) = true) : longP D b n = n := by
  cases n with
  | zero => rw [List.take_zero] at h; unfold longP; rw [if_pos h]; rfl
  | succ n => unfold longP; rw [if_pos h]
theorem longP_miss {D : List RuleD} {b : List UInt8} {n : Nat} (h : validP D (b.take n) = false) : longP D b n = if n = 0 then -1 else longP D b (n - 1) := by
  cases n with
  | zero => rw [List.take_zero] at h; unfold longP; rw [h]; simp
  | succ n => rw [longP, h]; simp

section
variable {M : Nat} {D : List RuleD} {b : List UInt8}


private theorem tyF : ((((((bytesT Tryd.prog 25 = true ∧ tyElem Tryd.prog 25 = some 5) ∧ (tyElem Tryd.prog 28 = some 55 ∧ tyElem Tryd.prog 46 = some 9)) ∧ ((tyElem Tryd.prog 47 = some 3 ∧ tyElem Tryd.prog 50 = some 52) ∧ (tyField Tryd.prog 30 0 = some (0, 28) ∧ tyField Tryd.prog 52 0 = some (0, 3)))) ∧ (((tyField Tryd.prog 52 1 = some (1, 25) ∧ tyField Tryd.prog 52 2 = some (2, 50)) ∧ (tyField Tryd.prog 55 0 = some (0, 9) ∧ tyField Tryd.prog 55 1 = some (1, 3))) ∧ ((tyField Tryd.prog 55 2 = some (2, 3) ∧ tyField Tryd.prog 55 3 = some (3, 4)) ∧ (tyField Tryd.prog 55 4 = some (4, 25) ∧ tyField Tryd.prog 55 5 = some (5, 46))))) ∧ ((((tyField Tryd.prog 55 6 = some (6, 47) ∧ tyField Tryd.prog 55 7 = some (7, 47)) ∧ (tyK Tryd.prog 25 = some (false, 1) ∧ tyK Tryd.prog 28 = some (false, 1))) ∧ ((tyK Tryd.prog 3 = some (false, 1) ∧ tyK Tryd.prog 30 = some (true, 1)) ∧ (tyK Tryd.prog 4 = some (false, 1) ∧ tyK Tryd.prog 46 = some (false, 1)))) ∧ (((tyK Tryd.prog 47 = some (false, 1) ∧ tyK Tryd.prog 5 = some (false, 1)) ∧ (tyK Tryd.prog 50 = some (false, 1) ∧ tyK Tryd.prog 52 = some (true, 3))) ∧ ((tyK Tryd.prog 55 = some (true, 8) ∧ tyK Tryd.prog 9 = some (false, 1)) ∧ (tyPlaces Tryd.prog 30 = some [(0, 1)] ∧ (tyPlaces Tryd.prog 52 = some [(0, 1), (1, 1), (2, 1)] ∧ tyPlaces Tryd.prog 55 = some [(0, 1), (1, 1), (2, 1), (3, 1), (4, 1), (5, 1), (6, 1), (7, 1)])))))) ∧ (((((tyRow Tryd.prog 25 = some 1 ∧ tyRow Tryd.prog 28 = some 1) ∧ (tyRow Tryd.prog 3 = some 1 ∧ tyRow Tryd.prog 30 = some 1)) ∧ ((tyRow Tryd.prog 4 = some 1 ∧ tyRow Tryd.prog 46 = some 1) ∧ (tyRow Tryd.prog 47 = some 1 ∧ tyRow Tryd.prog 5 = some 1))) ∧ (((tyRow Tryd.prog 50 = some 1 ∧ tyRow Tryd.prog 52 = some 3) ∧ (tyRow Tryd.prog 55 = some 8 ∧ tyRow Tryd.prog 9 = some 1)) ∧ ((Tryd.prog.underlying 25 = some (TypeDesc.slice 5) ∧ Tryd.prog.underlying 28 = some (TypeDesc.slice 55)) ∧ (Tryd.prog.underlying 3 = some (TypeDesc.int IntKind.i64) ∧ Tryd.prog.underlying 4 = some (TypeDesc.bool))))) ∧ ((((Tryd.prog.underlying 46 = some (TypeDesc.slice 9) ∧ Tryd.prog.underlying 47 = some (TypeDesc.slice 3)) ∧ (Tryd.prog.underlying 5 = some (TypeDesc.int IntKind.u8) ∧ Tryd.prog.underlying 50 = some (TypeDesc.slice 52))) ∧ ((Tryd.prog.underlying 9 = some (TypeDesc.string) ∧ tyZero Tryd.prog 25 = some [Value.slice none 0 0]) ∧ (tyZero Tryd.prog 28 = some [Value.slice none 0 0] ∧ tyZero Tryd.prog 3 = some [Value.int IntKind.i64 0]))) ∧ (((tyZero Tryd.prog 30 = some [Value.slice none 0 0] ∧ tyZero Tryd.prog 4 = some [Value.bool false]) ∧ (tyZero Tryd.prog 46 = some [Value.slice none 0 0] ∧ tyZero Tryd.prog 47 = some [Value.slice none 0 0])) ∧ ((tyZero Tryd.prog 5 = some [Value.int IntKind.u8 0] ∧ tyZero Tryd.prog 50 = some [Value.slice none 0 0]) ∧ (tyZero Tryd.prog 52 = some [Value.int IntKind.i64 0, Value.slice none 0 0, Value.slice none 0 0] ∧ (tyZero Tryd.prog 55 = some [Value.string ByteArray.empty, Value.int IntKind.i64 0, Value.int IntKind.i64 0, Value.bool false, Value.slice none 0 0, Value.slice none 0 0, Value.slice none 0 0, Value.slice none 0 0] ∧ tyZero Tryd.prog 9 = some [Value.string ByteArray.empty]))))))) := ⟨⟨⟨⟨⟨⟨tb25, te25⟩, ⟨te28, te46⟩⟩, ⟨⟨te47, te50⟩, ⟨tf30_0, tf52_0⟩⟩⟩, ⟨⟨⟨tf52_1, tf52_2⟩, ⟨tf55_0, tf55_1⟩⟩, ⟨⟨tf55_2, tf55_3⟩, ⟨tf55_4, tf55_5⟩⟩⟩⟩, ⟨⟨⟨⟨tf55_6, tf55_7⟩, ⟨tk25, tk28⟩⟩, ⟨⟨tk3, tk30⟩, ⟨tk4, tk46⟩⟩⟩, ⟨⟨⟨tk47, tk5⟩, ⟨tk50, tk52⟩⟩, ⟨⟨tk55, tk9⟩, ⟨tp30, ⟨tp52, tp55⟩⟩⟩⟩⟩⟩, ⟨⟨⟨⟨⟨tr25, tr28⟩, ⟨tr3, tr30⟩⟩, ⟨⟨tr4, tr46⟩, ⟨tr47, tr5⟩⟩⟩, ⟨⟨⟨tr50, tr52⟩, ⟨tr55, tr9⟩⟩, ⟨⟨tu25, tu28⟩, ⟨tu3, tu4⟩⟩⟩⟩, ⟨⟨⟨⟨tu46, tu47⟩, ⟨tu5, tu50⟩⟩, ⟨⟨tu9, tz25⟩, ⟨tz28, tz3⟩⟩⟩, ⟨⟨⟨tz30, tz4⟩, ⟨tz46, tz47⟩⟩, ⟨⟨tz5, tz50⟩, ⟨tz52, ⟨tz55, tz9⟩⟩⟩⟩⟩⟩⟩
set_option maxRecDepth 100000 in
theorem checkFileS_c (hD : DB M D) (hM : M ≤ 1048576) (hb : b.length ≤ 1048576) : AC Tryd.prog 12 [.d (encD D), .d (encB b)] none (fun r' _ => r' = chR (readF D b)) := by
  refine calls_body Tryd.func12 rfl Tryd.call12 Tryd.ntmps12 (by simp) (by simp [ArgsOk]) (by simp [Rz.nkL, Rz.nk]) fun en hsz hks hk0 => ?_; simp only [St.init, frOf, Rz.addSL, Rz.addS, Rz.toAL, Rz.toA, Rz.nk, List.zipIdx_cons, List.zipIdx_nil, List.map_cons, List.map_nil, Nat.zero_add, Nat.reduceAdd]
  (repeat (first | refine walkS ?_ | (refine callPre ?_; (first | refine callN_funS rfl (readFile_c hD hM hb) ?_)) | (refine callPreL ?_; (first | refine callL_funS rfl (readFile_c hD hM hb) ?_))))
  (refine aw_ret ?_; (simp only [Fin, Tryd.results12]; refine finS ?_); exact ⟨_, _, .inl ⟨rfl, rfl⟩, List.nodup_nil, rfl⟩)




end
end Go.Proofs.YtoegmaebdihnaaaDoor.Eng
