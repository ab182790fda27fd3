/-
  The last rule, the program's side.
-/
import Derived.Test.YtoegmaebdihnaaaGreatDoorKN9
set_option linter.unusedSimpArgs false
set_option linter.unusedVariables false
namespace Go.Proofs.YtoegmaebdihnaaaGreatDoor.Eng
open Go Go.RowKit

section
variable {M : Nat} {D : List RuleD}
private theorem tyF : (((((bytesT Tryz.prog 25 = true ∧ (tyElem Tryz.prog 104 = some 9 ∧ tyElem Tryz.prog 25 = some 5)) ∧ (tyElem Tryz.prog 28 = some 107 ∧ (tyElem Tryz.prog 54 = some 3 ∧ tyField Tryz.prog 107 0 = some (0, 9)))) ∧ ((tyField Tryz.prog 107 1 = some (1, 3) ∧ (tyField Tryz.prog 107 2 = some (2, 3) ∧ tyField Tryz.prog 107 3 = some (3, 4))) ∧ ((tyField Tryz.prog 107 4 = some (4, 25) ∧ tyField Tryz.prog 107 5 = some (5, 104)) ∧ (tyField Tryz.prog 107 6 = some (6, 54) ∧ tyField Tryz.prog 107 7 = some (7, 54))))) ∧ (((tyField Tryz.prog 30 0 = some (0, 28) ∧ (tyK Tryz.prog 104 = some (false, 1) ∧ tyK Tryz.prog 107 = some (true, 8))) ∧ ((tyK Tryz.prog 25 = some (false, 1) ∧ tyK Tryz.prog 28 = some (false, 1)) ∧ (tyK Tryz.prog 3 = some (false, 1) ∧ tyK Tryz.prog 30 = some (true, 1)))) ∧ ((tyK Tryz.prog 4 = some (false, 1) ∧ (tyK Tryz.prog 5 = some (false, 1) ∧ tyK Tryz.prog 54 = some (false, 1))) ∧ ((tyK Tryz.prog 9 = some (false, 1) ∧ tyPlaces Tryz.prog 107 = some [(0, 1), (1, 1), (2, 1), (3, 1), (4, 1), (5, 1), (6, 1), (7, 1)]) ∧ (tyPlaces Tryz.prog 30 = some [(0, 1)] ∧ tyRow Tryz.prog 104 = some 1))))) ∧ ((((tyRow Tryz.prog 107 = some 8 ∧ (tyRow Tryz.prog 25 = some 1 ∧ tyRow Tryz.prog 28 = some 1)) ∧ (tyRow Tryz.prog 3 = some 1 ∧ (tyRow Tryz.prog 30 = some 1 ∧ tyRow Tryz.prog 4 = some 1))) ∧ ((tyRow Tryz.prog 5 = some 1 ∧ (tyRow Tryz.prog 54 = some 1 ∧ tyRow Tryz.prog 9 = some 1)) ∧ ((Tryz.prog.underlying 104 = some (TypeDesc.slice 9) ∧ Tryz.prog.underlying 25 = some (TypeDesc.slice 5)) ∧ (Tryz.prog.underlying 28 = some (TypeDesc.slice 107) ∧ Tryz.prog.underlying 3 = some (TypeDesc.int IntKind.i64))))) ∧ (((Tryz.prog.underlying 4 = some (TypeDesc.bool) ∧ (Tryz.prog.underlying 5 = some (TypeDesc.int IntKind.u8) ∧ Tryz.prog.underlying 54 = some (TypeDesc.slice 3))) ∧ ((Tryz.prog.underlying 9 = some (TypeDesc.string) ∧ tyZero Tryz.prog 104 = some [Value.slice none 0 0]) ∧ (tyZero Tryz.prog 107 = some [Value.string ByteArray.empty, Value.int IntKind.i64 0, Value.int IntKind.i64 0, Value.bool false, Value.slice none 0 0, Value.slice none 0 0, Value.slice none 0 0, Value.slice none 0 0] ∧ tyZero Tryz.prog 25 = some [Value.slice none 0 0]))) ∧ ((tyZero Tryz.prog 28 = some [Value.slice none 0 0] ∧ (tyZero Tryz.prog 3 = some [Value.int IntKind.i64 0] ∧ tyZero Tryz.prog 30 = some [Value.slice none 0 0])) ∧ ((tyZero Tryz.prog 4 = some [Value.bool false] ∧ tyZero Tryz.prog 5 = some [Value.int IntKind.u8 0]) ∧ (tyZero Tryz.prog 54 = some [Value.slice none 0 0] ∧ tyZero Tryz.prog 9 = some [Value.string ByteArray.empty])))))) := ⟨⟨⟨⟨⟨tb25, ⟨te104, te25⟩⟩, ⟨te28, ⟨te54, tf107_0⟩⟩⟩, ⟨⟨tf107_1, ⟨tf107_2, tf107_3⟩⟩, ⟨⟨tf107_4, tf107_5⟩, ⟨tf107_6, tf107_7⟩⟩⟩⟩, ⟨⟨⟨tf30_0, ⟨tk104, tk107⟩⟩, ⟨⟨tk25, tk28⟩, ⟨tk3, tk30⟩⟩⟩, ⟨⟨tk4, ⟨tk5, tk54⟩⟩, ⟨⟨tk9, tp107⟩, ⟨tp30, tr104⟩⟩⟩⟩⟩, ⟨⟨⟨⟨tr107, ⟨tr25, tr28⟩⟩, ⟨tr3, ⟨tr30, tr4⟩⟩⟩, ⟨⟨tr5, ⟨tr54, tr9⟩⟩, ⟨⟨tu104, tu25⟩, ⟨tu28, tu3⟩⟩⟩⟩, ⟨⟨⟨tu4, ⟨tu5, tu54⟩⟩, ⟨⟨tu9, tz104⟩, ⟨tz107, tz25⟩⟩⟩, ⟨⟨tz28, ⟨tz3, tz30⟩⟩, ⟨⟨tz4, tz5⟩, ⟨tz54, tz9⟩⟩⟩⟩⟩⟩
set_option maxRecDepth 100000 in
theorem rootI_c (hD : DB M D) (hM : M ≤ 1048576) : AC Tryz.prog 65 [.d (encD D)] none (fun r' _ => r' = .d (iD ((D.length : Int) - 1))) := by
  have hl := hD.len
  refine calls_body Tryz.func65 rfl Tryz.call65 Tryz.ntmps65 (by simp) (by simp [ArgsOk]) (by simp [Rz.nkL, Rz.nk]) fun en hsz hks hk0 => ?_; simp only [St.init, frOf, Rz.addSL, Rz.addS, Rz.toAL, Rz.toA, Rz.nk, List.zipIdx_cons, List.zipIdx_nil, List.map_cons, List.map_nil, Nat.zero_add, Nat.reduceAdd]
  refine walkS ?_
  (refine aw_ret ?_; (simp only [Fin, Tryz.results65]; refine finS ?_); exact ⟨_, _, .inl ⟨rfl, rfl⟩, List.nodup_nil, rfl⟩)
end
end Go.Proofs.YtoegmaebdihnaaaGreatDoor.Eng
