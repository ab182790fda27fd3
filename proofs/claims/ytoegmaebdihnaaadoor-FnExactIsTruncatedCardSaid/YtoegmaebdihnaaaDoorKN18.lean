/-
  Checking files, the program's side: CheckFile, ValidPrefix, LongestValidPrefix.
-/
import Derived.Test.YtoegmaebdihnaaaDoorKN16
import Derived.Test.YtoegmaebdihnaaaDoorKN17
set_option linter.unusedSimpArgs false
set_option linter.unusedVariables false
namespace Go.Proofs.YtoegmaebdihnaaaDoor.Eng
open Go Go.RowKit

theorem readV_le (D : List RuleD) (b : List UInt8) (i p : Int) : (readV D b i p).2.1 ≤ b.length := by
  unfold readV
  split
  · rename_i h
    exact (rd_in D b D.length i.toNat p.toNat (by omega)).2
  · exact Nat.zero_le _

section
variable {M : Nat} {D : List RuleD} {b : List UInt8}
private theorem tyF : (((((bytesT Tryd.prog 25 = true ∧ (tyElem Tryd.prog 25 = some 5 ∧ tyElem Tryd.prog 28 = some 55)) ∧ ((tyElem Tryd.prog 46 = some 9 ∧ tyElem Tryd.prog 47 = some 3) ∧ (tyField Tryd.prog 30 0 = some (0, 28) ∧ tyField Tryd.prog 55 0 = some (0, 9)))) ∧ (((tyField Tryd.prog 55 1 = some (1, 3) ∧ tyField Tryd.prog 55 2 = some (2, 3)) ∧ (tyField Tryd.prog 55 3 = some (3, 4) ∧ tyField Tryd.prog 55 4 = some (4, 25))) ∧ ((tyField Tryd.prog 55 5 = some (5, 46) ∧ tyField Tryd.prog 55 6 = some (6, 47)) ∧ (tyField Tryd.prog 55 7 = some (7, 47) ∧ tyField Tryd.prog 86 0 = some (0, 3))))) ∧ (((tyField Tryd.prog 86 1 = some (1, 3) ∧ (tyK Tryd.prog 25 = some (false, 1) ∧ tyK Tryd.prog 28 = some (false, 1))) ∧ ((tyK Tryd.prog 3 = some (false, 1) ∧ tyK Tryd.prog 30 = some (true, 1)) ∧ (tyK Tryd.prog 4 = some (false, 1) ∧ tyK Tryd.prog 46 = some (false, 1)))) ∧ (((tyK Tryd.prog 47 = some (false, 1) ∧ tyK Tryd.prog 5 = some (false, 1)) ∧ (tyK Tryd.prog 55 = some (true, 8) ∧ tyK Tryd.prog 86 = some (true, 2))) ∧ ((tyK Tryd.prog 9 = some (false, 1) ∧ tyPlaces Tryd.prog 30 = some [(0, 1)]) ∧ (tyPlaces Tryd.prog 55 = some [(0, 1), (1, 1), (2, 1), (3, 1), (4, 1), (5, 1), (6, 1), (7, 1)] ∧ tyPlaces Tryd.prog 86 = some [(0, 1), (1, 1)]))))) ∧ ((((tyFlat Tryd.prog 86 = some [0, 0] ∧ (tyRow Tryd.prog 25 = some 1 ∧ tyRow Tryd.prog 28 = some 1)) ∧ ((tyRow Tryd.prog 3 = some 1 ∧ tyRow Tryd.prog 30 = some 1) ∧ (tyRow Tryd.prog 4 = some 1 ∧ tyRow Tryd.prog 46 = some 1))) ∧ (((tyRow Tryd.prog 47 = some 1 ∧ tyRow Tryd.prog 5 = some 1) ∧ (tyRow Tryd.prog 55 = some 8 ∧ tyRow Tryd.prog 86 = some 2)) ∧ ((tyRow Tryd.prog 9 = some 1 ∧ Tryd.prog.underlying 25 = some (TypeDesc.slice 5)) ∧ (Tryd.prog.underlying 28 = some (TypeDesc.slice 55) ∧ Tryd.prog.underlying 3 = some (TypeDesc.int IntKind.i64))))) ∧ ((((Tryd.prog.underlying 4 = some (TypeDesc.bool) ∧ Tryd.prog.underlying 46 = some (TypeDesc.slice 9)) ∧ (Tryd.prog.underlying 47 = some (TypeDesc.slice 3) ∧ Tryd.prog.underlying 5 = some (TypeDesc.int IntKind.u8))) ∧ ((Tryd.prog.underlying 9 = some (TypeDesc.string) ∧ tyZero Tryd.prog 25 = some [Value.slice none 0 0]) ∧ (tyZero Tryd.prog 28 = some [Value.slice none 0 0] ∧ tyZero Tryd.prog 3 = some [Value.int IntKind.i64 0]))) ∧ (((tyZero Tryd.prog 30 = some [Value.slice none 0 0] ∧ tyZero Tryd.prog 4 = some [Value.bool false]) ∧ (tyZero Tryd.prog 46 = some [Value.slice none 0 0] ∧ tyZero Tryd.prog 47 = some [Value.slice none 0 0])) ∧ ((tyZero Tryd.prog 5 = some [Value.int IntKind.u8 0] ∧ tyZero Tryd.prog 55 = some [Value.string ByteArray.empty, Value.int IntKind.i64 0, Value.int IntKind.i64 0, Value.bool false, Value.slice none 0 0, Value.slice none 0 0, Value.slice none 0 0, Value.slice none 0 0]) ∧ (tyZero Tryd.prog 86 = some [Value.int IntKind.i64 0, Value.int IntKind.i64 0] ∧ tyZero Tryd.prog 9 = some [Value.string ByteArray.empty])))))) := ⟨⟨⟨⟨⟨tb25, ⟨te25, te28⟩⟩, ⟨⟨te46, te47⟩, ⟨tf30_0, tf55_0⟩⟩⟩, ⟨⟨⟨tf55_1, tf55_2⟩, ⟨tf55_3, tf55_4⟩⟩, ⟨⟨tf55_5, tf55_6⟩, ⟨tf55_7, tf86_0⟩⟩⟩⟩, ⟨⟨⟨tf86_1, ⟨tk25, tk28⟩⟩, ⟨⟨tk3, tk30⟩, ⟨tk4, tk46⟩⟩⟩, ⟨⟨⟨tk47, tk5⟩, ⟨tk55, tk86⟩⟩, ⟨⟨tk9, tp30⟩, ⟨tp55, tp86⟩⟩⟩⟩⟩, ⟨⟨⟨⟨tq86, ⟨tr25, tr28⟩⟩, ⟨⟨tr3, tr30⟩, ⟨tr4, tr46⟩⟩⟩, ⟨⟨⟨tr47, tr5⟩, ⟨tr55, tr86⟩⟩, ⟨⟨tr9, tu25⟩, ⟨tu28, tu3⟩⟩⟩⟩, ⟨⟨⟨⟨tu4, tu46⟩, ⟨tu47, tu5⟩⟩, ⟨⟨tu9, tz25⟩, ⟨tz28, tz3⟩⟩⟩, ⟨⟨⟨tz30, tz4⟩, ⟨tz46, tz47⟩⟩, ⟨⟨tz5, tz55⟩, ⟨tz86, tz9⟩⟩⟩⟩⟩⟩
set_option maxRecDepth 100000 in
set_option maxHeartbeats 1000000 in
theorem checkFileI_c (hD : DB M D) (hM : M ≤ 1048576) (hb : b.length ≤ 1048576) : AC Tryd.prog 22 [.d (encD D), .d (encB b)] none (fun r' _ => r' = chR (readF D b)) := by
  have HC := checkValueI_c hD hM hb ((D.length : Int) - 1) 0
  have hF : readF D b = if (readV D b ((D.length : Int) - 1) 0).2.2 = 0 ∧ (readV D b ((D.length : Int) - 1) 0).2.1 < b.length then (V0, (readV D b ((D.length : Int) - 1) 0).2.1, 7) else readV D b ((D.length : Int) - 1) 0 := rfl
  have hle := readV_le D b ((D.length : Int) - 1) 0
  generalize readV D b ((D.length : Int) - 1) 0 = z at HC hF hle
  obtain ⟨v, q, c⟩ := z
  simp only at hF hle
  refine calls_body Tryd.func22 rfl Tryd.call22 Tryd.ntmps22 (by simp) (by simp [ArgsOk]) (by simp [Rz.nkL, Rz.nk]) fun en hsz hks hk0 => ?_; simp only [St.init, frOf, Rz.addSL, Rz.addS, Rz.toAL, Rz.toA, Rz.nk, List.zipIdx_cons, List.zipIdx_nil, List.map_cons, List.map_nil, Nat.zero_add, Nat.reduceAdd]
  (repeat (first | refine walkS ?_ | (refine callPre ?_; (first | refine callN_funS rfl (rootI_c hD hM) ?_ | refine callN_funS rfl (HC) ?_)) | (refine callPreL ?_; (first | refine callL_funS rfl (rootI_c hD hM) ?_ | refine callL_funS rfl (HC) ?_))))
  (refine ow_gd rfl rfl (fun x hx => by cases hx <;> (rw [hsz]; decide)) (fun hg K1 hK1 => ?_) (fun hg => ?_); ((try simp only [hg]); refine evS ?_;  refine hK1 _ ?_; clear hK1 K1); rotate_left; (simp only [Bool.not_true, Bool.not_false] at hg; simp only [St.set, hg]); rotate_left)
  · refine walkS ?_
    refine aw_condS rfl (fun h1 => ?_) (fun h1 => ?_)
    · simp at hg
      refine walkS ?_
      (refine aw_ret ?_; (simp only [Fin, Tryd.results22]; refine finS ?_); exact ⟨_, _, .inl ⟨rfl, rfl⟩, List.nodup_nil, by rw [hF, if_pos ⟨by omega, by omega⟩]; rfl⟩)
    · simp at hg
      refine walkS ?_
      (refine aw_ret ?_; (simp only [Fin, Tryd.results22]; refine finS ?_); exact ⟨_, _, .inl ⟨rfl, rfl⟩, List.nodup_nil, by rw [hF, if_neg (by omega)]⟩)
  · refine walkS ?_
    refine aw_condS rfl (fun h1 => ?_) (fun h1 => ?_)
    · (first | exact absurd trivial h1 | exact absurd rfl h1 | (cases h1; done) | omega | exact absurd h1 (by decide) | (simp at h1; done))
    · simp at hg
      refine walkS ?_
      (refine aw_ret ?_; (simp only [Fin, Tryd.results22]; refine finS ?_); exact ⟨_, _, .inl ⟨rfl, rfl⟩, List.nodup_nil, by rw [hF, if_neg (by omega)]⟩)


end
end Go.Proofs.YtoegmaebdihnaaaDoor.Eng
