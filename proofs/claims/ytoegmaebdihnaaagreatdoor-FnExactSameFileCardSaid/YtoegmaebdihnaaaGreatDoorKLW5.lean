/-
  The law: SameFile.
-/
import Derived.Test.YtoegmaebdihnaaaGreatDoorKL
import Derived.Test.YtoegmaebdihnaaaGreatDoorKN37
set_option linter.unusedSimpArgs false
set_option linter.unusedVariables false
namespace Go.Proofs.YtoegmaebdihnaaaGreatDoor.Eng
open Go Go.RowKit

private theorem tyF : ((((((bytesT Tryz.prog 25 = true ∧ tyElem Tryz.prog 104 = some 9) ∧ (tyElem Tryz.prog 22 = some 106 ∧ tyElem Tryz.prog 25 = some 5)) ∧ ((tyElem Tryz.prog 28 = some 107 ∧ tyElem Tryz.prog 54 = some 3) ∧ (tyField Tryz.prog 106 0 = some (0, 9) ∧ (tyField Tryz.prog 106 1 = some (1, 3) ∧ tyField Tryz.prog 106 2 = some (2, 3))))) ∧ (((tyField Tryz.prog 106 3 = some (3, 4) ∧ tyField Tryz.prog 106 4 = some (4, 25)) ∧ (tyField Tryz.prog 106 5 = some (5, 104) ∧ (tyField Tryz.prog 106 6 = some (6, 54) ∧ tyField Tryz.prog 106 7 = some (7, 54)))) ∧ ((tyField Tryz.prog 107 0 = some (0, 9) ∧ tyField Tryz.prog 107 1 = some (1, 3)) ∧ (tyField Tryz.prog 107 2 = some (2, 3) ∧ (tyField Tryz.prog 107 3 = some (3, 4) ∧ tyField Tryz.prog 107 4 = some (4, 25)))))) ∧ ((((tyField Tryz.prog 107 5 = some (5, 104) ∧ tyField Tryz.prog 107 6 = some (6, 54)) ∧ (tyField Tryz.prog 107 7 = some (7, 54) ∧ tyField Tryz.prog 24 0 = some (0, 22))) ∧ ((tyField Tryz.prog 30 0 = some (0, 28) ∧ tyK Tryz.prog 104 = some (false, 1)) ∧ (tyK Tryz.prog 106 = some (true, 8) ∧ (tyK Tryz.prog 107 = some (true, 8) ∧ tyK Tryz.prog 22 = some (false, 1))))) ∧ (((tyK Tryz.prog 24 = some (true, 1) ∧ tyK Tryz.prog 25 = some (false, 1)) ∧ (tyK Tryz.prog 28 = some (false, 1) ∧ (tyK Tryz.prog 3 = some (false, 1) ∧ tyK Tryz.prog 30 = some (true, 1)))) ∧ ((tyK Tryz.prog 4 = some (false, 1) ∧ tyK Tryz.prog 5 = some (false, 1)) ∧ (tyK Tryz.prog 54 = some (false, 1) ∧ (tyK Tryz.prog 9 = some (false, 1) ∧ tyPlaces Tryz.prog 106 = some [(0, 1), (1, 1), (2, 1), (3, 1), (4, 1), (5, 1), (6, 1), (7, 1)])))))) ∧ (((((tyPlaces Tryz.prog 107 = some [(0, 1), (1, 1), (2, 1), (3, 1), (4, 1), (5, 1), (6, 1), (7, 1)] ∧ tyPlaces Tryz.prog 24 = some [(0, 1)]) ∧ (tyPlaces Tryz.prog 30 = some [(0, 1)] ∧ tyRow Tryz.prog 104 = some 1)) ∧ ((tyRow Tryz.prog 106 = some 8 ∧ tyRow Tryz.prog 107 = some 8) ∧ (tyRow Tryz.prog 22 = some 1 ∧ (tyRow Tryz.prog 24 = some 1 ∧ tyRow Tryz.prog 25 = some 1)))) ∧ (((tyRow Tryz.prog 28 = some 1 ∧ tyRow Tryz.prog 3 = some 1) ∧ (tyRow Tryz.prog 30 = some 1 ∧ (tyRow Tryz.prog 4 = some 1 ∧ tyRow Tryz.prog 5 = some 1))) ∧ ((tyRow Tryz.prog 54 = some 1 ∧ tyRow Tryz.prog 9 = some 1) ∧ (Tryz.prog.underlying 104 = some (TypeDesc.slice 9) ∧ (Tryz.prog.underlying 22 = some (TypeDesc.slice 106) ∧ Tryz.prog.underlying 25 = some (TypeDesc.slice 5)))))) ∧ ((((Tryz.prog.underlying 28 = some (TypeDesc.slice 107) ∧ Tryz.prog.underlying 3 = some (TypeDesc.int IntKind.i64)) ∧ (Tryz.prog.underlying 4 = some (TypeDesc.bool) ∧ Tryz.prog.underlying 5 = some (TypeDesc.int IntKind.u8))) ∧ ((Tryz.prog.underlying 54 = some (TypeDesc.slice 3) ∧ Tryz.prog.underlying 9 = some (TypeDesc.string)) ∧ (tyZero Tryz.prog 104 = some [Value.slice none 0 0] ∧ (tyZero Tryz.prog 106 = some [Value.string ByteArray.empty, Value.int IntKind.i64 0, Value.int IntKind.i64 0, Value.bool false, Value.slice none 0 0, Value.slice none 0 0, Value.slice none 0 0, Value.slice none 0 0] ∧ tyZero Tryz.prog 107 = some [Value.string ByteArray.empty, Value.int IntKind.i64 0, Value.int IntKind.i64 0, Value.bool false, Value.slice none 0 0, Value.slice none 0 0, Value.slice none 0 0, Value.slice none 0 0])))) ∧ (((tyZero Tryz.prog 22 = some [Value.slice none 0 0] ∧ tyZero Tryz.prog 24 = some [Value.slice none 0 0]) ∧ (tyZero Tryz.prog 25 = some [Value.slice none 0 0] ∧ (tyZero Tryz.prog 28 = some [Value.slice none 0 0] ∧ tyZero Tryz.prog 3 = some [Value.int IntKind.i64 0]))) ∧ ((tyZero Tryz.prog 30 = some [Value.slice none 0 0] ∧ tyZero Tryz.prog 4 = some [Value.bool false]) ∧ (tyZero Tryz.prog 5 = some [Value.int IntKind.u8 0] ∧ (tyZero Tryz.prog 54 = some [Value.slice none 0 0] ∧ tyZero Tryz.prog 9 = some [Value.string ByteArray.empty]))))))) := ⟨⟨⟨⟨⟨⟨tb25, te104⟩, ⟨te22, te25⟩⟩, ⟨⟨te28, te54⟩, ⟨tf106_0, ⟨tf106_1, tf106_2⟩⟩⟩⟩, ⟨⟨⟨tf106_3, tf106_4⟩, ⟨tf106_5, ⟨tf106_6, tf106_7⟩⟩⟩, ⟨⟨tf107_0, tf107_1⟩, ⟨tf107_2, ⟨tf107_3, tf107_4⟩⟩⟩⟩⟩, ⟨⟨⟨⟨tf107_5, tf107_6⟩, ⟨tf107_7, tf24_0⟩⟩, ⟨⟨tf30_0, tk104⟩, ⟨tk106, ⟨tk107, tk22⟩⟩⟩⟩, ⟨⟨⟨tk24, tk25⟩, ⟨tk28, ⟨tk3, tk30⟩⟩⟩, ⟨⟨tk4, tk5⟩, ⟨tk54, ⟨tk9, tp106⟩⟩⟩⟩⟩⟩, ⟨⟨⟨⟨⟨tp107, tp24⟩, ⟨tp30, tr104⟩⟩, ⟨⟨tr106, tr107⟩, ⟨tr22, ⟨tr24, tr25⟩⟩⟩⟩, ⟨⟨⟨tr28, tr3⟩, ⟨tr30, ⟨tr4, tr5⟩⟩⟩, ⟨⟨tr54, tr9⟩, ⟨tu104, ⟨tu22, tu25⟩⟩⟩⟩⟩, ⟨⟨⟨⟨tu28, tu3⟩, ⟨tu4, tu5⟩⟩, ⟨⟨tu54, tu9⟩, ⟨tz104, ⟨tz106, tz107⟩⟩⟩⟩, ⟨⟨⟨tz22, tz24⟩, ⟨tz25, ⟨tz28, tz3⟩⟩⟩, ⟨⟨tz30, tz4⟩, ⟨tz5, ⟨tz54, tz9⟩⟩⟩⟩⟩⟩⟩
set_option maxRecDepth 100000 in
set_option maxHeartbeats 4000000 in
theorem lawSameFile_c {D : List RuleD} (hD : DB 9223372036854775807 D) {a b : List UInt8} (ha0 : a.length ≤ 9223372036854775807) (hb0 : b.length ≤ 9223372036854775807) : AC Tryz.prog 5 [.d (encD D), .d (encB a), .d (encB b)] none (fun r' _ => r' = .d (bD true)) := by
  refine calls_body Tryz.func5 rfl Tryz.call5 Tryz.ntmps5 (by simp) (by simp [ArgsOk]) (by simp [Rz.nkL, Rz.nk]) fun en hsz hks hk0 => ?_; simp only [St.init, frOf, Rz.addSL, Rz.addS, Rz.toAL, Rz.toA, Rz.nk, List.zipIdx_cons, List.zipIdx_nil, List.map_cons, List.map_nil, Nat.zero_add, Nat.reduceAdd]
  refine walkS ?_
  refine aw_condS rfl (fun h0 => ?_) (fun h0 => ?_)
  · refine walkS ?_
    (refine aw_ret ?_; (simp only [Fin, Tryz.results5]; refine finS ?_); exact ⟨_, _, .inl ⟨rfl, rfl⟩, List.nodup_nil, rfl⟩)
  have ha : a.length ≤ 1048576 := by omega
  refine walkS ?_
  refine aw_condS rfl (fun h00 => ?_) (fun h00 => ?_)
  · refine walkS ?_
    (refine aw_ret ?_; (simp only [Fin, Tryz.results5]; refine finS ?_); exact ⟨_, _, .inl ⟨rfl, rfl⟩, List.nodup_nil, rfl⟩)
  have hb : b.length ≤ 1048576 := by omega
  (repeat (first | refine walkS ?_ | (refine callPre ?_; (first | refine callN_funS rfl (szDescription_c hD 1048576 (by omega)) ?_)) | (refine callPreL ?_; (first | refine callL_funS rfl (szDescription_c hD 1048576 (by omega)) ?_))))
  refine aw_condS rfl (fun h1 => ?_) (fun h1 => ?_)
  · refine walkS ?_
    (refine aw_ret ?_; (simp only [Fin, Tryz.results5]; refine finS ?_); exact ⟨_, _, .inl ⟨rfl, rfl⟩, List.nodup_nil, rfl⟩)
  have hDM : DB 1048576 D := lftDs_ge (x := 1048576) (by omega) (by omega) (by omega)
  have HS := sameS_c hDM (Nat.le_refl _) ha hb
  have HI := sameI_c hDM (Nat.le_refl _) ha hb
  cases hz : sameP D a b
  all_goals
    rw [hz] at HS HI
    (repeat (first | refine walkS ?_ | (refine callPre ?_; (first | refine callN_funS rfl (toDescription_c hDM (Nat.le_refl _)) ?_ | refine callN_funS rfl (toByteS_c ha) ?_ | refine callN_funS rfl (toByteS_c hb) ?_ | refine callN_funS rfl (HS) ?_ | refine callN_funS rfl (HI) ?_)) | (refine callPreL ?_; (first | refine callL_funS rfl (toDescription_c hDM (Nat.le_refl _)) ?_ | refine callL_funS rfl (toByteS_c ha) ?_ | refine callL_funS rfl (toByteS_c hb) ?_ | refine callL_funS rfl (HS) ?_ | refine callL_funS rfl (HI) ?_))))
    refine aw_condS rfl (fun h2 => ?_) (fun h2 => ?_)
    · (first | exact absurd trivial h2 | exact absurd rfl h2 | (cases h2; done) | omega | exact absurd h2 (by decide) | (simp at h2; done))
    (repeat (first | refine walkS ?_ | (refine callPre ?_; (first | refine callN_funS rfl (toDescription_c hDM (Nat.le_refl _)) ?_ | refine callN_funS rfl (eqDescription_c hDM (Nat.le_refl _)) ?_)) | (refine callPreL ?_; (first | refine callL_funS rfl (toDescription_c hDM (Nat.le_refl _)) ?_ | refine callL_funS rfl (eqDescription_c hDM (Nat.le_refl _)) ?_))))
    refine aw_condS rfl (fun hc => ?_) (fun hc => ?_)
    · (first | exact absurd trivial hc | exact absurd rfl hc | (cases hc; done) | omega | exact absurd hc (by decide) | (simp at hc; done))
    (repeat (first | refine walkS ?_ | (refine callPre ?_; (first | refine callN_funS rfl (toByteS_c ha) ?_ | refine callN_funS rfl (eqByteS_c ha) ?_)) | (refine callPreL ?_; (first | refine callL_funS rfl (toByteS_c ha) ?_ | refine callL_funS rfl (eqByteS_c ha) ?_))))
    refine aw_condS rfl (fun hc => ?_) (fun hc => ?_)
    · (first | exact absurd trivial hc | exact absurd rfl hc | (cases hc; done) | omega | exact absurd hc (by decide) | (simp at hc; done))
    (repeat (first | refine walkS ?_ | (refine callPre ?_; (first | refine callN_funS rfl (toByteS_c hb) ?_ | refine callN_funS rfl (eqByteS_c hb) ?_)) | (refine callPreL ?_; (first | refine callL_funS rfl (toByteS_c hb) ?_ | refine callL_funS rfl (eqByteS_c hb) ?_))))
    refine aw_condS rfl (fun hc => ?_) (fun hc => ?_)
    · (first | exact absurd trivial hc | exact absurd rfl hc | (cases hc; done) | omega | exact absurd hc (by decide) | (simp at hc; done))
    · refine walkS ?_
      (refine aw_ret ?_; (simp only [Fin, Tryz.results5]; refine finS ?_); exact ⟨_, _, .inl ⟨rfl, rfl⟩, List.nodup_nil, rfl⟩)
end Go.Proofs.YtoegmaebdihnaaaGreatDoor.Eng
