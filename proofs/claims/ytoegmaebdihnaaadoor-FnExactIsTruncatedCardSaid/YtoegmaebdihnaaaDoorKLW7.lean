/-
  The law: IsTruncated.
-/
import Derived.Test.YtoegmaebdihnaaaDoorKL
import Derived.Test.YtoegmaebdihnaaaDoorKN35
set_option linter.unusedSimpArgs false
set_option linter.unusedVariables false
namespace Go.Proofs.YtoegmaebdihnaaaDoor.Eng
open Go Go.RowKit

private theorem tyF : ((((((bytesT Tryd.prog 25 = true ∧ tyElem Tryd.prog 22 = some 49) ∧ (tyElem Tryd.prog 25 = some 5 ∧ tyElem Tryd.prog 28 = some 55)) ∧ ((tyElem Tryd.prog 46 = some 9 ∧ tyElem Tryd.prog 47 = some 3) ∧ (tyField Tryd.prog 24 0 = some (0, 22) ∧ (tyField Tryd.prog 30 0 = some (0, 28) ∧ tyField Tryd.prog 49 0 = some (0, 9))))) ∧ (((tyField Tryd.prog 49 1 = some (1, 3) ∧ tyField Tryd.prog 49 2 = some (2, 3)) ∧ (tyField Tryd.prog 49 3 = some (3, 4) ∧ (tyField Tryd.prog 49 4 = some (4, 25) ∧ tyField Tryd.prog 49 5 = some (5, 46)))) ∧ ((tyField Tryd.prog 49 6 = some (6, 47) ∧ tyField Tryd.prog 49 7 = some (7, 47)) ∧ (tyField Tryd.prog 55 0 = some (0, 9) ∧ (tyField Tryd.prog 55 1 = some (1, 3) ∧ tyField Tryd.prog 55 2 = some (2, 3)))))) ∧ ((((tyField Tryd.prog 55 3 = some (3, 4) ∧ tyField Tryd.prog 55 4 = some (4, 25)) ∧ (tyField Tryd.prog 55 5 = some (5, 46) ∧ tyField Tryd.prog 55 6 = some (6, 47))) ∧ ((tyField Tryd.prog 55 7 = some (7, 47) ∧ tyK Tryd.prog 22 = some (false, 1)) ∧ (tyK Tryd.prog 24 = some (true, 1) ∧ (tyK Tryd.prog 25 = some (false, 1) ∧ tyK Tryd.prog 28 = some (false, 1))))) ∧ (((tyK Tryd.prog 3 = some (false, 1) ∧ tyK Tryd.prog 30 = some (true, 1)) ∧ (tyK Tryd.prog 4 = some (false, 1) ∧ (tyK Tryd.prog 46 = some (false, 1) ∧ tyK Tryd.prog 47 = some (false, 1)))) ∧ ((tyK Tryd.prog 49 = some (true, 8) ∧ tyK Tryd.prog 5 = some (false, 1)) ∧ (tyK Tryd.prog 55 = some (true, 8) ∧ (tyK Tryd.prog 9 = some (false, 1) ∧ tyPlaces Tryd.prog 24 = some [(0, 1)])))))) ∧ (((((tyPlaces Tryd.prog 30 = some [(0, 1)] ∧ tyPlaces Tryd.prog 49 = some [(0, 1), (1, 1), (2, 1), (3, 1), (4, 1), (5, 1), (6, 1), (7, 1)]) ∧ (tyPlaces Tryd.prog 55 = some [(0, 1), (1, 1), (2, 1), (3, 1), (4, 1), (5, 1), (6, 1), (7, 1)] ∧ tyRow Tryd.prog 22 = some 1)) ∧ ((tyRow Tryd.prog 24 = some 1 ∧ tyRow Tryd.prog 25 = some 1) ∧ (tyRow Tryd.prog 28 = some 1 ∧ (tyRow Tryd.prog 3 = some 1 ∧ tyRow Tryd.prog 30 = some 1)))) ∧ (((tyRow Tryd.prog 4 = some 1 ∧ tyRow Tryd.prog 46 = some 1) ∧ (tyRow Tryd.prog 47 = some 1 ∧ (tyRow Tryd.prog 49 = some 8 ∧ tyRow Tryd.prog 5 = some 1))) ∧ ((tyRow Tryd.prog 55 = some 8 ∧ tyRow Tryd.prog 9 = some 1) ∧ (Tryd.prog.underlying 22 = some (TypeDesc.slice 49) ∧ (Tryd.prog.underlying 25 = some (TypeDesc.slice 5) ∧ Tryd.prog.underlying 28 = some (TypeDesc.slice 55)))))) ∧ ((((Tryd.prog.underlying 3 = some (TypeDesc.int IntKind.i64) ∧ Tryd.prog.underlying 4 = some (TypeDesc.bool)) ∧ (Tryd.prog.underlying 46 = some (TypeDesc.slice 9) ∧ Tryd.prog.underlying 47 = some (TypeDesc.slice 3))) ∧ ((Tryd.prog.underlying 5 = some (TypeDesc.int IntKind.u8) ∧ Tryd.prog.underlying 9 = some (TypeDesc.string)) ∧ (tyZero Tryd.prog 22 = some [Value.slice none 0 0] ∧ (tyZero Tryd.prog 24 = some [Value.slice none 0 0] ∧ tyZero Tryd.prog 25 = some [Value.slice none 0 0])))) ∧ (((tyZero Tryd.prog 28 = some [Value.slice none 0 0] ∧ tyZero Tryd.prog 3 = some [Value.int IntKind.i64 0]) ∧ (tyZero Tryd.prog 30 = some [Value.slice none 0 0] ∧ (tyZero Tryd.prog 4 = some [Value.bool false] ∧ tyZero Tryd.prog 46 = some [Value.slice none 0 0]))) ∧ ((tyZero Tryd.prog 47 = some [Value.slice none 0 0] ∧ tyZero Tryd.prog 49 = some [Value.string ByteArray.empty, Value.int IntKind.i64 0, Value.int IntKind.i64 0, Value.bool false, Value.slice none 0 0, Value.slice none 0 0, Value.slice none 0 0, Value.slice none 0 0]) ∧ (tyZero Tryd.prog 5 = some [Value.int IntKind.u8 0] ∧ (tyZero Tryd.prog 55 = some [Value.string ByteArray.empty, Value.int IntKind.i64 0, Value.int IntKind.i64 0, Value.bool false, Value.slice none 0 0, Value.slice none 0 0, Value.slice none 0 0, Value.slice none 0 0] ∧ tyZero Tryd.prog 9 = some [Value.string ByteArray.empty]))))))) := ⟨⟨⟨⟨⟨⟨tb25, te22⟩, ⟨te25, te28⟩⟩, ⟨⟨te46, te47⟩, ⟨tf24_0, ⟨tf30_0, tf49_0⟩⟩⟩⟩, ⟨⟨⟨tf49_1, tf49_2⟩, ⟨tf49_3, ⟨tf49_4, tf49_5⟩⟩⟩, ⟨⟨tf49_6, tf49_7⟩, ⟨tf55_0, ⟨tf55_1, tf55_2⟩⟩⟩⟩⟩, ⟨⟨⟨⟨tf55_3, tf55_4⟩, ⟨tf55_5, tf55_6⟩⟩, ⟨⟨tf55_7, tk22⟩, ⟨tk24, ⟨tk25, tk28⟩⟩⟩⟩, ⟨⟨⟨tk3, tk30⟩, ⟨tk4, ⟨tk46, tk47⟩⟩⟩, ⟨⟨tk49, tk5⟩, ⟨tk55, ⟨tk9, tp24⟩⟩⟩⟩⟩⟩, ⟨⟨⟨⟨⟨tp30, tp49⟩, ⟨tp55, tr22⟩⟩, ⟨⟨tr24, tr25⟩, ⟨tr28, ⟨tr3, tr30⟩⟩⟩⟩, ⟨⟨⟨tr4, tr46⟩, ⟨tr47, ⟨tr49, tr5⟩⟩⟩, ⟨⟨tr55, tr9⟩, ⟨tu22, ⟨tu25, tu28⟩⟩⟩⟩⟩, ⟨⟨⟨⟨tu3, tu4⟩, ⟨tu46, tu47⟩⟩, ⟨⟨tu5, tu9⟩, ⟨tz22, ⟨tz24, tz25⟩⟩⟩⟩, ⟨⟨⟨tz28, tz3⟩, ⟨tz30, ⟨tz4, tz46⟩⟩⟩, ⟨⟨tz47, tz49⟩, ⟨tz5, ⟨tz55, tz9⟩⟩⟩⟩⟩⟩⟩
set_option maxRecDepth 100000 in
set_option maxHeartbeats 4000000 in
theorem lawIsTruncated_c {D : List RuleD} (hD : DB 9223372036854775807 D) {b : List UInt8} (hb0 : b.length ≤ 9223372036854775807) : AC Tryd.prog 3 [.d (encD D), .d (encB b)] none (fun r' _ => r' = .d (bD true)) := by
  refine calls_body Tryd.func3 rfl Tryd.call3 Tryd.ntmps3 (by simp) (by simp [ArgsOk]) (by simp [Rz.nkL, Rz.nk]) fun en hsz hks hk0 => ?_; simp only [St.init, frOf, Rz.addSL, Rz.addS, Rz.toAL, Rz.toA, Rz.nk, List.zipIdx_cons, List.zipIdx_nil, List.map_cons, List.map_nil, Nat.zero_add, Nat.reduceAdd]
  refine walkS ?_
  refine aw_condS rfl (fun h0 => ?_) (fun h0 => ?_)
  · refine walkS ?_
    (refine aw_ret ?_; (simp only [Fin, Tryd.results3]; refine finS ?_); exact ⟨_, _, .inl ⟨rfl, rfl⟩, List.nodup_nil, rfl⟩)
  have hb : b.length ≤ 1048576 := by omega
  (repeat (first | refine walkS ?_ | (refine callPre ?_; (first | refine callN_funS rfl (szDescription_c hD 1048576 (by omega)) ?_)) | (refine callPreL ?_; (first | refine callL_funS rfl (szDescription_c hD 1048576 (by omega)) ?_))))
  refine aw_condS rfl (fun h1 => ?_) (fun h1 => ?_)
  · refine walkS ?_
    (refine aw_ret ?_; (simp only [Fin, Tryd.results3]; refine finS ?_); exact ⟨_, _, .inl ⟨rfl, rfl⟩, List.nodup_nil, rfl⟩)
  have hDM : DB 1048576 D := lftDs_ge (x := 1048576) (by omega) (by omega) (by omega)
  have HS := isTruncS_c hDM (Nat.le_refl _) hb
  have HI := isTruncI_c hDM (Nat.le_refl _) hb
  cases hz : truncP D b
  all_goals
    rw [hz] at HS HI
    (repeat (first | refine walkS ?_ | (refine callPre ?_; (first | refine callN_funS rfl (toDescription_c hDM (Nat.le_refl _)) ?_ | refine callN_funS rfl (toByteS_c hb) ?_ | refine callN_funS rfl (HS) ?_ | refine callN_funS rfl (HI) ?_)) | (refine callPreL ?_; (first | refine callL_funS rfl (toDescription_c hDM (Nat.le_refl _)) ?_ | refine callL_funS rfl (toByteS_c hb) ?_ | refine callL_funS rfl (HS) ?_ | refine callL_funS rfl (HI) ?_))))
    refine aw_condS rfl (fun h2 => ?_) (fun h2 => ?_)
    · (first | exact absurd trivial h2 | exact absurd rfl h2 | (cases h2; done) | omega | exact absurd h2 (by decide) | (simp at h2; done))
    (repeat (first | refine walkS ?_ | (refine callPre ?_; (first | refine callN_funS rfl (toDescription_c hDM (Nat.le_refl _)) ?_ | refine callN_funS rfl (toByteS_c hb) ?_ | refine callN_funS rfl (eqDescription_c hDM (Nat.le_refl _)) ?_ | refine callN_funS rfl (eqByteS_c hb) ?_)) | (refine callPreL ?_; (first | refine callL_funS rfl (toDescription_c hDM (Nat.le_refl _)) ?_ | refine callL_funS rfl (toByteS_c hb) ?_ | refine callL_funS rfl (eqDescription_c hDM (Nat.le_refl _)) ?_ | refine callL_funS rfl (eqByteS_c hb) ?_))))
    refine aw_condS rfl (fun hc => ?_) (fun hc => ?_)
    · (first | exact absurd trivial hc | exact absurd rfl hc | (cases hc; done) | omega | exact absurd hc (by decide) | (simp at hc; done))
    (repeat (first | refine walkS ?_ | (refine callPre ?_; (first | refine callN_funS rfl (toDescription_c hDM (Nat.le_refl _)) ?_ | refine callN_funS rfl (toByteS_c hb) ?_ | refine callN_funS rfl (eqDescription_c hDM (Nat.le_refl _)) ?_ | refine callN_funS rfl (eqByteS_c hb) ?_)) | (refine callPreL ?_; (first | refine callL_funS rfl (toDescription_c hDM (Nat.le_refl _)) ?_ | refine callL_funS rfl (toByteS_c hb) ?_ | refine callL_funS rfl (eqDescription_c hDM (Nat.le_refl _)) ?_ | refine callL_funS rfl (eqByteS_c hb) ?_))))
    refine aw_condS rfl (fun hc => ?_) (fun hc => ?_)
    · (first | exact absurd trivial hc | exact absurd rfl hc | (cases hc; done) | omega | exact absurd hc (by decide) | (simp at hc; done))
    · refine walkS ?_
      (refine aw_ret ?_; (simp only [Fin, Tryd.results3]; refine finS ?_); exact ⟨_, _, .inl ⟨rfl, rfl⟩, List.nodup_nil, rfl⟩)
end Go.Proofs.YtoegmaebdihnaaaDoor.Eng
