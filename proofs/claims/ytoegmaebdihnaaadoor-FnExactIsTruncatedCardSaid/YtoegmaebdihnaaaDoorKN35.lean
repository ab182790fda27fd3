/-
  Truncated files: both sides.
-/
import Derived.Test.YtoegmaebdihnaaaDoorKN18
import Derived.Test.YtoegmaebdihnaaaDoorKN22
import Derived.Test.YtoegmaebdihnaaaDoorKE29
set_option linter.unusedSimpArgs false
set_option linter.unusedVariables false
namespace Go.Proofs.YtoegmaebdihnaaaDoor.Eng
open Go Go.RowKit

section
variable {M : Nat} {D : List RuleD} {b : List UInt8}
abbrev nilE' : Eng.D := .v .nilIface
noncomputable def truncP (D : List RuleD) (b : List UInt8) : Bool := (((readF D b).2.2 : Int) == 1)
private theorem tyF : ((((((bytesT Tryd.prog 25 = true ∧ tyElem Tryd.prog 25 = some 5) ∧ (tyElem Tryd.prog 28 = some 55 ∧ tyElem Tryd.prog 46 = some 9)) ∧ ((tyElem Tryd.prog 47 = some 3 ∧ tyField Tryd.prog 30 0 = some (0, 28)) ∧ (tyField Tryd.prog 55 0 = some (0, 9) ∧ tyField Tryd.prog 55 1 = some (1, 3)))) ∧ (((tyField Tryd.prog 55 2 = some (2, 3) ∧ tyField Tryd.prog 55 3 = some (3, 4)) ∧ (tyField Tryd.prog 55 4 = some (4, 25) ∧ tyField Tryd.prog 55 5 = some (5, 46))) ∧ ((tyField Tryd.prog 55 6 = some (6, 47) ∧ tyField Tryd.prog 55 7 = some (7, 47)) ∧ (tyField Tryd.prog 64 0 = some (0, 3) ∧ (tyK Tryd.prog 25 = some (false, 1) ∧ tyK Tryd.prog 28 = some (false, 1)))))) ∧ ((((tyK Tryd.prog 3 = some (false, 1) ∧ tyK Tryd.prog 30 = some (true, 1)) ∧ (tyK Tryd.prog 4 = some (false, 1) ∧ tyK Tryd.prog 42 = some (false, 1))) ∧ ((tyK Tryd.prog 46 = some (false, 1) ∧ tyK Tryd.prog 47 = some (false, 1)) ∧ (tyK Tryd.prog 5 = some (false, 1) ∧ tyK Tryd.prog 55 = some (true, 8)))) ∧ (((tyK Tryd.prog 62 = some (false, 1) ∧ tyK Tryd.prog 64 = some (true, 1)) ∧ (tyK Tryd.prog 9 = some (false, 1) ∧ tyPlaces Tryd.prog 30 = some [(0, 1)])) ∧ ((tyPlaces Tryd.prog 55 = some [(0, 1), (1, 1), (2, 1), (3, 1), (4, 1), (5, 1), (6, 1), (7, 1)] ∧ tyPlaces Tryd.prog 64 = some [(0, 1)]) ∧ (tyFlat Tryd.prog 64 = some [0] ∧ (tyRow Tryd.prog 25 = some 1 ∧ tyRow Tryd.prog 28 = some 1)))))) ∧ (((((tyRow Tryd.prog 3 = some 1 ∧ tyRow Tryd.prog 30 = some 1) ∧ (tyRow Tryd.prog 4 = some 1 ∧ tyRow Tryd.prog 42 = some 1)) ∧ ((tyRow Tryd.prog 46 = some 1 ∧ tyRow Tryd.prog 47 = some 1) ∧ (tyRow Tryd.prog 5 = some 1 ∧ tyRow Tryd.prog 55 = some 8))) ∧ (((tyRow Tryd.prog 62 = some 1 ∧ tyRow Tryd.prog 64 = some 1) ∧ (tyRow Tryd.prog 9 = some 1 ∧ Tryd.prog.underlying 25 = some (TypeDesc.slice 5))) ∧ ((Tryd.prog.underlying 28 = some (TypeDesc.slice 55) ∧ Tryd.prog.underlying 3 = some (TypeDesc.int IntKind.i64)) ∧ (Tryd.prog.underlying 4 = some (TypeDesc.bool) ∧ (Tryd.prog.underlying 42 = some (TypeDesc.interface #[("Error", 120)]) ∧ Tryd.prog.underlying 46 = some (TypeDesc.slice 9)))))) ∧ ((((Tryd.prog.underlying 47 = some (TypeDesc.slice 3) ∧ Tryd.prog.underlying 5 = some (TypeDesc.int IntKind.u8)) ∧ (Tryd.prog.underlying 62 = some (TypeDesc.pointer 64) ∧ Tryd.prog.underlying 9 = some (TypeDesc.string))) ∧ ((tyZero Tryd.prog 25 = some [Value.slice none 0 0] ∧ tyZero Tryd.prog 28 = some [Value.slice none 0 0]) ∧ (tyZero Tryd.prog 3 = some [Value.int IntKind.i64 0] ∧ tyZero Tryd.prog 30 = some [Value.slice none 0 0]))) ∧ (((tyZero Tryd.prog 4 = some [Value.bool false] ∧ tyZero Tryd.prog 42 = some [Value.nilIface]) ∧ (tyZero Tryd.prog 46 = some [Value.slice none 0 0] ∧ tyZero Tryd.prog 47 = some [Value.slice none 0 0])) ∧ ((tyZero Tryd.prog 5 = some [Value.int IntKind.u8 0] ∧ tyZero Tryd.prog 55 = some [Value.string ByteArray.empty, Value.int IntKind.i64 0, Value.int IntKind.i64 0, Value.bool false, Value.slice none 0 0, Value.slice none 0 0, Value.slice none 0 0, Value.slice none 0 0]) ∧ (tyZero Tryd.prog 62 = some [Value.pointer none] ∧ (tyZero Tryd.prog 64 = some [Value.int IntKind.i64 0] ∧ tyZero Tryd.prog 9 = some [Value.string ByteArray.empty]))))))) := ⟨⟨⟨⟨⟨⟨tb25, te25⟩, ⟨te28, te46⟩⟩, ⟨⟨te47, tf30_0⟩, ⟨tf55_0, tf55_1⟩⟩⟩, ⟨⟨⟨tf55_2, tf55_3⟩, ⟨tf55_4, tf55_5⟩⟩, ⟨⟨tf55_6, tf55_7⟩, ⟨tf64_0, ⟨tk25, tk28⟩⟩⟩⟩⟩, ⟨⟨⟨⟨tk3, tk30⟩, ⟨tk4, tk42⟩⟩, ⟨⟨tk46, tk47⟩, ⟨tk5, tk55⟩⟩⟩, ⟨⟨⟨tk62, tk64⟩, ⟨tk9, tp30⟩⟩, ⟨⟨tp55, tp64⟩, ⟨tq64, ⟨tr25, tr28⟩⟩⟩⟩⟩⟩, ⟨⟨⟨⟨⟨tr3, tr30⟩, ⟨tr4, tr42⟩⟩, ⟨⟨tr46, tr47⟩, ⟨tr5, tr55⟩⟩⟩, ⟨⟨⟨tr62, tr64⟩, ⟨tr9, tu25⟩⟩, ⟨⟨tu28, tu3⟩, ⟨tu4, ⟨tu42, tu46⟩⟩⟩⟩⟩, ⟨⟨⟨⟨tu47, tu5⟩, ⟨tu62, tu9⟩⟩, ⟨⟨tz25, tz28⟩, ⟨tz3, tz30⟩⟩⟩, ⟨⟨⟨tz4, tz42⟩, ⟨tz46, tz47⟩⟩, ⟨⟨tz5, tz55⟩, ⟨tz62, ⟨tz64, tz9⟩⟩⟩⟩⟩⟩⟩
set_option maxRecDepth 100000 in
theorem fileError_c (hD : DB M D) (hM : M ≤ 1048576) (hb : b.length ≤ 1048576) : AC Tryd.prog 15 [.d (encD D), .d (encB b)] none (fun r' _ => r' = if truncP D b = true then .d (.ifc 62 (.rp [iD (readF D b).2.1])) else .d nilE') := by
  have HV := checkFileI_c hD hM hb
  have hf : truncP D b = (((readF D b).2.2 : Int) == 1) := rfl
  generalize readF D b = x at HV hf
  obtain ⟨v, q, c⟩ := x
  refine calls_body Tryd.func15 rfl Tryd.call15 Tryd.ntmps15 (by simp) (by simp [ArgsOk]) (by simp [Rz.nkL, Rz.nk]) fun en hsz hks hk0 => ?_; simp only [St.init, frOf, Rz.addSL, Rz.addS, Rz.toAL, Rz.toA, Rz.nk, List.zipIdx_cons, List.zipIdx_nil, List.map_cons, List.map_nil, Nat.zero_add, Nat.reduceAdd]
  (repeat (first | refine walkS ?_ | (refine callPre ?_; (first | refine callN_funS rfl (HV) ?_)) | (refine callPreL ?_; (first | refine callL_funS rfl (HV) ?_))))
  refine aw_condS rfl (fun h => ?_) (fun h => ?_)
  · refine walkS ?_
    refine aw_freezeI 4 48 _ [iD q] rfl rfl hks (by decide) ?_
    (refine aw_ret ?_; (simp only [Fin, Tryd.results15]; refine finS ?_); exact ⟨_, _, .inl ⟨rfl, rfl⟩, List.nodup_nil, by rw [hf, if_pos (beq_iff_eq.2 h)]⟩)
  · refine walkS ?_
    (refine aw_ret ?_; (simp only [Fin, Tryd.results15]; refine finS ?_); exact ⟨_, _, .inl ⟨rfl, rfl⟩, List.nodup_nil, by rw [hf, if_neg (fun h' => h (beq_iff_eq.1 h'))]⟩)
set_option maxRecDepth 100000 in
theorem isTruncI_c (hD : DB M D) (hM : M ≤ 1048576) (hb : b.length ≤ 1048576) : AC Tryd.prog 8 [.d (encD D), .d (encB b)] none (fun r' _ => r' = .d (bD (truncP D b))) := by
  have HV := fileError_c hD hM hb
  by_cases h : truncP D b = true
  · rw [if_pos h] at HV
    rw [h]
    refine calls_body Tryd.func8 rfl Tryd.call8 Tryd.ntmps8 (by simp) (by simp [ArgsOk]) (by simp [Rz.nkL, Rz.nk]) fun en hsz hks hk0 => ?_; simp only [St.init, frOf, Rz.addSL, Rz.addS, Rz.toAL, Rz.toA, Rz.nk, List.zipIdx_cons, List.zipIdx_nil, List.map_cons, List.map_nil, Nat.zero_add, Nat.reduceAdd]
    (repeat (first | refine walkS ?_ | (refine callPre ?_; (first | refine callN_funS rfl (HV) ?_ | refine callN_funS rfl (is_trunc_c _) ?_)) | (refine callPreL ?_; (first | refine callL_funS rfl (HV) ?_ | refine callL_funS rfl (is_trunc_c _) ?_))))
    (refine aw_ret ?_; (simp only [Fin, Tryd.results8]; refine finS ?_); exact ⟨_, _, .inl ⟨rfl, rfl⟩, List.nodup_nil, rfl⟩)
  · rw [if_neg h] at HV
    rw [show truncP D b = false by simpa using h]
    refine calls_body Tryd.func8 rfl Tryd.call8 Tryd.ntmps8 (by simp) (by simp [ArgsOk]) (by simp [Rz.nkL, Rz.nk]) fun en hsz hks hk0 => ?_; simp only [St.init, frOf, Rz.addSL, Rz.addS, Rz.toAL, Rz.toA, Rz.nk, List.zipIdx_cons, List.zipIdx_nil, List.map_cons, List.map_nil, Nat.zero_add, Nat.reduceAdd]
    (repeat (first | refine walkS ?_ | (refine callPre ?_; (first | refine callN_funS rfl (HV) ?_ | refine callN_funS rfl (is_nil_c) ?_)) | (refine callPreL ?_; (first | refine callL_funS rfl (HV) ?_ | refine callL_funS rfl (is_nil_c) ?_))))
    (refine aw_ret ?_; (simp only [Fin, Tryd.results8]; refine finS ?_); exact ⟨_, _, .inl ⟨rfl, rfl⟩, List.nodup_nil, rfl⟩)
set_option maxRecDepth 100000 in
theorem isTruncS_c (hD : DB M D) (hM : M ≤ 1048576) (hb : b.length ≤ 1048576) : AC Tryd.prog 5 [.d (encD D), .d (encB b)] none (fun r' _ => r' = .d (bD (truncP D b))) := by
  have HV := checkFileS_c hD hM hb
  have hf : truncP D b = (((readF D b).2.2 : Int) == 1) := rfl
  generalize readF D b = x at HV hf
  obtain ⟨v, q, c⟩ := x
  refine calls_body Tryd.func5 rfl Tryd.call5 Tryd.ntmps5 (by simp) (by simp [ArgsOk]) (by simp [Rz.nkL, Rz.nk]) fun en hsz hks hk0 => ?_; simp only [St.init, frOf, Rz.addSL, Rz.addS, Rz.toAL, Rz.toA, Rz.nk, List.zipIdx_cons, List.zipIdx_nil, List.map_cons, List.map_nil, Nat.zero_add, Nat.reduceAdd]
  (repeat (first | refine walkS ?_ | (refine callPre ?_; (first | refine callN_funS rfl (HV) ?_)) | (refine callPreL ?_; (first | refine callL_funS rfl (HV) ?_))))
  (refine aw_ret ?_; (simp only [Fin, Tryd.results5]; refine finS ?_); exact ⟨_, _, .inl ⟨rfl, rfl⟩, List.nodup_nil, by rw [hf]⟩)
end
end Go.Proofs.YtoegmaebdihnaaaDoor.Eng
