/-
  The reference: reading a value, a file.
-/
import Derived.Test.YtoegmaebdihnaaaDoorKN8
set_option linter.unusedSimpArgs false
set_option linter.unusedVariables false
namespace Go.Proofs.YtoegmaebdihnaaaDoor.Eng
open Go Go.RowKit

noncomputable def readV (D : List RuleD) (b : List UInt8) (i p : Int) : V × Nat × Nat := if vKnown D i = true ∧ (0 ≤ p ∧ p ≤ b.length) ∧ b.length ≤ 400 then rd D b D.length i.toNat p.toNat else (V0, 0, 8)
noncomputable def readF (D : List RuleD) (b : List UInt8) : V × Nat × Nat := if (readV D b ((D.length : Int) - 1) 0).2.2 = 0 ∧ (readV D b ((D.length : Int) - 1) 0).2.1 < b.length then (V0, (readV D b ((D.length : Int) - 1) 0).2.1, 7) else readV D b ((D.length : Int) - 1) 0
theorem vKnown_spec {D : List RuleD} {i : Int} (h : vKnown D i = true) : descP D ∧ 0 ≤ i ∧ i < D.length := by
  unfold vKnown at h
  simp only [Bool.and_eq_true, decide_eq_true_eq] at h
  exact ⟨descP_of h.1, h.2⟩
abbrev chR (x : V × Nat × Nat) : Rz := .d (.tup [iD x.2.1, iD x.2.2])

section
variable {M : Nat} {D : List RuleD} {b : List UInt8}
private theorem tyF : ((((((bytesT Tryd.prog 25 = true ∧ tyElem Tryd.prog 25 = some 5) ∧ (tyElem Tryd.prog 28 = some 55 ∧ tyElem Tryd.prog 46 = some 9)) ∧ ((tyElem Tryd.prog 47 = some 3 ∧ tyElem Tryd.prog 50 = some 52) ∧ (tyField Tryd.prog 30 0 = some (0, 28) ∧ tyField Tryd.prog 52 0 = some (0, 3)))) ∧ (((tyField Tryd.prog 52 1 = some (1, 25) ∧ tyField Tryd.prog 52 2 = some (2, 50)) ∧ (tyField Tryd.prog 55 0 = some (0, 9) ∧ tyField Tryd.prog 55 1 = some (1, 3))) ∧ ((tyField Tryd.prog 55 2 = some (2, 3) ∧ tyField Tryd.prog 55 3 = some (3, 4)) ∧ (tyField Tryd.prog 55 4 = some (4, 25) ∧ tyField Tryd.prog 55 5 = some (5, 46))))) ∧ ((((tyField Tryd.prog 55 6 = some (6, 47) ∧ tyField Tryd.prog 55 7 = some (7, 47)) ∧ (tyK Tryd.prog 25 = some (false, 1) ∧ tyK Tryd.prog 28 = some (false, 1))) ∧ ((tyK Tryd.prog 3 = some (false, 1) ∧ tyK Tryd.prog 30 = some (true, 1)) ∧ (tyK Tryd.prog 4 = some (false, 1) ∧ tyK Tryd.prog 46 = some (false, 1)))) ∧ (((tyK Tryd.prog 47 = some (false, 1) ∧ tyK Tryd.prog 5 = some (false, 1)) ∧ (tyK Tryd.prog 50 = some (false, 1) ∧ tyK Tryd.prog 52 = some (true, 3))) ∧ ((tyK Tryd.prog 55 = some (true, 8) ∧ tyK Tryd.prog 9 = some (false, 1)) ∧ (tyPlaces Tryd.prog 30 = some [(0, 1)] ∧ (tyPlaces Tryd.prog 52 = some [(0, 1), (1, 1), (2, 1)] ∧ tyPlaces Tryd.prog 55 = some [(0, 1), (1, 1), (2, 1), (3, 1), (4, 1), (5, 1), (6, 1), (7, 1)])))))) ∧ (((((tyRow Tryd.prog 25 = some 1 ∧ tyRow Tryd.prog 28 = some 1) ∧ (tyRow Tryd.prog 3 = some 1 ∧ tyRow Tryd.prog 30 = some 1)) ∧ ((tyRow Tryd.prog 4 = some 1 ∧ tyRow Tryd.prog 46 = some 1) ∧ (tyRow Tryd.prog 47 = some 1 ∧ tyRow Tryd.prog 5 = some 1))) ∧ (((tyRow Tryd.prog 50 = some 1 ∧ tyRow Tryd.prog 52 = some 3) ∧ (tyRow Tryd.prog 55 = some 8 ∧ tyRow Tryd.prog 9 = some 1)) ∧ ((Tryd.prog.underlying 25 = some (TypeDesc.slice 5) ∧ Tryd.prog.underlying 28 = some (TypeDesc.slice 55)) ∧ (Tryd.prog.underlying 3 = some (TypeDesc.int IntKind.i64) ∧ Tryd.prog.underlying 4 = some (TypeDesc.bool))))) ∧ ((((Tryd.prog.underlying 46 = some (TypeDesc.slice 9) ∧ Tryd.prog.underlying 47 = some (TypeDesc.slice 3)) ∧ (Tryd.prog.underlying 5 = some (TypeDesc.int IntKind.u8) ∧ Tryd.prog.underlying 50 = some (TypeDesc.slice 52))) ∧ ((Tryd.prog.underlying 9 = some (TypeDesc.string) ∧ tyZero Tryd.prog 25 = some [Value.slice none 0 0]) ∧ (tyZero Tryd.prog 28 = some [Value.slice none 0 0] ∧ tyZero Tryd.prog 3 = some [Value.int IntKind.i64 0]))) ∧ (((tyZero Tryd.prog 30 = some [Value.slice none 0 0] ∧ tyZero Tryd.prog 4 = some [Value.bool false]) ∧ (tyZero Tryd.prog 46 = some [Value.slice none 0 0] ∧ tyZero Tryd.prog 47 = some [Value.slice none 0 0])) ∧ ((tyZero Tryd.prog 5 = some [Value.int IntKind.u8 0] ∧ tyZero Tryd.prog 50 = some [Value.slice none 0 0]) ∧ (tyZero Tryd.prog 52 = some [Value.int IntKind.i64 0, Value.slice none 0 0, Value.slice none 0 0] ∧ (tyZero Tryd.prog 55 = some [Value.string ByteArray.empty, Value.int IntKind.i64 0, Value.int IntKind.i64 0, Value.bool false, Value.slice none 0 0, Value.slice none 0 0, Value.slice none 0 0, Value.slice none 0 0] ∧ tyZero Tryd.prog 9 = some [Value.string ByteArray.empty]))))))) := ⟨⟨⟨⟨⟨⟨tb25, te25⟩, ⟨te28, te46⟩⟩, ⟨⟨te47, te50⟩, ⟨tf30_0, tf52_0⟩⟩⟩, ⟨⟨⟨tf52_1, tf52_2⟩, ⟨tf55_0, tf55_1⟩⟩, ⟨⟨tf55_2, tf55_3⟩, ⟨tf55_4, tf55_5⟩⟩⟩⟩, ⟨⟨⟨⟨tf55_6, tf55_7⟩, ⟨tk25, tk28⟩⟩, ⟨⟨tk3, tk30⟩, ⟨tk4, tk46⟩⟩⟩, ⟨⟨⟨tk47, tk5⟩, ⟨tk50, tk52⟩⟩, ⟨⟨tk55, tk9⟩, ⟨tp30, ⟨tp52, tp55⟩⟩⟩⟩⟩⟩, ⟨⟨⟨⟨⟨tr25, tr28⟩, ⟨tr3, tr30⟩⟩, ⟨⟨tr4, tr46⟩, ⟨tr47, tr5⟩⟩⟩, ⟨⟨⟨tr50, tr52⟩, ⟨tr55, tr9⟩⟩, ⟨⟨tu25, tu28⟩, ⟨tu3, tu4⟩⟩⟩⟩, ⟨⟨⟨⟨tu46, tu47⟩, ⟨tu5, tu50⟩⟩, ⟨⟨tu9, tz25⟩, ⟨tz28, tz3⟩⟩⟩, ⟨⟨⟨tz30, tz4⟩, ⟨tz46, tz47⟩⟩, ⟨⟨tz5, tz50⟩, ⟨tz52, ⟨tz55, tz9⟩⟩⟩⟩⟩⟩⟩
set_option maxRecDepth 100000 in
set_option maxHeartbeats 1000000 in
theorem readValue_c (hD : DB M D) (hM : M ≤ 1048576) (hb : b.length ≤ 1048576) (i p : Int) : AC Tryd.prog 27 [.d (encD D), .d (iD i), .d (encB b), .d (iD p)] none (fun r' _ => r' = rdR (readV D b i p)) := by
  have no : ¬ (vKnown D i = true ∧ (0 ≤ p ∧ p ≤ b.length) ∧ b.length ≤ 400) → readV D b i p = (V0, 0, 8) := fun h => if_neg h
  by_cases hv : vKnown D i = true
  · by_cases hp : 0 ≤ p ∧ p ≤ (b.length : Int)
    · refine calls_body Tryd.func27 rfl Tryd.call27 Tryd.ntmps27 (by simp) (by simp [ArgsOk]) (by simp [Rz.nkL, Rz.nk]) fun en hsz hks hk0 => ?_; simp only [St.init, frOf, Rz.addSL, Rz.addS, Rz.toAL, Rz.toA, Rz.nk, List.zipIdx_cons, List.zipIdx_nil, List.map_cons, List.map_nil, Nat.zero_add, Nat.reduceAdd]
      (repeat (first | refine walkS ?_ | (refine callPre ?_; (first | refine callN_funS rfl ((l7Rule_c hD hM i).eqv (r1 := .d (bD true)) (by rw [hv])) ?_ | refine callN_funS rfl (l1In_t hp) ?_)) | (refine callPreL ?_; (first | refine callL_funS rfl ((l7Rule_c hD hM i).eqv (r1 := .d (bD true)) (by rw [hv])) ?_ | refine callL_funS rfl (l1In_t hp) ?_))))
      refine aw_condS rfl (fun hc => ?_) (fun hc => ?_)
      · refine walkS ?_
        (refine aw_ret ?_; (simp only [Fin, Tryd.results27]; refine finS ?_); refine ⟨_, [], .inr (.inl ⟨.tup [encV V0, iD 0, iD 8], rfl, rfl, ?_⟩), List.nodup_nil, by rw [no (by omega)]; rfl⟩; exact wkDS)
      · have hyes : readV D b i p = rd D b D.length i.toNat p.toNat := if_pos ⟨hv, hp, by omega⟩
        obtain ⟨v1, v2, v3⟩ := vKnown_spec hv
        have HR := l11Read_all hD hM hb v1 D.length i.toNat p.toNat (by omega) (by omega) (by omega)
        rw [Int.toNat_of_nonneg v2, Int.toNat_of_nonneg hp.1, ← hyes] at HR
        (repeat (first | refine walkS ?_ | (refine callPre ?_; (first | refine callN_funS rfl (HR) ?_)) | (refine callPreL ?_; (first | refine callL_funS rfl (HR) ?_))))
        (refine aw_ret ?_; (simp only [Fin, Tryd.results27]; refine finS ?_); exact ⟨_, _, .inl ⟨rfl, rfl⟩, List.nodup_nil, rfl⟩)
    · refine calls_body Tryd.func27 rfl Tryd.call27 Tryd.ntmps27 (by simp) (by simp [ArgsOk]) (by simp [Rz.nkL, Rz.nk]) fun en hsz hks hk0 => ?_; simp only [St.init, frOf, Rz.addSL, Rz.addS, Rz.toAL, Rz.toA, Rz.nk, List.zipIdx_cons, List.zipIdx_nil, List.map_cons, List.map_nil, Nat.zero_add, Nat.reduceAdd]
      (repeat (first | refine walkS ?_ | (refine callPre ?_; (first | refine callN_funS rfl ((l7Rule_c hD hM i).eqv (r1 := .d (bD true)) (by rw [hv])) ?_ | refine callN_funS rfl (l1In_f hp) ?_)) | (refine callPreL ?_; (first | refine callL_funS rfl ((l7Rule_c hD hM i).eqv (r1 := .d (bD true)) (by rw [hv])) ?_ | refine callL_funS rfl (l1In_f hp) ?_))))
      refine aw_condS rfl (fun hc => ?_) (fun hc => ?_)
      · refine walkS ?_
        (refine aw_ret ?_; (simp only [Fin, Tryd.results27]; refine finS ?_); refine ⟨_, [], .inr (.inl ⟨.tup [encV V0, iD 0, iD 8], rfl, rfl, ?_⟩), List.nodup_nil, by rw [no (fun h => hp h.2.1)]; rfl⟩; exact wkDS)
      · cases hc
  · have hv' : vKnown D i = false := by simpa using hv
    refine calls_body Tryd.func27 rfl Tryd.call27 Tryd.ntmps27 (by simp) (by simp [ArgsOk]) (by simp [Rz.nkL, Rz.nk]) fun en hsz hks hk0 => ?_; simp only [St.init, frOf, Rz.addSL, Rz.addS, Rz.toAL, Rz.toA, Rz.nk, List.zipIdx_cons, List.zipIdx_nil, List.map_cons, List.map_nil, Nat.zero_add, Nat.reduceAdd]
    (repeat (first | refine walkS ?_ | (refine callPre ?_; (first | refine callN_funS rfl ((l7Rule_c hD hM i).eqv (r1 := .d (bD false)) (by rw [hv'])) ?_)) | (refine callPreL ?_; (first | refine callL_funS rfl ((l7Rule_c hD hM i).eqv (r1 := .d (bD false)) (by rw [hv'])) ?_))))
    refine aw_condS rfl (fun hc => ?_) (fun hc => ?_)
    · refine walkS ?_
      (refine aw_ret ?_; (simp only [Fin, Tryd.results27]; refine finS ?_); refine ⟨_, [], .inr (.inl ⟨.tup [encV V0, iD 0, iD 8], rfl, rfl, ?_⟩), List.nodup_nil, by rw [no (fun h => hv h.1)]; rfl⟩; exact wkDS)
    · cases hc

set_option maxRecDepth 100000 in
theorem rootS_c (hD : DB M D) (hM : M ≤ 1048576) : AC Tryd.prog 28 [.d (encD D)] none (fun r' _ => r' = .d (iD ((D.length : Int) - 1))) := by
  have hl := hD.len
  refine calls_body Tryd.func28 rfl Tryd.call28 Tryd.ntmps28 (by simp) (by simp [ArgsOk]) (by simp [Rz.nkL, Rz.nk]) fun en hsz hks hk0 => ?_; simp only [St.init, frOf, Rz.addSL, Rz.addS, Rz.toAL, Rz.toA, Rz.nk, List.zipIdx_cons, List.zipIdx_nil, List.map_cons, List.map_nil, Nat.zero_add, Nat.reduceAdd]
  refine walkS ?_
  (refine aw_ret ?_; (simp only [Fin, Tryd.results28]; refine finS ?_); exact ⟨_, _, .inl ⟨rfl, rfl⟩, List.nodup_nil, rfl⟩)

set_option maxRecDepth 100000 in
set_option maxHeartbeats 1000000 in
theorem readFile_c (hD : DB M D) (hM : M ≤ 1048576) (hb : b.length ≤ 1048576) : AC Tryd.prog 18 [.d (encD D), .d (encB b)] none (fun r' _ => r' = rdR (readF D b)) := by
  have HV := readValue_c hD hM hb ((D.length : Int) - 1) 0
  have hf : readF D b = if (readV D b ((D.length : Int) - 1) 0).2.2 = 0 ∧ (readV D b ((D.length : Int) - 1) 0).2.1 < b.length then (V0, (readV D b ((D.length : Int) - 1) 0).2.1, 7) else readV D b ((D.length : Int) - 1) 0 := rfl
  generalize readV D b ((D.length : Int) - 1) 0 = x at HV hf
  obtain ⟨v, q, c⟩ := x
  simp only at hf
  refine calls_body Tryd.func18 rfl Tryd.call18 Tryd.ntmps18 (by simp) (by simp [ArgsOk]) (by simp [Rz.nkL, Rz.nk]) fun en hsz hks hk0 => ?_; simp only [St.init, frOf, Rz.addSL, Rz.addS, Rz.toAL, Rz.toA, Rz.nk, List.zipIdx_cons, List.zipIdx_nil, List.map_cons, List.map_nil, Nat.zero_add, Nat.reduceAdd]
  (repeat (first | refine walkS ?_ | (refine callPre ?_; (first | refine callN_funS rfl (rootS_c hD hM) ?_ | refine callN_funS rfl (HV) ?_)) | (refine callPreL ?_; (first | refine callL_funS rfl (rootS_c hD hM) ?_ | refine callL_funS rfl (HV) ?_))))
  (refine ow_gd rfl rfl (fun x hx => by cases hx <;> (rw [hsz]; decide)) (fun hg K1 hK1 => ?_) (fun hg => ?_); ((try simp only [hg]); refine evS ?_;  refine hK1 _ ?_; clear hK1 K1); rotate_left; (simp only [Bool.not_true, Bool.not_false] at hg; simp only [St.set, hg]); rotate_left)
  · have hg' : (c : Int) = 0 := by simpa using hg
    refine walkS ?_
    refine aw_condS rfl (fun hc => ?_) (fun hc => ?_)
    · refine walkS ?_
      (refine aw_ret ?_; (simp only [Fin, Tryd.results18]; refine finS ?_); refine ⟨_, [], .inr (.inl ⟨.tup [encV V0, iD (q : Int), iD 7], rfl, rfl, ?_⟩), List.nodup_nil, by rw [hf, if_pos (by constructor <;> omega)]; rfl⟩; exact wkDS)
    · refine walkS ?_
      (refine aw_ret ?_; (simp only [Fin, Tryd.results18]; refine finS ?_); refine ⟨_, [], .inr (.inl ⟨.tup [encV v, iD (q : Int), iD (c : Int)], rfl, rfl, ?_⟩), List.nodup_nil, by rw [hf, if_neg (by omega)]⟩; exact wkDS)
  · have hg' : (c : Int) ≠ 0 := by simpa using hg
    refine walkS ?_
    refine aw_condS rfl (fun hc => ?_) (fun hc => ?_)
    · cases hc
    · refine walkS ?_
      (refine aw_ret ?_; (simp only [Fin, Tryd.results18]; refine finS ?_); refine ⟨_, [], .inr (.inl ⟨.tup [encV v, iD (q : Int), iD (c : Int)], rfl, rfl, ?_⟩), List.nodup_nil, by rw [hf, if_neg (by omega)]⟩; exact wkDS)
end
end Go.Proofs.YtoegmaebdihnaaaDoor.Eng
