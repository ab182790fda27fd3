/-
  The reference: reading a value, a file.
-/
import Derived.Test.YtmpokibohbhoeaaKN8
set_option linter.unusedSimpArgs false
set_option linter.unusedVariables false
namespace Go.Proofs.Ytmpokibohbhoeaa.Eng
open Go Go.RowKit

noncomputable def readV (D : List RuleD) (b : List UInt8) (i p : Int) : V × Nat × Nat := if vKnown D i = true ∧ (0 ≤ p ∧ p ≤ b.length) ∧ b.length ≤ 400 then rd D b D.length i.toNat p.toNat else (V0, 0, 8)
noncomputable def readF (D : List RuleD) (b : List UInt8) : V × Nat × Nat := if (readV D b ((D.length : Int) - 1) 0).2.2 = 0 ∧ (readV D b ((D.length : Int) - 1) 0).2.1 < b.length then (V0, (readV D b ((D.length : Int) - 1) 0).2.1, 7) else readV D b ((D.length : Int) - 1) 0
theorem vKnown_spec {D : List RuleD} {i : Int} (h : vKnown D i = true) : descP D ∧ 0 ≤ i ∧ i < D.length := by
  unfold vKnown at h
  simp only [Bool.and_eq_true, decide_eq_true_eq] at h
  exact ⟨descP_of h.1, h.2⟩
abbrev chR (x : V × Nat × Nat) : Rz := .d (.tup [iD x.2.1, iD x.2.2])

section
variable {M : Nat} {D : List RuleD} {b : List UInt8}
private theorem tyF : ((((((bytesT Try.prog 22 = true ∧ tyElem Try.prog 106 = some 9) ∧ (tyElem Try.prog 107 = some 3 ∧ tyElem Try.prog 22 = some 5)) ∧ ((tyElem Try.prog 24 = some 109 ∧ tyElem Try.prog 42 = some 44) ∧ (tyField Try.prog 109 0 = some (0, 9) ∧ tyField Try.prog 109 1 = some (1, 3)))) ∧ (((tyField Try.prog 109 2 = some (2, 3) ∧ tyField Try.prog 109 3 = some (3, 4)) ∧ (tyField Try.prog 109 4 = some (4, 22) ∧ tyField Try.prog 109 5 = some (5, 106))) ∧ ((tyField Try.prog 109 6 = some (6, 107) ∧ tyField Try.prog 109 7 = some (7, 107)) ∧ (tyField Try.prog 26 0 = some (0, 24) ∧ tyField Try.prog 44 0 = some (0, 3))))) ∧ ((((tyField Try.prog 44 1 = some (1, 22) ∧ tyField Try.prog 44 2 = some (2, 42)) ∧ (tyK Try.prog 106 = some (false, 1) ∧ tyK Try.prog 107 = some (false, 1))) ∧ ((tyK Try.prog 109 = some (true, 8) ∧ tyK Try.prog 22 = some (false, 1)) ∧ (tyK Try.prog 24 = some (false, 1) ∧ tyK Try.prog 26 = some (true, 1)))) ∧ (((tyK Try.prog 3 = some (false, 1) ∧ tyK Try.prog 4 = some (false, 1)) ∧ (tyK Try.prog 42 = some (false, 1) ∧ tyK Try.prog 44 = some (true, 3))) ∧ ((tyK Try.prog 5 = some (false, 1) ∧ tyK Try.prog 9 = some (false, 1)) ∧ (tyPlaces Try.prog 109 = some [(0, 1), (1, 1), (2, 1), (3, 1), (4, 1), (5, 1), (6, 1), (7, 1)] ∧ (tyPlaces Try.prog 26 = some [(0, 1)] ∧ tyPlaces Try.prog 44 = some [(0, 1), (1, 1), (2, 1)])))))) ∧ (((((tyRow Try.prog 106 = some 1 ∧ tyRow Try.prog 107 = some 1) ∧ (tyRow Try.prog 109 = some 8 ∧ tyRow Try.prog 22 = some 1)) ∧ ((tyRow Try.prog 24 = some 1 ∧ tyRow Try.prog 26 = some 1) ∧ (tyRow Try.prog 3 = some 1 ∧ tyRow Try.prog 4 = some 1))) ∧ (((tyRow Try.prog 42 = some 1 ∧ tyRow Try.prog 44 = some 3) ∧ (tyRow Try.prog 5 = some 1 ∧ tyRow Try.prog 9 = some 1)) ∧ ((Try.prog.underlying 106 = some (TypeDesc.slice 9) ∧ Try.prog.underlying 107 = some (TypeDesc.slice 3)) ∧ (Try.prog.underlying 22 = some (TypeDesc.slice 5) ∧ Try.prog.underlying 24 = some (TypeDesc.slice 109))))) ∧ ((((Try.prog.underlying 3 = some (TypeDesc.int IntKind.i64) ∧ Try.prog.underlying 4 = some (TypeDesc.bool)) ∧ (Try.prog.underlying 42 = some (TypeDesc.slice 44) ∧ Try.prog.underlying 5 = some (TypeDesc.int IntKind.u8))) ∧ ((Try.prog.underlying 9 = some (TypeDesc.string) ∧ tyZero Try.prog 106 = some [Value.slice none 0 0]) ∧ (tyZero Try.prog 107 = some [Value.slice none 0 0] ∧ tyZero Try.prog 109 = some [Value.string ByteArray.empty, Value.int IntKind.i64 0, Value.int IntKind.i64 0, Value.bool false, Value.slice none 0 0, Value.slice none 0 0, Value.slice none 0 0, Value.slice none 0 0]))) ∧ (((tyZero Try.prog 22 = some [Value.slice none 0 0] ∧ tyZero Try.prog 24 = some [Value.slice none 0 0]) ∧ (tyZero Try.prog 26 = some [Value.slice none 0 0] ∧ tyZero Try.prog 3 = some [Value.int IntKind.i64 0])) ∧ ((tyZero Try.prog 4 = some [Value.bool false] ∧ tyZero Try.prog 42 = some [Value.slice none 0 0]) ∧ (tyZero Try.prog 44 = some [Value.int IntKind.i64 0, Value.slice none 0 0, Value.slice none 0 0] ∧ (tyZero Try.prog 5 = some [Value.int IntKind.u8 0] ∧ tyZero Try.prog 9 = some [Value.string ByteArray.empty]))))))) := ⟨⟨⟨⟨⟨⟨tb22, te106⟩, ⟨te107, te22⟩⟩, ⟨⟨te24, te42⟩, ⟨tf109_0, tf109_1⟩⟩⟩, ⟨⟨⟨tf109_2, tf109_3⟩, ⟨tf109_4, tf109_5⟩⟩, ⟨⟨tf109_6, tf109_7⟩, ⟨tf26_0, tf44_0⟩⟩⟩⟩, ⟨⟨⟨⟨tf44_1, tf44_2⟩, ⟨tk106, tk107⟩⟩, ⟨⟨tk109, tk22⟩, ⟨tk24, tk26⟩⟩⟩, ⟨⟨⟨tk3, tk4⟩, ⟨tk42, tk44⟩⟩, ⟨⟨tk5, tk9⟩, ⟨tp109, ⟨tp26, tp44⟩⟩⟩⟩⟩⟩, ⟨⟨⟨⟨⟨tr106, tr107⟩, ⟨tr109, tr22⟩⟩, ⟨⟨tr24, tr26⟩, ⟨tr3, tr4⟩⟩⟩, ⟨⟨⟨tr42, tr44⟩, ⟨tr5, tr9⟩⟩, ⟨⟨tu106, tu107⟩, ⟨tu22, tu24⟩⟩⟩⟩, ⟨⟨⟨⟨tu3, tu4⟩, ⟨tu42, tu5⟩⟩, ⟨⟨tu9, tz106⟩, ⟨tz107, tz109⟩⟩⟩, ⟨⟨⟨tz22, tz24⟩, ⟨tz26, tz3⟩⟩, ⟨⟨tz4, tz42⟩, ⟨tz44, ⟨tz5, tz9⟩⟩⟩⟩⟩⟩⟩
set_option maxRecDepth 100000 in
set_option maxHeartbeats 1000000 in
theorem readValue_c (hD : DB M D) (hM : M ≤ 1048576) (hb : b.length ≤ 1048576) (i p : Int) : AC Try.prog 34 [.d (encD D), .d (iD i), .d (encB b), .d (iD p)] none (fun r' _ => r' = rdR (readV D b i p)) := by
  have no : ¬ (vKnown D i = true ∧ (0 ≤ p ∧ p ≤ b.length) ∧ b.length ≤ 400) → readV D b i p = (V0, 0, 8) := fun h => if_neg h
  by_cases hv : vKnown D i = true
  · by_cases hp : 0 ≤ p ∧ p ≤ (b.length : Int)
    · refine calls_body Try.func34 rfl Try.call34 Try.ntmps34 (by simp) (by simp [ArgsOk]) (by simp [Rz.nkL, Rz.nk]) fun en hsz hks hk0 => ?_; simp only [St.init, frOf, Rz.addSL, Rz.addS, Rz.toAL, Rz.toA, Rz.nk, List.zipIdx_cons, List.zipIdx_nil, List.map_cons, List.map_nil, Nat.zero_add, Nat.reduceAdd]
      (repeat (first | refine walkS ?_ | (refine callPre ?_; (first | refine callN_funS rfl ((l7Rule_c hD hM i).eqv (r1 := .d (bD true)) (by rw [hv])) ?_ | refine callN_funS rfl (l1In_t hp) ?_)) | (refine callPreL ?_; (first | refine callL_funS rfl ((l7Rule_c hD hM i).eqv (r1 := .d (bD true)) (by rw [hv])) ?_ | refine callL_funS rfl (l1In_t hp) ?_))))
      refine aw_condS rfl (fun hc => ?_) (fun hc => ?_)
      · refine walkS ?_
        (refine aw_ret ?_; (simp only [Fin, Try.results34]; refine finS ?_); refine ⟨_, [], .inr (.inl ⟨.tup [encV V0, iD 0, iD 8], rfl, rfl, ?_⟩), List.nodup_nil, by rw [no (by omega)]; rfl⟩; exact wkDS)
      · have hyes : readV D b i p = rd D b D.length i.toNat p.toNat := if_pos ⟨hv, hp, by omega⟩
        obtain ⟨v1, v2, v3⟩ := vKnown_spec hv
        have HR := l11Read_all hD hM hb v1 D.length i.toNat p.toNat (by omega) (by omega) (by omega)
        rw [Int.toNat_of_nonneg v2, Int.toNat_of_nonneg hp.1, ← hyes] at HR
        (repeat (first | refine walkS ?_ | (refine callPre ?_; (first | refine callN_funS rfl (HR) ?_)) | (refine callPreL ?_; (first | refine callL_funS rfl (HR) ?_))))
        (refine aw_ret ?_; (simp only [Fin, Try.results34]; refine finS ?_); exact ⟨_, _, .inl ⟨rfl, rfl⟩, List.nodup_nil, rfl⟩)
    · refine calls_body Try.func34 rfl Try.call34 Try.ntmps34 (by simp) (by simp [ArgsOk]) (by simp [Rz.nkL, Rz.nk]) fun en hsz hks hk0 => ?_; simp only [St.init, frOf, Rz.addSL, Rz.addS, Rz.toAL, Rz.toA, Rz.nk, List.zipIdx_cons, List.zipIdx_nil, List.map_cons, List.map_nil, Nat.zero_add, Nat.reduceAdd]
      (repeat (first | refine walkS ?_ | (refine callPre ?_; (first | refine callN_funS rfl ((l7Rule_c hD hM i).eqv (r1 := .d (bD true)) (by rw [hv])) ?_ | refine callN_funS rfl (l1In_f hp) ?_)) | (refine callPreL ?_; (first | refine callL_funS rfl ((l7Rule_c hD hM i).eqv (r1 := .d (bD true)) (by rw [hv])) ?_ | refine callL_funS rfl (l1In_f hp) ?_))))
      refine aw_condS rfl (fun hc => ?_) (fun hc => ?_)
      · refine walkS ?_
        (refine aw_ret ?_; (simp only [Fin, Try.results34]; refine finS ?_); refine ⟨_, [], .inr (.inl ⟨.tup [encV V0, iD 0, iD 8], rfl, rfl, ?_⟩), List.nodup_nil, by rw [no (fun h => hp h.2.1)]; rfl⟩; exact wkDS)
      · cases hc
  · have hv' : vKnown D i = false := by simpa using hv
    refine calls_body Try.func34 rfl Try.call34 Try.ntmps34 (by simp) (by simp [ArgsOk]) (by simp [Rz.nkL, Rz.nk]) fun en hsz hks hk0 => ?_; simp only [St.init, frOf, Rz.addSL, Rz.addS, Rz.toAL, Rz.toA, Rz.nk, List.zipIdx_cons, List.zipIdx_nil, List.map_cons, List.map_nil, Nat.zero_add, Nat.reduceAdd]
    (repeat (first | refine walkS ?_ | (refine callPre ?_; (first | refine callN_funS rfl ((l7Rule_c hD hM i).eqv (r1 := .d (bD false)) (by rw [hv'])) ?_)) | (refine callPreL ?_; (first | refine callL_funS rfl ((l7Rule_c hD hM i).eqv (r1 := .d (bD false)) (by rw [hv'])) ?_))))
    refine aw_condS rfl (fun hc => ?_) (fun hc => ?_)
    · refine walkS ?_
      (refine aw_ret ?_; (simp only [Fin, Try.results34]; refine finS ?_); refine ⟨_, [], .inr (.inl ⟨.tup [encV V0, iD 0, iD 8], rfl, rfl, ?_⟩), List.nodup_nil, by rw [no (fun h => hv h.1)]; rfl⟩; exact wkDS)
    · cases hc

set_option maxRecDepth 100000 in
theorem rootS_c (hD : DB M D) (hM : M ≤ 1048576) : AC Try.prog 76 [.d (encD D)] none (fun r' _ => r' = .d (iD ((D.length : Int) - 1))) := by
  have hl := hD.len
  refine calls_body Try.func76 rfl Try.call76 Try.ntmps76 (by simp) (by simp [ArgsOk]) (by simp [Rz.nkL, Rz.nk]) fun en hsz hks hk0 => ?_; simp only [St.init, frOf, Rz.addSL, Rz.addS, Rz.toAL, Rz.toA, Rz.nk, List.zipIdx_cons, List.zipIdx_nil, List.map_cons, List.map_nil, Nat.zero_add, Nat.reduceAdd]
  refine walkS ?_
  (refine aw_ret ?_; (simp only [Fin, Try.results76]; refine finS ?_); exact ⟨_, _, .inl ⟨rfl, rfl⟩, List.nodup_nil, rfl⟩)

set_option maxRecDepth 100000 in
set_option maxHeartbeats 1000000 in
theorem readFile_c (hD : DB M D) (hM : M ≤ 1048576) (hb : b.length ≤ 1048576) : AC Try.prog 37 [.d (encD D), .d (encB b)] none (fun r' _ => r' = rdR (readF D b)) := by
  have HV := readValue_c hD hM hb ((D.length : Int) - 1) 0
  have hf : readF D b = if (readV D b ((D.length : Int) - 1) 0).2.2 = 0 ∧ (readV D b ((D.length : Int) - 1) 0).2.1 < b.length then (V0, (readV D b ((D.length : Int) - 1) 0).2.1, 7) else readV D b ((D.length : Int) - 1) 0 := rfl
  generalize readV D b ((D.length : Int) - 1) 0 = x at HV hf
  obtain ⟨v, q, c⟩ := x
  simp only at hf
  refine calls_body Try.func37 rfl Try.call37 Try.ntmps37 (by simp) (by simp [ArgsOk]) (by simp [Rz.nkL, Rz.nk]) fun en hsz hks hk0 => ?_; simp only [St.init, frOf, Rz.addSL, Rz.addS, Rz.toAL, Rz.toA, Rz.nk, List.zipIdx_cons, List.zipIdx_nil, List.map_cons, List.map_nil, Nat.zero_add, Nat.reduceAdd]
  (repeat (first | refine walkS ?_ | (refine callPre ?_; (first | refine callN_funS rfl (rootS_c hD hM) ?_ | refine callN_funS rfl (HV) ?_)) | (refine callPreL ?_; (first | refine callL_funS rfl (rootS_c hD hM) ?_ | refine callL_funS rfl (HV) ?_))))
  (refine ow_gd rfl rfl (fun x hx => by cases hx <;> (rw [hsz]; decide)) (fun hg K1 hK1 => ?_) (fun hg => ?_); ((try simp only [hg]); refine evS ?_;  refine hK1 _ ?_; clear hK1 K1); rotate_left; (simp only [Bool.not_true, Bool.not_false] at hg; simp only [St.set, hg]); rotate_left)
  · have hg' : (c : Int) = 0 := by simpa using hg
    refine walkS ?_
    refine aw_condS rfl (fun hc => ?_) (fun hc => ?_)
    · refine walkS ?_
      (refine aw_ret ?_; (simp only [Fin, Try.results37]; refine finS ?_); refine ⟨_, [], .inr (.inl ⟨.tup [encV V0, iD (q : Int), iD 7], rfl, rfl, ?_⟩), List.nodup_nil, by rw [hf, if_pos (by constructor <;> omega)]; rfl⟩; exact wkDS)
    · refine walkS ?_
      (refine aw_ret ?_; (simp only [Fin, Try.results37]; refine finS ?_); refine ⟨_, [], .inr (.inl ⟨.tup [encV v, iD (q : Int), iD (c : Int)], rfl, rfl, ?_⟩), List.nodup_nil, by rw [hf, if_neg (by omega)]⟩; exact wkDS)
  · have hg' : (c : Int) ≠ 0 := by simpa using hg
    refine walkS ?_
    refine aw_condS rfl (fun hc => ?_) (fun hc => ?_)
    · cases hc
    · refine walkS ?_
      (refine aw_ret ?_; (simp only [Fin, Try.results37]; refine finS ?_); refine ⟨_, [], .inr (.inl ⟨.tup [encV v, iD (q : Int), iD (c : Int)], rfl, rfl, ?_⟩), List.nodup_nil, by rw [hf, if_neg (by omega)]⟩; exact wkDS)
end
end Go.Proofs.Ytmpokibohbhoeaa.Eng
