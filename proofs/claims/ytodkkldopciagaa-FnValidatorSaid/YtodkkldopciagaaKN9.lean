/-
 The reference: reading a value, a file.
-/
import Derived.Test.YtodkkldopciagaaKNR
import Derived.Test.YtodkkldopciagaaKN40
set_option linter.unusedSimpArgs false
set_option linter.unusedVariables false
set_option linter.defProp false
set_option maxRecDepth 100000
set_option maxHeartbeats 4000000
namespace Go.Proofs.Ytodkkldopciagaa.Eng
open Go Go.RowKit

noncomputable def readV (D : List RuleD) (b : List UInt8) (i p : Int) : V × Nat × Nat := if vKnown D i = true ∧ (0 ≤ p ∧ p ≤ b.length) ∧ b.length ≤ 400 then rd D b D.length i.toNat p.toNat else (V0, 0, 8)
noncomputable def readF (D : List RuleD) (b : List UInt8) : V × Nat × Nat := if (readV D b ((D.length : Int) - 1) 0).2.2 = 0 ∧ (readV D b ((D.length : Int) - 1) 0).2.1 < b.length then (V0, (readV D b ((D.length : Int) - 1) 0).2.1, 7) else readV D b ((D.length : Int) - 1) 0
abbrev chR (x : V × Nat × Nat) : Rz := .d (.tup [iD x.2.1, iD x.2.2])

section
variable {M : Nat} {D : List RuleD} {b : List UInt8}
private def tyF := And.intro (And.intro (And.intro (And.intro (And.intro (And.intro tb22 te22) (And.intro te24 te33)) (And.intro (And.intro te64 te65) (And.intro tf26_0 tf37_0))) (And.intro (And.intro (And.intro tf37_1 tf37_2) (And.intro tf67_0 tf67_1)) (And.intro (And.intro tf67_2 tf67_3) (And.intro tf67_4 tf67_5)))) (And.intro (And.intro (And.intro (And.intro tf67_6 tf67_7) (And.intro tk22 tk24)) (And.intro (And.intro tk26 tk3) (And.intro tk33 tk37))) (And.intro (And.intro (And.intro tk4 tk5) (And.intro tk64 tk65)) (And.intro (And.intro tk67 tk9) (And.intro tp26 (And.intro tp37 tp67)))))) (And.intro (And.intro (And.intro (And.intro (And.intro tr22 tr24) (And.intro tr26 tr3)) (And.intro (And.intro tr33 tr37) (And.intro tr4 tr5))) (And.intro (And.intro (And.intro tr64 tr65) (And.intro tr67 tr9)) (And.intro (And.intro tu22 tu24) (And.intro tu3 tu33)))) (And.intro (And.intro (And.intro (And.intro tu4 tu5) (And.intro tu64 tu65)) (And.intro (And.intro tu9 tz22) (And.intro tz24 tz26))) (And.intro (And.intro (And.intro tz3 tz33) (And.intro tz37 tz4)) (And.intro (And.intro tz5 tz64) (And.intro tz65 (And.intro tz67 tz9))))))
theorem readValue_c (hD : DB M D) (hM : M ≤ 1048576) (hb : b.length ≤ 1048576) (i p : Int) : AC Try.prog 22 [.d (encD D), .d (iD i), .d (encB b), .d (iD p)] none (fun r' _ => r' = rdR (readV D b i p)) := by
 have no : ¬ (vKnown D i = true ∧ (0 ≤ p ∧ p ≤ b.length) ∧ b.length ≤ 400) → readV D b i p = (V0, 0, 8) := fun h => if_neg h
 by_cases hv : vKnown D i = true
 ·by_cases hp : 0 ≤ p ∧ p ≤ (b.length : Int)
  ·refine calls_body Try.func22 rfl Try.call22 Try.ntmps22 (by simp) (by simp [ArgsOk]) (by simp [Rz.nkL, Rz.nk]) fun en hsz hks hk0 => ?_; refine enS ?_
   (repeat (first | refine walkS ?_ | (refine callPre ?_; (first | refine callN_funS rfl ((l7Rule_c hD hM i).eqv (r1 := .d (bD true)) (by rw [hv])) ?_ | refine callN_funS rfl (l1In_t hp) ?_)) | (refine callPreL ?_; (first | refine callL_funS rfl ((l7Rule_c hD hM i).eqv (r1 := .d (bD true)) (by rw [hv])) ?_ | refine callL_funS rfl (l1In_t hp) ?_))))
   refine aw_condS rfl (fun hc => ?_) (fun hc => ?_)
   ·refine walkS ?_
    (refine aw_ret ?_; (simp only [Fin, Try.results22]; refine finS ?_); refine ⟨_, [], .inr (.inl ⟨.tup [encV V0, iD 0, iD 8], rfl, rfl, ?_⟩), List.nodup_nil, by rw [no (by omega)]; rfl⟩; exact wkDS)
   ·have hyes : readV D b i p = rd D b D.length i.toNat p.toNat := if_pos ⟨hv, hp, by omega⟩
    obtain ⟨v1, v2, v3⟩ := vKnown_spec hv
    have HR := l11Read_all hD hM hb v1 D.length i.toNat p.toNat (by omega) (by omega) (by omega)
    rw [Int.toNat_of_nonneg v2, Int.toNat_of_nonneg hp.1, ← hyes] at HR
    (repeat (first | refine walkS ?_ | (refine callPre ?_; (first | refine callN_funS rfl (HR) ?_)) | (refine callPreL ?_; (first | refine callL_funS rfl (HR) ?_))))
    (refine aw_ret ?_; (simp only [Fin, Try.results22]; refine finS ?_); exact ⟨_, _, .inl ⟨rfl, rfl⟩, List.nodup_nil, rfl⟩)
  ·refine calls_body Try.func22 rfl Try.call22 Try.ntmps22 (by simp) (by simp [ArgsOk]) (by simp [Rz.nkL, Rz.nk]) fun en hsz hks hk0 => ?_; refine enS ?_
   (repeat (first | refine walkS ?_ | (refine callPre ?_; (first | refine callN_funS rfl ((l7Rule_c hD hM i).eqv (r1 := .d (bD true)) (by rw [hv])) ?_ | refine callN_funS rfl (l1In_f hp) ?_)) | (refine callPreL ?_; (first | refine callL_funS rfl ((l7Rule_c hD hM i).eqv (r1 := .d (bD true)) (by rw [hv])) ?_ | refine callL_funS rfl (l1In_f hp) ?_))))
   refine aw_condS rfl (fun hc => ?_) (fun hc => ?_)
   ·refine walkS ?_
    (refine aw_ret ?_; (simp only [Fin, Try.results22]; refine finS ?_); refine ⟨_, [], .inr (.inl ⟨.tup [encV V0, iD 0, iD 8], rfl, rfl, ?_⟩), List.nodup_nil, by rw [no (fun h => hp h.2.1)]; rfl⟩; exact wkDS)
   ·cases hc
 ·have hv' : vKnown D i = false := by simpa using hv
  refine calls_body Try.func22 rfl Try.call22 Try.ntmps22 (by simp) (by simp [ArgsOk]) (by simp [Rz.nkL, Rz.nk]) fun en hsz hks hk0 => ?_; refine enS ?_
  (repeat (first | refine walkS ?_ | (refine callPre ?_; (first | refine callN_funS rfl ((l7Rule_c hD hM i).eqv (r1 := .d (bD false)) (by rw [hv'])) ?_)) | (refine callPreL ?_; (first | refine callL_funS rfl ((l7Rule_c hD hM i).eqv (r1 := .d (bD false)) (by rw [hv'])) ?_))))
  refine aw_condS rfl (fun hc => ?_) (fun hc => ?_)
  ·refine walkS ?_
   (refine aw_ret ?_; (simp only [Fin, Try.results22]; refine finS ?_); refine ⟨_, [], .inr (.inl ⟨.tup [encV V0, iD 0, iD 8], rfl, rfl, ?_⟩), List.nodup_nil, by rw [no (fun h => hv h.1)]; rfl⟩; exact wkDS)
  ·cases hc

theorem readFile_c (hD : DB M D) (hM : M ≤ 1048576) (hb : b.length ≤ 1048576) : AC Try.prog 25 [.d (encD D), .d (encB b)] none (fun r' _ => r' = rdR (readF D b)) := by
 have HV := readValue_c hD hM hb ((D.length : Int) - 1) 0
 have hf : readF D b = if (readV D b ((D.length : Int) - 1) 0).2.2 = 0 ∧ (readV D b ((D.length : Int) - 1) 0).2.1 < b.length then (V0, (readV D b ((D.length : Int) - 1) 0).2.1, 7) else readV D b ((D.length : Int) - 1) 0 := rfl
 generalize readV D b ((D.length : Int) - 1) 0 = x at HV hf
 obtain ⟨v, q, c⟩ := x
 simp only at hf
 refine calls_body Try.func25 rfl Try.call25 Try.ntmps25 (by simp) (by simp [ArgsOk]) (by simp [Rz.nkL, Rz.nk]) fun en hsz hks hk0 => ?_; refine enS ?_
 (repeat (first | refine walkS ?_ | (refine callPre ?_; (first | refine callN_funS rfl (rootS_c hD hM) ?_ | refine callN_funS rfl (HV) ?_)) | (refine callPreL ?_; (first | refine callL_funS rfl (rootS_c hD hM) ?_ | refine callL_funS rfl (HV) ?_))))
 (refine ow_gd rfl rfl dsS (fun hg K1 hK1 => ?_) (fun hg => ?_); ((try simp only [hg]); refine evS ?_;  refine hK1 _ ?_; clear hK1 K1); rotate_left; (simp only [Bool.not_true, Bool.not_false] at hg; simp only [St.set, hg]); rotate_left)
 ·have hg' : (c : Int) = 0 := by simpa using hg
  refine walkS ?_
  refine aw_condS rfl (fun hc => ?_) (fun hc => ?_)
  ·refine walkS ?_
   (refine aw_ret ?_; (simp only [Fin, Try.results25]; refine finS ?_); refine ⟨_, [], .inr (.inl ⟨.tup [encV V0, iD (q : Int), iD 7], rfl, rfl, ?_⟩), List.nodup_nil, by rw [hf, if_pos (by constructor <;> omega)]; rfl⟩; exact wkDS)
  ·refine walkS ?_
   (refine aw_ret ?_; (simp only [Fin, Try.results25]; refine finS ?_); refine ⟨_, [], .inr (.inl ⟨.tup [encV v, iD (q : Int), iD (c : Int)], rfl, rfl, ?_⟩), List.nodup_nil, by rw [hf, if_neg (by omega)]⟩; exact wkDS)
 ·have hg' : (c : Int) ≠ 0 := by simpa using hg
  refine walkS ?_
  refine aw_condS rfl (fun hc => ?_) (fun hc => ?_)
  ·cases hc
  ·refine walkS ?_
   (refine aw_ret ?_; (simp only [Fin, Try.results25]; refine finS ?_); refine ⟨_, [], .inr (.inl ⟨.tup [encV v, iD (q : Int), iD (c : Int)], rfl, rfl, ?_⟩), List.nodup_nil, by rw [hf, if_neg (by omega)]⟩; exact wkDS)
end
end Go.Proofs.Ytodkkldopciagaa.Eng
