/-
 The reference: checking.
-/
import Derived.Test.YtodkkldopciagaaKN9
set_option linter.unusedSimpArgs false
set_option linter.unusedVariables false
set_option linter.defProp false
set_option maxRecDepth 100000
set_option maxHeartbeats 4000000
namespace Go.Proofs.Ytodkkldopciagaa.Eng
open Go Go.RowKit

noncomputable def validP (D : List RuleD) (b : List UInt8) : Bool := (readF D b).2.2 == 0 || (readF D b).2.2 == 1
noncomputable def longP (D : List RuleD) (b : List UInt8) : Nat → Int
 | 0 => if validP D [] = true then 0 else -1
 | n + 1 => if validP D (b.take (n + 1)) = true then ((n + 1 : Nat) : Int) else longP D b n

theorem longP_hit {D : List RuleD} {b : List UInt8} {n : Nat} (h : validP D (b.take n) = true) : longP D b n = n := by
 cases n with
 | zero => rw [List.take_zero] at h; unfold longP; rw [if_pos h]; rfl
 | succ n => unfold longP; rw [if_pos h]
theorem longP_miss {D : List RuleD} {b : List UInt8} {n : Nat} (h : validP D (b.take n) = false) : longP D b n = if n = 0 then -1 else longP D b (n - 1) := by
 cases n with
 | zero => rw [List.take_zero] at h; unfold longP; rw [h]; simp
 | succ n => rw [longP, h]; simp

section
variable {M : Nat} {D : List RuleD} {b : List UInt8}


private def tyF := And.intro (And.intro (And.intro (And.intro (And.intro (And.intro tb22 te22) (And.intro te24 te33)) (And.intro (And.intro te64 te65) (And.intro tf26_0 tf37_0))) (And.intro (And.intro (And.intro tf37_1 tf37_2) (And.intro tf67_0 tf67_1)) (And.intro (And.intro tf67_2 tf67_3) (And.intro tf67_4 tf67_5)))) (And.intro (And.intro (And.intro (And.intro tf67_6 tf67_7) (And.intro tk22 tk24)) (And.intro (And.intro tk26 tk3) (And.intro tk33 tk37))) (And.intro (And.intro (And.intro tk4 tk5) (And.intro tk64 tk65)) (And.intro (And.intro tk67 tk9) (And.intro tp26 (And.intro tp37 tp67)))))) (And.intro (And.intro (And.intro (And.intro (And.intro tr22 tr24) (And.intro tr26 tr3)) (And.intro (And.intro tr33 tr37) (And.intro tr4 tr5))) (And.intro (And.intro (And.intro tr64 tr65) (And.intro tr67 tr9)) (And.intro (And.intro tu22 tu24) (And.intro tu3 tu33)))) (And.intro (And.intro (And.intro (And.intro tu4 tu5) (And.intro tu64 tu65)) (And.intro (And.intro tu9 tz22) (And.intro tz24 tz26))) (And.intro (And.intro (And.intro tz3 tz33) (And.intro tz37 tz4)) (And.intro (And.intro tz5 tz64) (And.intro tz65 (And.intro tz67 tz9))))))
theorem checkFileS_c (hD : DB M D) (hM : M ≤ 1048576) (hb : b.length ≤ 1048576) : AC Try.prog 116 [.d (encD D), .d (encB b)] none (fun r' _ => r' = chR (readF D b)) := by
 refine calls_body Try.func116 rfl Try.call116 Try.ntmps116 (by simp) (by simp [ArgsOk]) (by simp [Rz.nkL, Rz.nk]) fun en hsz hks hk0 => ?_; refine enS ?_
 (repeat (first | refine walkS ?_ | (refine callPre ?_; (first | refine callN_funS rfl (readFile_c hD hM hb) ?_)) | (refine callPreL ?_; (first | refine callL_funS rfl (readFile_c hD hM hb) ?_))))
 (refine aw_ret ?_; (simp only [Fin, Try.results116]; refine finS ?_); exact ⟨_, _, .inl ⟨rfl, rfl⟩, List.nodup_nil, rfl⟩)

theorem validPS_c (hD : DB M D) (hM : M ≤ 1048576) (hb : b.length ≤ 1048576) : AC Try.prog 67 [.d (encD D), .d (encB b)] none (fun r' _ => r' = .d (bD (validP D b))) := by
 have HC := checkFileS_c hD hM hb
 have hv : validP D b = ((readF D b).2.2 == 0 || (readF D b).2.2 == 1) := rfl
 generalize readF D b = x at HC hv
 obtain ⟨v, q, c⟩ := x
 simp only at hv
 refine calls_body Try.func67 rfl Try.call67 Try.ntmps67 (by simp) (by simp [ArgsOk]) (by simp [Rz.nkL, Rz.nk]) fun en hsz hks hk0 => ?_; refine enS ?_
 (repeat (first | refine walkS ?_ | (refine callPre ?_; (first | refine callN_funS rfl (HC) ?_)) | (refine callPreL ?_; (first | refine callL_funS rfl (HC) ?_))))
 (refine ow_gd rfl rfl dsS (fun hg K1 hK1 => ?_) (fun hg => ?_); ((try simp only [hg]); refine evS ?_;  refine hK1 _ ?_; clear hK1 K1); rotate_left; (simp only [Bool.not_true, Bool.not_false] at hg; simp only [St.set, hg]); rotate_left)
 ·have hg' : (c : Int) ≠ 0 := by simpa using hg
  refine walkS ?_
  (refine aw_ret ?_; (simp only [Fin, Try.results67]; refine finS ?_); exact ⟨_, _, .inl ⟨rfl, rfl⟩, List.nodup_nil, by
   rw [hv]
   congr 3
   have e : (c == 0) = false := by simp; omega
   rw [e, Bool.false_or, Bool.eq_iff_iff]
   simp only [beq_iff_eq]
   omega⟩)
 ·have hg' : (c : Int) = 0 := by simpa using hg
  refine walkS ?_
  (refine aw_ret ?_; (simp only [Fin, Try.results67]; refine finS ?_); exact ⟨_, _, .inl ⟨rfl, rfl⟩, List.nodup_nil, by
   rw [hv]
   congr 3
   have e : (c == 0) = true := by simp; omega
   rw [e, Bool.true_or]⟩)

theorem longPS_c (hD : DB M D) (hM : M ≤ 1048576) (hb : b.length ≤ 1048576) : AC Try.prog 29 [.d (encD D), .d (encB b)] none (fun r' _ => r' = .d (iD (longP D b b.length))) := by
 refine calls_body Try.func29 rfl Try.call29 Try.ntmps29 (by simp) (by simp [ArgsOk]) (by simp [Rz.nkL, Rz.nk]) fun en hsz hks hk0 => ?_; refine enS ?_
 refine walkS ?_
 refine aw_loopS [1, 2, 4] (fun _ _ => []) (fun _ k => [(5, .d (iD (k : Int)))]) [] (fun _ _ => []) [] (fun _ _ => []) (fun k : Int => -1 ≤ k ∧ k ≤ b.length ∧ ((k = -1 ∧ longP D b b.length = -1) ∨ (0 ≤ k ∧ longP D b b.length = longP D b k.toNat))) (fun k => (k + 1).toNat) ((b.length : Int)) hks (fun _ => rfl) ⟨by omega, by omega, .inr ⟨by omega, by simp⟩⟩ wkS ?_; intro x hx; refine headS ?_
 obtain ⟨hx1, hx2, hx3⟩ := hx
 refine walkS ?_
 refine aw_condS rfl (fun hk => ?_) (fun hk => ?_)
 ·have hx4 : longP D b b.length = longP D b x.toNat := by
   rcases hx3 with h | h
   ·omega
   ·exact h.2
  have HV := validPS_c (b := List.take (x.toNat - 0) (List.drop 0 b)) hD hM (by simp; omega)
  rw [List.drop_zero, Nat.sub_zero] at HV
  cases hv : validP D (List.take x.toNat b) with
  | true =>
   (repeat (first | refine ctlS ?_ | (refine ol_go ?_ (fun K1 hK1 => ?_); exact trS; refine evS ?_; (try simp only [List.drop_zero, Nat.sub_zero]); refine hK1 _ _ ?_; clear hK1 K1) | (refine ow_go ?_ dsS (fun K1 hK1 => ?_); exact trS; refine evS ?_; (try simp only [List.drop_zero, Nat.sub_zero]); refine hK1 _ ?_; clear hK1 K1) | refine skipS ?_ | (refine callPre ?_; (first | refine callN_funS rfl (HV.eqv (r1 := .d (bD true)) (by rw [hv])) ?_)) | (refine callPreL ?_; (first | refine callL_funS rfl (HV.eqv (r1 := .d (bD true)) (by rw [hv])) ?_))))
   refine aw_condS rfl (fun hc => ?_) (fun hc => ?_)
   ·refine walkS ?_
    (refine aw_ret ?_; (simp only [Fin, Try.results29]; refine finS ?_); exact ⟨_, _, .inl ⟨rfl, rfl⟩, List.nodup_nil, by rw [hx4, longP_hit hv, Int.toNat_of_nonneg hk]⟩)
   ·cases hc
  | false =>
   have hm := longP_miss hv
   (repeat (first | refine ctlS ?_ | (refine ol_go ?_ (fun K1 hK1 => ?_); exact trS; refine evS ?_; (try simp only [List.drop_zero, Nat.sub_zero]); refine hK1 _ _ ?_; clear hK1 K1) | (refine ow_go ?_ dsS (fun K1 hK1 => ?_); exact trS; refine evS ?_; (try simp only [List.drop_zero, Nat.sub_zero]); refine hK1 _ ?_; clear hK1 K1) | refine skipS ?_ | (refine callPre ?_; (first | refine callN_funS rfl (HV.eqv (r1 := .d (bD false)) (by rw [hv])) ?_)) | (refine callPreL ?_; (first | refine callL_funS rfl (HV.eqv (r1 := .d (bD false)) (by rw [hv])) ?_))))
   refine aw_condS rfl (fun hc => ?_) (fun hc => ?_)
   ·cases hc
   ·refine walkS ?_
    refine ⟨x - 1, ⟨by omega, by omega, ?_⟩, by omega, ?_⟩
    ·rw [hx4, hm]
     by_cases h0 : x.toNat = 0
     ·left; rw [if_pos h0]; omega
     ·right; rw [if_neg h0, show (x - 1).toNat = x.toNat - 1 by omega]; exact ⟨by omega, rfl⟩
    exact wkS
 ·refine walkS ?_
  (refine aw_ret ?_; (simp only [Fin, Try.results29]; refine finS ?_); exact ⟨_, _, .inl ⟨rfl, rfl⟩, List.nodup_nil, by
   rcases hx3 with h | h
   ·rw [h.2]
   ·omega⟩)
end
end Go.Proofs.Ytodkkldopciagaa.Eng
