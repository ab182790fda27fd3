/-
 Checking files, the program's side: CheckFile, ValidPrefix, LongestValidPrefix.
-/
import Derived.Test.YtodkkldopciagaaKNAX
import Derived.Test.YtodkkldopciagaaKNB
set_option linter.unusedSimpArgs false
set_option linter.unusedVariables false
set_option linter.defProp false
set_option maxRecDepth 100000
set_option maxHeartbeats 4000000
namespace Go.Proofs.Ytodkkldopciagaa.Eng
open Go Go.RowKit

theorem readV_le (D : List RuleD) (b : List UInt8) (i p : Int) : (readV D b i p).2.1 ≤ b.length := by
 unfold readV
 split
 ·rename_i h
  exact (rd_in D b D.length i.toNat p.toNat (by omega)).2
 ·exact Nat.zero_le _

section
variable {M : Nat} {D : List RuleD} {b : List UInt8}
private def tyF := And.intro (And.intro (And.intro (And.intro (And.intro tb22 (And.intro te22 te24)) (And.intro (And.intro te64 te65) (And.intro tf26_0 tf67_0))) (And.intro (And.intro (And.intro tf67_1 tf67_2) (And.intro tf67_3 tf67_4)) (And.intro (And.intro tf67_5 tf67_6) (And.intro tf67_7 tf72_0)))) (And.intro (And.intro (And.intro tf72_1 (And.intro tk22 tk24)) (And.intro (And.intro tk26 tk3) (And.intro tk4 tk5))) (And.intro (And.intro (And.intro tk64 tk65) (And.intro tk67 tk72)) (And.intro (And.intro tk9 tp26) (And.intro tp67 tp72))))) (And.intro (And.intro (And.intro (And.intro tq72 (And.intro tr22 tr24)) (And.intro (And.intro tr26 tr3) (And.intro tr4 tr5))) (And.intro (And.intro (And.intro tr64 tr65) (And.intro tr67 tr72)) (And.intro (And.intro tr9 tu22) (And.intro tu24 tu3)))) (And.intro (And.intro (And.intro (And.intro tu4 tu5) (And.intro tu64 tu65)) (And.intro (And.intro tu9 tz22) (And.intro tz24 tz26))) (And.intro (And.intro (And.intro tz3 tz4) (And.intro tz5 tz64)) (And.intro (And.intro tz65 tz67) (And.intro tz72 tz9)))))
theorem checkFileI_c (hD : DB M D) (hM : M ≤ 1048576) (hb : b.length ≤ 1048576) : AC Try.prog 26 [.d (encD D), .d (encB b)] none (fun r' _ => r' = chR (readF D b)) := by
 have HC := checkValueI_c hD hM hb ((D.length : Int) - 1) 0
 have hF : readF D b = if (readV D b ((D.length : Int) - 1) 0).2.2 = 0 ∧ (readV D b ((D.length : Int) - 1) 0).2.1 < b.length then (V0, (readV D b ((D.length : Int) - 1) 0).2.1, 7) else readV D b ((D.length : Int) - 1) 0 := rfl
 have hle := readV_le D b ((D.length : Int) - 1) 0
 generalize readV D b ((D.length : Int) - 1) 0 = z at HC hF hle
 obtain ⟨v, q, c⟩ := z
 simp only at hF hle
 refine calls_body Try.func26 rfl Try.call26 Try.ntmps26 (by simp) (by simp [ArgsOk]) (by simp [Rz.nkL, Rz.nk]) fun en hsz hks hk0 => ?_; refine enS ?_
 (repeat (first | refine walkS ?_ | (refine callPre ?_; (first | refine callN_funS rfl (rootI_c hD hM) ?_ | refine callN_funS rfl (HC) ?_)) | (refine callPreL ?_; (first | refine callL_funS rfl (rootI_c hD hM) ?_ | refine callL_funS rfl (HC) ?_))))
 (refine ow_gd rfl rfl dsS (fun hg K1 hK1 => ?_) (fun hg => ?_); ((try simp only [hg]); refine evS ?_;  refine hK1 _ ?_; clear hK1 K1); rotate_left; (simp only [Bool.not_true, Bool.not_false] at hg; simp only [St.set, hg]); rotate_left)
 ·refine walkS ?_
  refine aw_condS rfl (fun h1 => ?_) (fun h1 => ?_)
  ·simp at hg
   refine walkS ?_
   (refine aw_ret ?_; (simp only [Fin, Try.results26]; refine finS ?_); exact ⟨_, _, .inl ⟨rfl, rfl⟩, List.nodup_nil, by rw [hF, if_pos ⟨by omega, by omega⟩]; rfl⟩)
  ·simp at hg
   refine walkS ?_
   (refine aw_ret ?_; (simp only [Fin, Try.results26]; refine finS ?_); exact ⟨_, _, .inl ⟨rfl, rfl⟩, List.nodup_nil, by rw [hF, if_neg (by omega)]⟩)
 ·refine walkS ?_
  refine aw_condS rfl (fun h1 => ?_) (fun h1 => ?_)
  ·(first | exact absurd trivial h1 | exact absurd rfl h1 | (cases h1; done) | omega | exact absurd h1 (by decide) | (simp at h1; done))
  ·simp at hg
   refine walkS ?_
   (refine aw_ret ?_; (simp only [Fin, Try.results26]; refine finS ?_); exact ⟨_, _, .inl ⟨rfl, rfl⟩, List.nodup_nil, by rw [hF, if_neg (by omega)]⟩)

theorem validPI_c (hD : DB M D) (hM : M ≤ 1048576) (hb : b.length ≤ 1048576) : AC Try.prog 30 [.d (encD D), .d (encB b)] none (fun r' _ => r' = .d (bD (validP D b))) := by
 have HC := checkFileI_c hD hM hb
 have hv : validP D b = ((readF D b).2.2 == 0 || (readF D b).2.2 == 1) := rfl
 generalize readF D b = x at HC hv
 obtain ⟨v, q, c⟩ := x
 simp only at hv
 refine calls_body Try.func30 rfl Try.call30 Try.ntmps30 (by simp) (by simp [ArgsOk]) (by simp [Rz.nkL, Rz.nk]) fun en hsz hks hk0 => ?_; refine enS ?_
 (repeat (first | refine walkS ?_ | (refine callPre ?_; (first | refine callN_funS rfl (HC) ?_)) | (refine callPreL ?_; (first | refine callL_funS rfl (HC) ?_))))
 (refine ow_gd rfl rfl dsS (fun hg K1 hK1 => ?_) (fun hg => ?_); ((try simp only [hg]); refine evS ?_;  refine hK1 _ ?_; clear hK1 K1); rotate_left; (simp only [Bool.not_true, Bool.not_false] at hg; simp only [St.set, hg]); rotate_left)
 ·have hg' : (c : Int) ≠ 0 := by simpa using hg
  refine walkS ?_
  (refine aw_ret ?_; (simp only [Fin, Try.results30]; refine finS ?_); exact ⟨_, _, .inl ⟨rfl, rfl⟩, List.nodup_nil, by
   rw [hv]
   congr 3
   have e : (c == 0) = false := by simp; omega
   rw [e, Bool.false_or, Bool.eq_iff_iff]
   simp only [beq_iff_eq]
   omega⟩)
 ·have hg' : (c : Int) = 0 := by simpa using hg
  refine walkS ?_
  (refine aw_ret ?_; (simp only [Fin, Try.results30]; refine finS ?_); exact ⟨_, _, .inl ⟨rfl, rfl⟩, List.nodup_nil, by
   rw [hv]
   congr 3
   have e : (c == 0) = true := by simp; omega
   rw [e, Bool.true_or]⟩)
end
end Go.Proofs.Ytodkkldopciagaa.Eng
