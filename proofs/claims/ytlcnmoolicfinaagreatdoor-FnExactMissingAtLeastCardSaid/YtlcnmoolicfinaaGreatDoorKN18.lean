/-
  Checking files, the program's side: CheckFile, ValidPrefix, LongestValidPrefix.
-/
import Derived.Test.YtlcnmoolicfinaaGreatDoorKN16
import Derived.Test.YtlcnmoolicfinaaGreatDoorKNB
set_option linter.unusedSimpArgs false
set_option linter.unusedVariables false
set_option linter.defProp false
set_option maxRecDepth 100000
set_option maxHeartbeats 4000000
namespace Go.Proofs.YtlcnmoolicfinaaGreatDoor.Eng
open Go Go.RowKit

theorem readV_le (D : List RuleD) (b : List UInt8) (i p : Int) : (readV D b i p).2.1 ≤ b.length := by
  unfold readV
  split
  · rename_i h
    exact (rd_in D b D.length i.toNat p.toNat (by omega)).2
  · exact Nat.zero_le _

section
variable {M : Nat} {D : List RuleD} {b : List UInt8}
private def tyF := And.intro (And.intro (And.intro (And.intro (And.intro tb25 (And.intro te25 te28)) (And.intro (And.intro te44 te45) (And.intro tf102_0 tf102_1))) (And.intro (And.intro (And.intro tf30_0 tf52_0) (And.intro tf52_1 tf52_2)) (And.intro (And.intro tf52_3 tf52_4) (And.intro tf52_5 tf52_6)))) (And.intro (And.intro (And.intro tf52_7 (And.intro tk102 tk25)) (And.intro (And.intro tk28 tk3) (And.intro tk30 tk4))) (And.intro (And.intro (And.intro tk44 tk45) (And.intro tk5 tk52)) (And.intro (And.intro tk9 tp102) (And.intro tp30 tp52))))) (And.intro (And.intro (And.intro (And.intro tq102 (And.intro tr102 tr25)) (And.intro (And.intro tr28 tr3) (And.intro tr30 tr4))) (And.intro (And.intro (And.intro tr44 tr45) (And.intro tr5 tr52)) (And.intro (And.intro tr9 tu25) (And.intro tu28 tu3)))) (And.intro (And.intro (And.intro (And.intro tu4 tu44) (And.intro tu45 tu5)) (And.intro (And.intro tu9 tz102) (And.intro tz25 tz28))) (And.intro (And.intro (And.intro tz3 tz30) (And.intro tz4 tz44)) (And.intro (And.intro tz45 tz5) (And.intro tz52 tz9)))))
theorem checkFileI_c (hD : DB M D) (hM : M ≤ 1048576) (hb : b.length ≤ 1048576) : AC Tryz.prog 45 [.d (encD D), .d (encB b)] none (fun r' _ => r' = chR (readF D b)) := by
  have HC := checkValueI_c hD hM hb ((D.length : Int) - 1) 0
  have hF : readF D b = if (readV D b ((D.length : Int) - 1) 0).2.2 = 0 ∧ (readV D b ((D.length : Int) - 1) 0).2.1 < b.length then (V0, (readV D b ((D.length : Int) - 1) 0).2.1, 7) else readV D b ((D.length : Int) - 1) 0 := rfl
  have hle := readV_le D b ((D.length : Int) - 1) 0
  generalize readV D b ((D.length : Int) - 1) 0 = z at HC hF hle
  obtain ⟨v, q, c⟩ := z
  simp only at hF hle
  refine calls_body Tryz.func45 rfl Tryz.call45 Tryz.ntmps45 (by simp) (by simp [ArgsOk]) (by simp [Rz.nkL, Rz.nk]) fun en hsz hks hk0 => ?_; refine enS ?_
  (repeat (first | refine walkS ?_ | (refine callPre ?_; (first | refine callN_funS rfl (rootI_c hD hM) ?_ | refine callN_funS rfl (HC) ?_)) | (refine callPreL ?_; (first | refine callL_funS rfl (rootI_c hD hM) ?_ | refine callL_funS rfl (HC) ?_))))
  (refine ow_gd rfl rfl (fun x hx => by cases hx <;> (rw [hsz]; decide)) (fun hg K1 hK1 => ?_) (fun hg => ?_); ((try simp only [hg]); refine evS ?_;  refine hK1 _ ?_; clear hK1 K1); rotate_left; (simp only [Bool.not_true, Bool.not_false] at hg; simp only [St.set, hg]); rotate_left)
  · refine walkS ?_
    refine aw_condS rfl (fun h1 => ?_) (fun h1 => ?_)
    · simp at hg
      refine walkS ?_
      (refine aw_ret ?_; (simp only [Fin, Tryz.results45]; refine finS ?_); exact ⟨_, _, .inl ⟨rfl, rfl⟩, List.nodup_nil, by rw [hF, if_pos ⟨by omega, by omega⟩]; rfl⟩)
    · simp at hg
      refine walkS ?_
      (refine aw_ret ?_; (simp only [Fin, Tryz.results45]; refine finS ?_); exact ⟨_, _, .inl ⟨rfl, rfl⟩, List.nodup_nil, by rw [hF, if_neg (by omega)]⟩)
  · refine walkS ?_
    refine aw_condS rfl (fun h1 => ?_) (fun h1 => ?_)
    · (first | exact absurd trivial h1 | exact absurd rfl h1 | (cases h1; done) | omega | exact absurd h1 (by decide) | (simp at h1; done))
    · simp at hg
      refine walkS ?_
      (refine aw_ret ?_; (simp only [Fin, Tryz.results45]; refine finS ?_); exact ⟨_, _, .inl ⟨rfl, rfl⟩, List.nodup_nil, by rw [hF, if_neg (by omega)]⟩)


end
end Go.Proofs.YtlcnmoolicfinaaGreatDoor.Eng
