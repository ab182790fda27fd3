/-
  The reference: checking.
-/
import Derived.Test.YtlcnmoolicfinaaGreatDoorKN9
set_option linter.unusedSimpArgs false
set_option linter.unusedVariables false
set_option linter.defProp false
set_option maxRecDepth 100000
set_option maxHeartbeats 4000000
namespace Go.Proofs.YtlcnmoolicfinaaGreatDoor.Eng
open Go Go.RowKit

noncomputable def validP (D : List RuleD) (b : List UInt8) : Bool := (readF D b).2.2 == 0 || (readF D b).2.2 == 1
noncomputable def longP (D : List RuleD) (b : List UInt8) : Nat → Int
  | 0 => if validP D [] = true then 0 else -1
  | n + 1 => if validP D (b.take (n + 1)) = true then ((n + 1 : Nat) : Int) else longP D b n

theorem longP_hit {D : List RuleD} {b : List UInt8} {n : Nat} (h : validP D (b.take n) = true) : longP D b n = n := by
  cases n with
  | zero => rw [List.take_zero] at h; unfold longP; rw [if_pos h]; rfl
  | succ n => unfold longP; rw [if_pos h]
theorem longP_miss {D : List RuleD} {b : List UInt8} {n : Nat} (h : validP D (b.take n) = false) : longP D b n = if n = 0 then -1 else longP D b (n - 1) := by
  cases n with
  | zero => rw [List.take_zero] at h; unfold longP; rw [h]; simp
  | succ n => rw [longP, h]; simp

section
variable {M : Nat} {D : List RuleD} {b : List UInt8}


private def tyF := And.intro (And.intro (And.intro (And.intro (And.intro (And.intro tb25 te25) (And.intro te28 te44)) (And.intro (And.intro te45 te67) (And.intro tf30_0 tf52_0))) (And.intro (And.intro (And.intro tf52_1 tf52_2) (And.intro tf52_3 tf52_4)) (And.intro (And.intro tf52_5 tf52_6) (And.intro tf52_7 tf69_0)))) (And.intro (And.intro (And.intro (And.intro tf69_1 tf69_2) (And.intro tk25 tk28)) (And.intro (And.intro tk3 tk30) (And.intro tk4 tk44))) (And.intro (And.intro (And.intro tk45 tk5) (And.intro tk52 tk67)) (And.intro (And.intro tk69 tk9) (And.intro tp30 (And.intro tp52 tp69)))))) (And.intro (And.intro (And.intro (And.intro (And.intro tr25 tr28) (And.intro tr3 tr30)) (And.intro (And.intro tr4 tr44) (And.intro tr45 tr5))) (And.intro (And.intro (And.intro tr52 tr67) (And.intro tr69 tr9)) (And.intro (And.intro tu25 tu28) (And.intro tu3 tu4)))) (And.intro (And.intro (And.intro (And.intro tu44 tu45) (And.intro tu5 tu67)) (And.intro (And.intro tu9 tz25) (And.intro tz28 tz3))) (And.intro (And.intro (And.intro tz30 tz4) (And.intro tz44 tz45)) (And.intro (And.intro tz5 tz52) (And.intro tz67 (And.intro tz69 tz9))))))
theorem checkFileS_c (hD : DB M D) (hM : M ≤ 1048576) (hb : b.length ≤ 1048576) : AC Tryz.prog 23 [.d (encD D), .d (encB b)] none (fun r' _ => r' = chR (readF D b)) := by
  refine calls_body Tryz.func23 rfl Tryz.call23 Tryz.ntmps23 (by simp) (by simp [ArgsOk]) (by simp [Rz.nkL, Rz.nk]) fun en hsz hks hk0 => ?_; refine enS ?_
  (repeat (first | refine walkS ?_ | (refine callPre ?_; (first | refine callN_funS rfl (readFile_c hD hM hb) ?_)) | (refine callPreL ?_; (first | refine callL_funS rfl (readFile_c hD hM hb) ?_))))
  (refine aw_ret ?_; (simp only [Fin, Tryz.results23]; refine finS ?_); exact ⟨_, _, .inl ⟨rfl, rfl⟩, List.nodup_nil, rfl⟩)




end
end Go.Proofs.YtlcnmoolicfinaaGreatDoor.Eng
