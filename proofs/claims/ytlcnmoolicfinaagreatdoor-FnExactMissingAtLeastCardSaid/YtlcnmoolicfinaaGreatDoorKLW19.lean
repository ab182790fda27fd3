/-
  The law: MissingAtLeast.
-/
import Derived.Test.YtlcnmoolicfinaaGreatDoorKL
import Derived.Test.YtlcnmoolicfinaaGreatDoorKN86
set_option linter.unusedSimpArgs false
set_option linter.unusedVariables false
set_option linter.defProp false
set_option maxRecDepth 100000
set_option maxHeartbeats 4000000
namespace Go.Proofs.YtlcnmoolicfinaaGreatDoor.Eng
open Go Go.RowKit

private def tyF := And.intro (And.intro (And.intro (And.intro (And.intro (And.intro tb25 te22) (And.intro te25 te28)) (And.intro (And.intro te44 te45) (And.intro tf24_0 (And.intro tf30_0 tf47_0)))) (And.intro (And.intro (And.intro tf47_1 tf47_2) (And.intro tf47_3 (And.intro tf47_4 tf47_5))) (And.intro (And.intro tf47_6 tf47_7) (And.intro tf52_0 (And.intro tf52_1 tf52_2))))) (And.intro (And.intro (And.intro (And.intro tf52_3 tf52_4) (And.intro tf52_5 tf52_6)) (And.intro (And.intro tf52_7 tk22) (And.intro tk24 (And.intro tk25 tk28)))) (And.intro (And.intro (And.intro tk3 tk30) (And.intro tk4 (And.intro tk44 tk45))) (And.intro (And.intro tk47 tk5) (And.intro tk52 (And.intro tk9 tp24)))))) (And.intro (And.intro (And.intro (And.intro (And.intro tp30 tp47) (And.intro tp52 tr22)) (And.intro (And.intro tr24 tr25) (And.intro tr28 (And.intro tr3 tr30)))) (And.intro (And.intro (And.intro tr4 tr44) (And.intro tr45 (And.intro tr47 tr5))) (And.intro (And.intro tr52 tr9) (And.intro tu22 (And.intro tu25 tu28))))) (And.intro (And.intro (And.intro (And.intro tu3 tu4) (And.intro tu44 tu45)) (And.intro (And.intro tu5 tu9) (And.intro tz22 (And.intro tz24 tz25)))) (And.intro (And.intro (And.intro tz28 tz3) (And.intro tz30 (And.intro tz4 tz44))) (And.intro (And.intro tz45 tz47) (And.intro tz5 (And.intro tz52 tz9))))))
theorem lawMissingAtLeast_c {D : List RuleD} (hD : DB 9223372036854775807 D) {b : List UInt8} (hb0 : b.length ≤ 9223372036854775807) : AC Tryz.prog 3 [.d (encD D), .d (encB b)] none (fun r' _ => r' = .d (bD true)) := by
  refine calls_body Tryz.func3 rfl Tryz.call3 Tryz.ntmps3 (by simp) (by simp [ArgsOk]) (by simp [Rz.nkL, Rz.nk]) fun en hsz hks hk0 => ?_; refine enS ?_
  refine walkS ?_
  refine aw_condS rfl (fun h0 => ?_) (fun h0 => ?_)
  · refine walkS ?_
    (refine aw_ret ?_; (simp only [Fin, Tryz.results3]; refine finS ?_); exact ⟨_, _, .inl ⟨rfl, rfl⟩, List.nodup_nil, rfl⟩)
  have hb : b.length ≤ 1048576 := by omega
  (repeat (first | refine walkS ?_ | (refine callPre ?_; (first | refine callN_funS rfl (szDescription_c hD 1048576 (by omega)) ?_)) | (refine callPreL ?_; (first | refine callL_funS rfl (szDescription_c hD 1048576 (by omega)) ?_))))
  refine aw_condS rfl (fun h1 => ?_) (fun h1 => ?_)
  · refine walkS ?_
    (refine aw_ret ?_; (simp only [Fin, Tryz.results3]; refine finS ?_); exact ⟨_, _, .inl ⟨rfl, rfl⟩, List.nodup_nil, rfl⟩)
  have hDM : DB 1048576 D := lftDs_ge (x := 1048576) (by omega) (by omega) (by omega)
  have HS := missS_c hDM (Nat.le_refl _) hb
  have HI := missI_c hDM (Nat.le_refl _) hb
  generalize missP D b = n at HS HI
  (repeat (first | refine walkS ?_ | (refine callPre ?_; (first | refine callN_funS rfl (toDescription_c hDM (Nat.le_refl _)) ?_ | refine callN_funS rfl (toByteS_c hb) ?_ | refine callN_funS rfl (HS) ?_ | refine callN_funS rfl (HI) ?_)) | (refine callPreL ?_; (first | refine callL_funS rfl (toDescription_c hDM (Nat.le_refl _)) ?_ | refine callL_funS rfl (toByteS_c hb) ?_ | refine callL_funS rfl (HS) ?_ | refine callL_funS rfl (HI) ?_))))
  refine aw_condS rfl (fun h2 => ?_) (fun h2 => ?_)
  · exfalso; revert h2; simp
  (repeat (first | refine walkS ?_ | (refine callPre ?_; (first | refine callN_funS rfl (toDescription_c hDM (Nat.le_refl _)) ?_ | refine callN_funS rfl (toByteS_c hb) ?_ | refine callN_funS rfl (eqDescription_c hDM (Nat.le_refl _)) ?_ | refine callN_funS rfl (eqByteS_c hb) ?_)) | (refine callPreL ?_; (first | refine callL_funS rfl (toDescription_c hDM (Nat.le_refl _)) ?_ | refine callL_funS rfl (toByteS_c hb) ?_ | refine callL_funS rfl (eqDescription_c hDM (Nat.le_refl _)) ?_ | refine callL_funS rfl (eqByteS_c hb) ?_))))
  refine aw_condS rfl (fun hc => ?_) (fun hc => ?_)
  · (first | exact absurd trivial hc | exact absurd rfl hc | (cases hc; done) | omega | exact absurd hc (by decide) | (simp at hc; done))
  (repeat (first | refine walkS ?_ | (refine callPre ?_; (first | refine callN_funS rfl (toDescription_c hDM (Nat.le_refl _)) ?_ | refine callN_funS rfl (toByteS_c hb) ?_ | refine callN_funS rfl (eqDescription_c hDM (Nat.le_refl _)) ?_ | refine callN_funS rfl (eqByteS_c hb) ?_)) | (refine callPreL ?_; (first | refine callL_funS rfl (toDescription_c hDM (Nat.le_refl _)) ?_ | refine callL_funS rfl (toByteS_c hb) ?_ | refine callL_funS rfl (eqDescription_c hDM (Nat.le_refl _)) ?_ | refine callL_funS rfl (eqByteS_c hb) ?_))))
  refine aw_condS rfl (fun hc => ?_) (fun hc => ?_)
  · (first | exact absurd trivial hc | exact absurd rfl hc | (cases hc; done) | omega | exact absurd hc (by decide) | (simp at hc; done))
  · refine walkS ?_
    (refine aw_ret ?_; (simp only [Fin, Tryz.results3]; refine finS ?_); exact ⟨_, _, .inl ⟨rfl, rfl⟩, List.nodup_nil, rfl⟩)
end Go.Proofs.YtlcnmoolicfinaaGreatDoor.Eng
