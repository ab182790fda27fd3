/-
  The law: IsCanonical.
-/
import Derived.Test.YtmdohnoimianbaaGreatDoorKL
import Derived.Test.YtmdohnoimianbaaGreatDoorKN60
set_option linter.unusedSimpArgs false
set_option linter.unusedVariables false
set_option linter.defProp false
set_option maxRecDepth 100000
set_option maxHeartbeats 4000000
namespace Go.Proofs.YtmdohnoimianbaaGreatDoor.Eng
open Go Go.RowKit

private def tyF := And.intro (And.intro (And.intro (And.intro (And.intro (And.intro tb25 te22) (And.intro te25 te32)) (And.intro (And.intro te73 te74) (And.intro tf24_0 (And.intro tf34_0 tf76_0)))) (And.intro (And.intro (And.intro tf76_1 tf76_2) (And.intro tf76_3 (And.intro tf76_4 tf76_5))) (And.intro (And.intro tf76_6 tf76_7) (And.intro tf78_0 (And.intro tf78_1 tf78_2))))) (And.intro (And.intro (And.intro (And.intro tf78_3 tf78_4) (And.intro tf78_5 tf78_6)) (And.intro (And.intro tf78_7 tk22) (And.intro tk24 (And.intro tk25 tk3)))) (And.intro (And.intro (And.intro tk32 tk34) (And.intro tk4 (And.intro tk5 tk73))) (And.intro (And.intro tk74 tk76) (And.intro tk78 (And.intro tk9 tp24)))))) (And.intro (And.intro (And.intro (And.intro (And.intro tp34 tp76) (And.intro tp78 tr22)) (And.intro (And.intro tr24 tr25) (And.intro tr3 (And.intro tr32 tr34)))) (And.intro (And.intro (And.intro tr4 tr5) (And.intro tr73 (And.intro tr74 tr76))) (And.intro (And.intro tr78 tr9) (And.intro tu22 (And.intro tu25 tu3))))) (And.intro (And.intro (And.intro (And.intro tu32 tu4) (And.intro tu5 tu73)) (And.intro (And.intro tu74 tu9) (And.intro tz22 (And.intro tz24 tz25)))) (And.intro (And.intro (And.intro tz3 tz32) (And.intro tz34 (And.intro tz4 tz5))) (And.intro (And.intro tz73 tz74) (And.intro tz76 (And.intro tz78 tz9))))))
theorem lawIsCanonical_c {D : List RuleD} (hD : DB 9223372036854775807 D) {b : List UInt8} (hb0 : b.length ≤ 9223372036854775807) : AC Tryz.prog 6 [.d (encD D), .d (encB b)] none (fun r' _ => r' = .d (bD true)) := by
  refine calls_body Tryz.func6 rfl Tryz.call6 Tryz.ntmps6 (by simp) (by simp [ArgsOk]) (by simp [Rz.nkL, Rz.nk]) fun en hsz hks hk0 => ?_; refine enS ?_
  refine walkS ?_
  refine aw_condS rfl (fun h0 => ?_) (fun h0 => ?_)
  · refine walkS ?_
    (refine aw_ret ?_; (simp only [Fin, Tryz.results6]; refine finS ?_); exact ⟨_, _, .inl ⟨rfl, rfl⟩, List.nodup_nil, rfl⟩)
  have hb : b.length ≤ 1048576 := by omega
  (repeat (first | refine walkS ?_ | (refine callPre ?_; (first | refine callN_funS rfl (szDescription_c hD 1048576 (by omega)) ?_)) | (refine callPreL ?_; (first | refine callL_funS rfl (szDescription_c hD 1048576 (by omega)) ?_))))
  refine aw_condS rfl (fun h1 => ?_) (fun h1 => ?_)
  · refine walkS ?_
    (refine aw_ret ?_; (simp only [Fin, Tryz.results6]; refine finS ?_); exact ⟨_, _, .inl ⟨rfl, rfl⟩, List.nodup_nil, rfl⟩)
  have hDM : DB 1048576 D := lftDs_ge (x := 1048576) (by omega) (by omega) (by omega)
  have HS := isCanS_c hDM (Nat.le_refl _) hb
  have HI := isCanI_c hDM (Nat.le_refl _) hb
  cases hz : isCanP D b
  all_goals
    rw [hz] at HS HI
    (repeat (first | refine walkS ?_ | (refine callPre ?_; (first | refine callN_funS rfl (toDescription_c hDM (Nat.le_refl _)) ?_ | refine callN_funS rfl (toByteS_c hb) ?_ | refine callN_funS rfl (HS) ?_ | refine callN_funS rfl (HI) ?_)) | (refine callPreL ?_; (first | refine callL_funS rfl (toDescription_c hDM (Nat.le_refl _)) ?_ | refine callL_funS rfl (toByteS_c hb) ?_ | refine callL_funS rfl (HS) ?_ | refine callL_funS rfl (HI) ?_))))
    refine aw_condS rfl (fun h2 => ?_) (fun h2 => ?_)
    · (first | exact absurd trivial h2 | exact absurd rfl h2 | (cases h2; done) | omega | exact absurd h2 (by decide) | (simp at h2; done))
    (repeat (first | refine walkS ?_ | (refine callPre ?_; (first | refine callN_funS rfl (toDescription_c hDM (Nat.le_refl _)) ?_ | refine callN_funS rfl (toByteS_c hb) ?_ | refine callN_funS rfl (eqDescription_c hDM (Nat.le_refl _)) ?_ | refine callN_funS rfl (eqByteS_c hb) ?_)) | (refine callPreL ?_; (first | refine callL_funS rfl (toDescription_c hDM (Nat.le_refl _)) ?_ | refine callL_funS rfl (toByteS_c hb) ?_ | refine callL_funS rfl (eqDescription_c hDM (Nat.le_refl _)) ?_ | refine callL_funS rfl (eqByteS_c hb) ?_))))
    refine aw_condS rfl (fun hc => ?_) (fun hc => ?_)
    · (first | exact absurd trivial hc | exact absurd rfl hc | (cases hc; done) | omega | exact absurd hc (by decide) | (simp at hc; done))
    (repeat (first | refine walkS ?_ | (refine callPre ?_; (first | refine callN_funS rfl (toDescription_c hDM (Nat.le_refl _)) ?_ | refine callN_funS rfl (toByteS_c hb) ?_ | refine callN_funS rfl (eqDescription_c hDM (Nat.le_refl _)) ?_ | refine callN_funS rfl (eqByteS_c hb) ?_)) | (refine callPreL ?_; (first | refine callL_funS rfl (toDescription_c hDM (Nat.le_refl _)) ?_ | refine callL_funS rfl (toByteS_c hb) ?_ | refine callL_funS rfl (eqDescription_c hDM (Nat.le_refl _)) ?_ | refine callL_funS rfl (eqByteS_c hb) ?_))))
    refine aw_condS rfl (fun hc => ?_) (fun hc => ?_)
    · (first | exact absurd trivial hc | exact absurd rfl hc | (cases hc; done) | omega | exact absurd hc (by decide) | (simp at hc; done))
    · refine walkS ?_
      (refine aw_ret ?_; (simp only [Fin, Tryz.results6]; refine finS ?_); exact ⟨_, _, .inl ⟨rfl, rfl⟩, List.nodup_nil, rfl⟩)
end Go.Proofs.YtmdohnoimianbaaGreatDoor.Eng
