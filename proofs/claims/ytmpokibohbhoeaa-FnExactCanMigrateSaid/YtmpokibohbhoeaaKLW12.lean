/-
  The law: CanMigrate.
-/
import Derived.Test.YtmpokibohbhoeaaKL
import Derived.Test.YtmpokibohbhoeaaKLQ
import Derived.Test.YtmpokibohbhoeaaKN70
set_option linter.unusedSimpArgs false
set_option linter.unusedVariables false
set_option linter.defProp false
set_option maxRecDepth 100000
set_option maxHeartbeats 4000000
namespace Go.Proofs.Ytmpokibohbhoeaa.Eng
open Go Go.RowKit

private def tyF := And.intro (And.intro (And.intro (And.intro (And.intro (And.intro tb22 (And.intro te106 te107)) (And.intro te22 (And.intro te24 te32))) (And.intro (And.intro te35 (And.intro te42 tf109_0)) (And.intro tf109_1 (And.intro tf109_2 tf109_3)))) (And.intro (And.intro (And.intro tf109_4 (And.intro tf109_5 tf109_6)) (And.intro tf109_7 (And.intro tf118_0 tf118_1))) (And.intro (And.intro tf118_2 (And.intro tf118_3 tf118_4)) (And.intro (And.intro tf118_5 tf118_6) (And.intro tf118_7 tf26_0))))) (And.intro (And.intro (And.intro (And.intro tf34_0 (And.intro tf37_0 tf37_1)) (And.intro tf37_2 (And.intro tf44_0 tf44_1))) (And.intro (And.intro tf44_2 (And.intro tk106 tk107)) (And.intro tk109 (And.intro tk118 tk22)))) (And.intro (And.intro (And.intro tk24 (And.intro tk26 tk3)) (And.intro tk32 (And.intro tk34 tk35))) (And.intro (And.intro tk37 (And.intro tk4 tk42)) (And.intro (And.intro tk44 tk5) (And.intro tk9 tp109)))))) (And.intro (And.intro (And.intro (And.intro (And.intro tp118 (And.intro tp26 tp34)) (And.intro tp37 (And.intro tp44 tr106))) (And.intro (And.intro tr107 (And.intro tr109 tr118)) (And.intro tr22 (And.intro tr24 tr26)))) (And.intro (And.intro (And.intro tr3 (And.intro tr32 tr34)) (And.intro tr35 (And.intro tr37 tr4))) (And.intro (And.intro tr42 (And.intro tr44 tr5)) (And.intro (And.intro tr9 tu106) (And.intro tu107 tu22))))) (And.intro (And.intro (And.intro (And.intro tu24 (And.intro tu3 tu32)) (And.intro tu35 (And.intro tu4 tu42))) (And.intro (And.intro tu5 (And.intro tu9 tz106)) (And.intro tz107 (And.intro tz109 tz118)))) (And.intro (And.intro (And.intro tz22 (And.intro tz24 tz26)) (And.intro tz3 (And.intro tz32 tz34))) (And.intro (And.intro tz35 (And.intro tz37 tz4)) (And.intro (And.intro tz42 tz44) (And.intro tz5 tz9))))))
theorem lawCanMigrate_c {Da Dz : List RuleD} (hDa : DB 9223372036854775807 Da) (hDz : DB 9223372036854775807 Dz) {v : V} (hv0 : VB 9223372036854775807 v) : AC Try.prog 7 [.d (encD Da), .d (encD Dz), .d (encV v)] none (fun r' _ => r' = .d (bD true)) := by
  have a1 := lftDs_le (x := 1048576) (D := Da) (by omega)
  have HZ := fun (x : Int) (hx : 0 ≤ x ∧ x ≤ 1048576) => szValue_c hv0 x hx
  obtain ⟨n, bs, vs⟩ := v
  have hev := encV_mk n bs vs
  rw [encVs_eq] at hev
  simp only [hev] at HZ ⊢
  refine calls_body Try.func7 rfl Try.call7 Try.ntmps7 (by simp) (by simp [ArgsOk]) (by simp [Rz.nkL, Rz.nk]) fun en hsz hks hk0 => ?_; refine enS ?_
  (repeat (first | refine walkS ?_ | (refine callPre ?_; (first | refine callN_funS rfl (szDescription_c hDa 1048576 (by omega)) ?_)) | (refine callPreL ?_; (first | refine callL_funS rfl (szDescription_c hDa 1048576 (by omega)) ?_))))
  refine aw_condS rfl (fun h1 => ?_) (fun h1 => ?_)
  · refine walkS ?_
    (refine aw_ret ?_; (simp only [Fin, Try.results7]; refine finS ?_); exact ⟨_, _, .inl ⟨rfl, rfl⟩, List.nodup_nil, rfl⟩)
  have hDaM : DB 1048576 Da := lftDs_ge (x := 1048576) (by omega) (by omega) (by omega)
  have a2 := lftDs_le (x := lftDs 1048576 Da) (D := Dz) (by omega)
  (repeat (first | refine walkS ?_ | (refine callPre ?_; (first | refine callN_funS rfl (szDescription_c hDz (lftDs 1048576 Da) (by omega)) ?_)) | (refine callPreL ?_; (first | refine callL_funS rfl (szDescription_c hDz (lftDs 1048576 Da) (by omega)) ?_))))
  refine aw_condS rfl (fun h1b => ?_) (fun h1b => ?_)
  · refine walkS ?_
    (refine aw_ret ?_; (simp only [Fin, Try.results7]; refine finS ?_); exact ⟨_, _, .inl ⟨rfl, rfl⟩, List.nodup_nil, rfl⟩)
  have hDzM : DB 1048576 Dz := lftDs_ge (x := lftDs 1048576 Da) (by omega) (by omega) (by omega)
  (repeat (first | refine walkS ?_ | (refine callPre ?_; (first | refine callN_funS rfl (HZ (lftDs (lftDs 1048576 Da) Dz) (by omega)) ?_)) | (refine callPreL ?_; (first | refine callL_funS rfl (HZ (lftDs (lftDs 1048576 Da) Dz) (by omega)) ?_))))
  refine aw_condS rfl (fun h2 => ?_) (fun h2 => ?_)
  · refine walkS ?_
    (refine aw_ret ?_; (simp only [Fin, Try.results7]; refine finS ?_); exact ⟨_, _, .inl ⟨rfl, rfl⟩, List.nodup_nil, rfl⟩)
  have hvM : VB 1048576 (.mk n bs vs) := lftV_ge (x := lftDs (lftDs 1048576 Da) Dz) (by omega) (by omega) (by omega)
  have HS := canMS_c hDaM hDzM (Nat.le_refl _) hvM
  have HI := canMI_c hDaM hDzM (Nat.le_refl _) hvM
  have HT := toValue_c hvM
  have HE := eqValue_c hvM
  generalize (migR Da ((Da.length : Int) - 1) Dz ((Dz.length : Int) - 1) (V.mk n bs vs)).2 = z at HS HI
  simp only [hev] at HS HI HT HE
  cases z
  all_goals
    (repeat (first | refine walkS ?_ | (refine callPre ?_; (first | refine callN_funS rfl (toDescription_c hDaM (Nat.le_refl _)) ?_ | refine callN_funS rfl (toDescription_c hDzM (Nat.le_refl _)) ?_ | refine callN_funS rfl (HT) ?_ | refine callN_funS rfl (HS) ?_ | refine callN_funS rfl (HI) ?_)) | (refine callPreL ?_; (first | refine callL_funS rfl (toDescription_c hDaM (Nat.le_refl _)) ?_ | refine callL_funS rfl (toDescription_c hDzM (Nat.le_refl _)) ?_ | refine callL_funS rfl (HT) ?_ | refine callL_funS rfl (HS) ?_ | refine callL_funS rfl (HI) ?_))))
    refine aw_condS rfl (fun h3 => ?_) (fun h3 => ?_)
    · (first | exact absurd trivial h3 | exact absurd rfl h3 | (cases h3; done) | omega | exact absurd h3 (by decide) | (simp at h3; done))
    (repeat (first | refine walkS ?_ | (refine callPre ?_; (first | refine callN_funS rfl (toDescription_c hDaM (Nat.le_refl _)) ?_ | refine callN_funS rfl (HT) ?_ | refine callN_funS rfl (eqDescription_c hDaM (Nat.le_refl _)) ?_)) | (refine callPreL ?_; (first | refine callL_funS rfl (toDescription_c hDaM (Nat.le_refl _)) ?_ | refine callL_funS rfl (HT) ?_ | refine callL_funS rfl (eqDescription_c hDaM (Nat.le_refl _)) ?_))))
    refine aw_condS rfl (fun hc => ?_) (fun hc => ?_)
    · (first | exact absurd trivial hc | exact absurd rfl hc | (cases hc; done) | omega | exact absurd hc (by decide) | (simp at hc; done))
    (repeat (first | refine walkS ?_ | (refine callPre ?_; (first | refine callN_funS rfl (toDescription_c hDzM (Nat.le_refl _)) ?_ | refine callN_funS rfl (HT) ?_ | refine callN_funS rfl (eqDescription_c hDzM (Nat.le_refl _)) ?_)) | (refine callPreL ?_; (first | refine callL_funS rfl (toDescription_c hDzM (Nat.le_refl _)) ?_ | refine callL_funS rfl (HT) ?_ | refine callL_funS rfl (eqDescription_c hDzM (Nat.le_refl _)) ?_))))
    refine aw_condS rfl (fun hc => ?_) (fun hc => ?_)
    · (first | exact absurd trivial hc | exact absurd rfl hc | (cases hc; done) | omega | exact absurd hc (by decide) | (simp at hc; done))
    (repeat (first | refine walkS ?_ | (refine callPre ?_; (first | refine callN_funS rfl (HT) ?_ | refine callN_funS rfl (HE) ?_)) | (refine callPreL ?_; (first | refine callL_funS rfl (HT) ?_ | refine callL_funS rfl (HE) ?_))))
    refine aw_condS rfl (fun hc => ?_) (fun hc => ?_)
    · (first | exact absurd trivial hc | exact absurd rfl hc | (cases hc; done) | omega | exact absurd hc (by decide) | (simp at hc; done))
    · refine walkS ?_
      (refine aw_ret ?_; (simp only [Fin, Try.results7]; refine finS ?_); exact ⟨_, _, .inl ⟨rfl, rfl⟩, List.nodup_nil, rfl⟩)
end Go.Proofs.Ytmpokibohbhoeaa.Eng
