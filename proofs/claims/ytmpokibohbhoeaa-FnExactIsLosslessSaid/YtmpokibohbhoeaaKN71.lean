/-
  IsLossless: both sides.
-/
import Derived.Test.YtmpokibohbhoeaaKN70
import Derived.Test.YtmpokibohbhoeaaKN36
set_option linter.unusedSimpArgs false
set_option linter.unusedVariables false
set_option linter.defProp false
set_option maxRecDepth 100000
set_option maxHeartbeats 4000000
namespace Go.Proofs.Ytmpokibohbhoeaa.Eng
open Go Go.RowKit

theorem eqV_comm (v w : V) : eqV v w = eqV w v := by
  cases h : eqV v w with
  | true => rw [eqV_eq h, eqV_refl]
  | false =>
    cases h2 : eqV w v with
    | true => rw [eqV_eq h2, eqV_refl] at h; cases h
    | false => rfl
noncomputable def lossP (Da Dz : List RuleD) (v : V) : Bool :=
  if (migR Da ((Da.length : Int) - 1) Dz ((Dz.length : Int) - 1) v).2 = true then
    if (migR Dz ((Dz.length : Int) - 1) Da ((Da.length : Int) - 1) (migR Da ((Da.length : Int) - 1) Dz ((Dz.length : Int) - 1) v).1).2 = true then
      eqV v (migR Dz ((Dz.length : Int) - 1) Da ((Da.length : Int) - 1) (migR Da ((Da.length : Int) - 1) Dz ((Dz.length : Int) - 1) v).1).1
    else false
  else false
section
variable {M : Nat} {Da Dz : List RuleD}
private def tyF := And.intro (And.intro (And.intro (And.intro (And.intro (And.intro tb22 te106) (And.intro te107 te22)) (And.intro (And.intro te24 te42) (And.intro tf109_0 tf109_1))) (And.intro (And.intro (And.intro tf109_2 tf109_3) (And.intro tf109_4 tf109_5)) (And.intro (And.intro tf109_6 tf109_7) (And.intro tf26_0 tf44_0)))) (And.intro (And.intro (And.intro (And.intro tf44_1 tf44_2) (And.intro tk106 tk107)) (And.intro (And.intro tk109 tk22) (And.intro tk24 tk26))) (And.intro (And.intro (And.intro tk3 tk4) (And.intro tk42 tk44)) (And.intro (And.intro tk5 tk9) (And.intro tp109 (And.intro tp26 tp44)))))) (And.intro (And.intro (And.intro (And.intro (And.intro tr106 tr107) (And.intro tr109 tr22)) (And.intro (And.intro tr24 tr26) (And.intro tr3 tr4))) (And.intro (And.intro (And.intro tr42 tr44) (And.intro tr5 tr9)) (And.intro (And.intro tu106 tu107) (And.intro tu22 tu24)))) (And.intro (And.intro (And.intro (And.intro tu3 tu4) (And.intro tu42 tu5)) (And.intro (And.intro tu9 tz106) (And.intro tz107 tz109))) (And.intro (And.intro (And.intro tz22 tz24) (And.intro tz26 tz3)) (And.intro (And.intro tz4 tz42) (And.intro tz44 (And.intro tz5 tz9))))))
theorem lossS_c (hDa : DB M Da) (hDz : DB M Dz) (hM : M ≤ 1048576) {v : V} (hv : VB 1048576 v) : AC Try.prog 52 [.d (encD Da), .d (encD Dz), .d (encV v)] none (fun r' _ => r' = .d (bD (lossP Da Dz v))) := by
  have HM := migrateS_c hDa hDz hM ((Da.length : Int) - 1) ((Dz.length : Int) - 1) hv
  have hw := migR_VB (Da := Da) (Dz := Dz) (a := (Da.length : Int) - 1) (b := (Dz.length : Int) - 1) hv
  unfold lossP
  generalize migR Da ((Da.length : Int) - 1) Dz ((Dz.length : Int) - 1) v = z at HM hw
  obtain ⟨w, ok⟩ := z
  simp only at hw ⊢
  have HB := migrateS_c hDz hDa hM ((Dz.length : Int) - 1) ((Da.length : Int) - 1) hw
  have hy := migR_VB (Da := Dz) (Dz := Da) (a := (Dz.length : Int) - 1) (b := (Da.length : Int) - 1) hw
  generalize migR Dz ((Dz.length : Int) - 1) Da ((Da.length : Int) - 1) w = y at HB hy
  obtain ⟨u, back⟩ := y
  simp only at hy ⊢
  have HE := (eqValS_c hy hv).eqv (r1 := .d (bD (eqV v u))) (by rw [eqV_comm])
  cases ok with
  | false =>
    refine calls_body Try.func52 rfl Try.call52 Try.ntmps52 (by simp) (by simp [ArgsOk]) (by simp [Rz.nkL, Rz.nk]) fun en hsz hks hk0 => ?_; refine enS ?_
    (repeat (first | refine walkS ?_ | (refine callPre ?_; (first | refine callN_funS rfl (rootS_c hDa hM) ?_ | refine callN_funS rfl (rootS_c hDz hM) ?_ | refine callN_funS rfl (HM) ?_ | refine callN_funS rfl (HB) ?_)) | (refine callPreL ?_; (first | refine callL_funS rfl (rootS_c hDa hM) ?_ | refine callL_funS rfl (rootS_c hDz hM) ?_ | refine callL_funS rfl (HM) ?_ | refine callL_funS rfl (HB) ?_))))
    (refine aw_ret ?_; (simp only [Fin, Try.results52]; refine finS ?_); exact ⟨_, _, .inl ⟨rfl, rfl⟩, List.nodup_nil, rfl⟩)
  | true =>
    cases back with
    | false =>
      refine calls_body Try.func52 rfl Try.call52 Try.ntmps52 (by simp) (by simp [ArgsOk]) (by simp [Rz.nkL, Rz.nk]) fun en hsz hks hk0 => ?_; refine enS ?_
      (repeat (first | refine walkS ?_ | (refine callPre ?_; (first | refine callN_funS rfl (rootS_c hDa hM) ?_ | refine callN_funS rfl (rootS_c hDz hM) ?_ | refine callN_funS rfl (HM) ?_ | refine callN_funS rfl (HB) ?_)) | (refine callPreL ?_; (first | refine callL_funS rfl (rootS_c hDa hM) ?_ | refine callL_funS rfl (rootS_c hDz hM) ?_ | refine callL_funS rfl (HM) ?_ | refine callL_funS rfl (HB) ?_))))
      (refine aw_ret ?_; (simp only [Fin, Try.results52]; refine finS ?_); exact ⟨_, _, .inl ⟨rfl, rfl⟩, List.nodup_nil, rfl⟩)
    | true =>
      refine calls_body Try.func52 rfl Try.call52 Try.ntmps52 (by simp) (by simp [ArgsOk]) (by simp [Rz.nkL, Rz.nk]) fun en hsz hks hk0 => ?_; refine enS ?_
      (repeat (first | refine walkS ?_ | (refine callPre ?_; (first | refine callN_funS rfl (rootS_c hDa hM) ?_ | refine callN_funS rfl (rootS_c hDz hM) ?_ | refine callN_funS rfl (HM) ?_ | refine callN_funS rfl (HB) ?_ | refine callN_funS rfl (HE) ?_)) | (refine callPreL ?_; (first | refine callL_funS rfl (rootS_c hDa hM) ?_ | refine callL_funS rfl (rootS_c hDz hM) ?_ | refine callL_funS rfl (HM) ?_ | refine callL_funS rfl (HB) ?_ | refine callL_funS rfl (HE) ?_))))
      (refine aw_ret ?_; (simp only [Fin, Try.results52]; refine finS ?_); exact ⟨_, _, .inl ⟨rfl, rfl⟩, List.nodup_nil, rfl⟩)
theorem lossI_c (hDa : DB M Da) (hDz : DB M Dz) (hM : M ≤ 1048576) {v : V} (hv : VB 1048576 v) : AC Try.prog 53 [.d (encD Da), .d (encD Dz), .d (encV v)] none (fun r' _ => r' = .d (bD (lossP Da Dz v))) := by
  have HM := migrateI_c hDa hDz hM ((Da.length : Int) - 1) ((Dz.length : Int) - 1) hv
  have hw := migR_VB (Da := Da) (Dz := Dz) (a := (Da.length : Int) - 1) (b := (Dz.length : Int) - 1) hv
  unfold lossP
  generalize migR Da ((Da.length : Int) - 1) Dz ((Dz.length : Int) - 1) v = z at HM hw
  obtain ⟨w, ok⟩ := z
  simp only at hw ⊢
  have HB := migrateI_c hDz hDa hM ((Dz.length : Int) - 1) ((Da.length : Int) - 1) hw
  have hy := migR_VB (Da := Dz) (Dz := Da) (a := (Dz.length : Int) - 1) (b := (Da.length : Int) - 1) hw
  generalize migR Dz ((Dz.length : Int) - 1) Da ((Da.length : Int) - 1) w = y at HB hy
  obtain ⟨u, back⟩ := y
  simp only at hy ⊢
  have HE := eqValI_c hv hy
  cases ok with
  | false =>
    refine calls_body Try.func53 rfl Try.call53 Try.ntmps53 (by simp) (by simp [ArgsOk]) (by simp [Rz.nkL, Rz.nk]) fun en hsz hks hk0 => ?_; refine enS ?_
    (repeat (first | refine walkS ?_ | (refine callPre ?_; (first | refine callN_funS rfl (rootI_c hDa hM) ?_ | refine callN_funS rfl (rootI_c hDz hM) ?_ | refine callN_funS rfl (HM) ?_ | refine callN_funS rfl (HB) ?_)) | (refine callPreL ?_; (first | refine callL_funS rfl (rootI_c hDa hM) ?_ | refine callL_funS rfl (rootI_c hDz hM) ?_ | refine callL_funS rfl (HM) ?_ | refine callL_funS rfl (HB) ?_))))
    refine aw_condS rfl (fun hc => ?_) (fun hc => ?_)
    · refine walkS ?_
      (refine aw_ret ?_; (simp only [Fin, Try.results53]; refine finS ?_); exact ⟨_, _, .inl ⟨rfl, rfl⟩, List.nodup_nil, rfl⟩)
    · (first | exact absurd trivial hc | exact absurd rfl hc | (cases hc; done) | omega | exact absurd hc (by decide) | (simp at hc; done))
  | true =>
    cases back with
    | false =>
      refine calls_body Try.func53 rfl Try.call53 Try.ntmps53 (by simp) (by simp [ArgsOk]) (by simp [Rz.nkL, Rz.nk]) fun en hsz hks hk0 => ?_; refine enS ?_
      (repeat (first | refine walkS ?_ | (refine callPre ?_; (first | refine callN_funS rfl (rootI_c hDa hM) ?_ | refine callN_funS rfl (rootI_c hDz hM) ?_ | refine callN_funS rfl (HM) ?_ | refine callN_funS rfl (HB) ?_)) | (refine callPreL ?_; (first | refine callL_funS rfl (rootI_c hDa hM) ?_ | refine callL_funS rfl (rootI_c hDz hM) ?_ | refine callL_funS rfl (HM) ?_ | refine callL_funS rfl (HB) ?_))))
      refine aw_condS rfl (fun hc => ?_) (fun hc => ?_)
      · (first | exact absurd trivial hc | exact absurd rfl hc | (cases hc; done) | omega | exact absurd hc (by decide) | (simp at hc; done))
      · (repeat (first | refine walkS ?_ | (refine callPre ?_; (first | refine callN_funS rfl (rootI_c hDa hM) ?_ | refine callN_funS rfl (rootI_c hDz hM) ?_ | refine callN_funS rfl (HM) ?_ | refine callN_funS rfl (HB) ?_)) | (refine callPreL ?_; (first | refine callL_funS rfl (rootI_c hDa hM) ?_ | refine callL_funS rfl (rootI_c hDz hM) ?_ | refine callL_funS rfl (HM) ?_ | refine callL_funS rfl (HB) ?_))))
        (refine aw_ret ?_; (simp only [Fin, Try.results53]; refine finS ?_); exact ⟨_, _, .inl ⟨rfl, rfl⟩, List.nodup_nil, rfl⟩)
    | true =>
      refine calls_body Try.func53 rfl Try.call53 Try.ntmps53 (by simp) (by simp [ArgsOk]) (by simp [Rz.nkL, Rz.nk]) fun en hsz hks hk0 => ?_; refine enS ?_
      (repeat (first | refine walkS ?_ | (refine callPre ?_; (first | refine callN_funS rfl (rootI_c hDa hM) ?_ | refine callN_funS rfl (rootI_c hDz hM) ?_ | refine callN_funS rfl (HM) ?_ | refine callN_funS rfl (HB) ?_)) | (refine callPreL ?_; (first | refine callL_funS rfl (rootI_c hDa hM) ?_ | refine callL_funS rfl (rootI_c hDz hM) ?_ | refine callL_funS rfl (HM) ?_ | refine callL_funS rfl (HB) ?_))))
      refine aw_condS rfl (fun hc => ?_) (fun hc => ?_)
      · (first | exact absurd trivial hc | exact absurd rfl hc | (cases hc; done) | omega | exact absurd hc (by decide) | (simp at hc; done))
      · (repeat (first | refine walkS ?_ | (refine callPre ?_; (first | refine callN_funS rfl (rootI_c hDa hM) ?_ | refine callN_funS rfl (rootI_c hDz hM) ?_ | refine callN_funS rfl (HM) ?_ | refine callN_funS rfl (HB) ?_ | refine callN_funS rfl (HE) ?_)) | (refine callPreL ?_; (first | refine callL_funS rfl (rootI_c hDa hM) ?_ | refine callL_funS rfl (rootI_c hDz hM) ?_ | refine callL_funS rfl (HM) ?_ | refine callL_funS rfl (HB) ?_ | refine callL_funS rfl (HE) ?_))))
        (refine aw_ret ?_; (simp only [Fin, Try.results53]; refine finS ?_); exact ⟨_, _, .inl ⟨rfl, rfl⟩, List.nodup_nil, rfl⟩)
end
end Go.Proofs.Ytmpokibohbhoeaa.Eng
