/-
  MigrateValue, CanMigrate: both sides.
-/
import Derived.Test.YtmpokibohbhoeaaKN66
import Derived.Test.YtmpokibohbhoeaaKN69
import Derived.Test.YtmpokibohbhoeaaKNIV
import Derived.Test.YtmpokibohbhoeaaKN40
set_option linter.unusedSimpArgs false
set_option linter.unusedVariables false
set_option linter.defProp false
set_option maxRecDepth 100000
set_option maxHeartbeats 4000000
namespace Go.Proofs.Ytmpokibohbhoeaa.Eng
open Go Go.RowKit

section
variable {M : Nat} {Da Dz : List RuleD}
theorem migS_all (hDa : DB M Da) (hDz : DB M Dz) (hM : M ≤ 1048576) (hVa : descP Da) (hVz : descP Dz) : ∀ f, MgS Da Dz f
  | 0 => fun a b v h1 _ h2 _ h3 => by omega
  | f + 1 => migS_step hDa hDz hM hVa hVz (migS_all hDa hDz hM hVa hVz f)
theorem migI_all (hDa : DB M Da) (hDz : DB M Dz) (hM : M ≤ 1048576) (hVa : descP Da) (hVz : descP Dz) : ∀ f, MgI Da Dz f
  | 0 => fun a b v h1 _ h2 _ h3 => by omega
  | f + 1 => migI_step hDa hDz hM hVa hVz (migI_all hDa hDz hM hVa hVz f)
noncomputable def migR (Da : List RuleD) (a : Int) (Dz : List RuleD) (b : Int) (v : V) : V × Bool := if isVal Da a v = true ∧ vKnown Dz b = true then mig Da Dz (Da.length + Dz.length) a b v else (V0, false)
theorem migR_VB {a b : Int} {v : V} (hv : VB 1048576 v) : VB 1048576 (migR Da a Dz b v).1 := by
  unfold migR
  split
  · rename_i h
    exact mig_VB (vKnown_spec h.2).1 _ _ _ _ hv
  · exact VB_V0
theorem isVal_spec {D : List RuleD} {i : Int} {v : V} (h : isVal D i v = true) : descP D ∧ 0 ≤ i ∧ i < D.length ∧ validV D i v = true := by
  have : (vKnown D i && validV D i v) = true := h
  rw [Bool.and_eq_true] at this
  obtain ⟨h1, h2, h3⟩ := vKnown_spec this.1
  exact ⟨h1, h2, h3, this.2⟩
private def tyF := And.intro (And.intro (And.intro (And.intro (And.intro (And.intro tb22 te106) (And.intro te107 (And.intro te22 te24))) (And.intro (And.intro te42 tf109_0) (And.intro tf109_1 (And.intro tf109_2 tf109_3)))) (And.intro (And.intro (And.intro tf109_4 tf109_5) (And.intro tf109_6 (And.intro tf109_7 tf138_0))) (And.intro (And.intro tf138_1 tf26_0) (And.intro tf44_0 (And.intro tf44_1 tf44_2))))) (And.intro (And.intro (And.intro (And.intro tk106 tk107) (And.intro tk109 (And.intro tk136 tk138))) (And.intro (And.intro tk22 tk24) (And.intro tk26 (And.intro tk3 tk4)))) (And.intro (And.intro (And.intro tk42 tk44) (And.intro tk5 (And.intro tk9 tk99))) (And.intro (And.intro tp109 tp138) (And.intro tp26 (And.intro tp44 tr106)))))) (And.intro (And.intro (And.intro (And.intro (And.intro tr107 tr109) (And.intro tr136 (And.intro tr138 tr22))) (And.intro (And.intro tr24 tr26) (And.intro tr3 (And.intro tr4 tr42)))) (And.intro (And.intro (And.intro tr44 tr5) (And.intro tr9 (And.intro tr99 tu106))) (And.intro (And.intro tu107 tu136) (And.intro tu22 (And.intro tu24 tu3))))) (And.intro (And.intro (And.intro (And.intro tu4 tu42) (And.intro tu5 (And.intro tu9 tu99))) (And.intro (And.intro tz106 tz107) (And.intro tz109 (And.intro tz136 tz138)))) (And.intro (And.intro (And.intro tz22 tz24) (And.intro tz26 (And.intro tz3 tz4))) (And.intro (And.intro tz42 tz44) (And.intro tz5 (And.intro tz9 tz99))))))
theorem migrateS_c (hDa : DB M Da) (hDz : DB M Dz) (hM : M ≤ 1048576) (a b : Int) {v : V} (hv : VB 1048576 v) : AC Try.prog 77 [.d (encD Da), .d (iD a), .d (encD Dz), .d (iD b), .d (encV v)] none (fun r' _ => r' = mgR (migR Da a Dz b v)) := by
  have HI := isValidS_c hDa hM a hv
  have HK := l7Rule_c hDz hM b
  cases h1 : isVal Da a v with
  | false =>
    rw [h1] at HI
    rw [show migR Da a Dz b v = (V0, false) by unfold migR; rw [if_neg (by rw [h1]; simp)]]
    refine calls_body Try.func77 rfl Try.call77 Try.ntmps77 (by simp) (by simp [ArgsOk]) (by simp [Rz.nkL, Rz.nk]) fun en hsz hks hk0 => ?_; refine enS ?_
    (repeat (first | refine walkS ?_ | (refine callPre ?_; (first | refine callN_funS rfl (HI) ?_ | refine callN_funS rfl (HK) ?_)) | (refine callPreL ?_; (first | refine callL_funS rfl (HI) ?_ | refine callL_funS rfl (HK) ?_))))
    refine aw_condS rfl (fun hc => ?_) (fun hc => ?_)
    · refine walkS ?_
      (refine aw_ret ?_; (simp only [Fin, Try.results77]; refine finS ?_); refine ⟨_, [], .inr (.inl ⟨.tup [encV V0, bD false], rfl, rfl, ?_⟩), List.nodup_nil, rfl⟩; exact wkDS)
    · (first | exact absurd trivial hc | exact absurd rfl hc | (cases hc; done) | omega | exact absurd hc (by decide) | (simp at hc; done))
  | true =>
    rw [h1] at HI
    cases h2 : vKnown Dz b with
    | false =>
      rw [h2] at HK
      rw [show migR Da a Dz b v = (V0, false) by unfold migR; rw [if_neg (by rw [h2]; simp)]]
      refine calls_body Try.func77 rfl Try.call77 Try.ntmps77 (by simp) (by simp [ArgsOk]) (by simp [Rz.nkL, Rz.nk]) fun en hsz hks hk0 => ?_; refine enS ?_
      (repeat (first | refine walkS ?_ | (refine callPre ?_; (first | refine callN_funS rfl (HI) ?_ | refine callN_funS rfl (HK) ?_)) | (refine callPreL ?_; (first | refine callL_funS rfl (HI) ?_ | refine callL_funS rfl (HK) ?_))))
      refine aw_condS rfl (fun hc => ?_) (fun hc => ?_)
      · refine walkS ?_
        (refine aw_ret ?_; (simp only [Fin, Try.results77]; refine finS ?_); refine ⟨_, [], .inr (.inl ⟨.tup [encV V0, bD false], rfl, rfl, ?_⟩), List.nodup_nil, rfl⟩; exact wkDS)
      · (first | exact absurd trivial hc | exact absurd rfl hc | (cases hc; done) | omega | exact absurd hc (by decide) | (simp at hc; done))
    | true =>
      rw [h2] at HK
      obtain ⟨v1, v2, v3, v4⟩ := isVal_spec h1
      obtain ⟨w1, w2, w3⟩ := vKnown_spec h2
      have HM := migS_all hDa hDz hM v1 w1 (Da.length + Dz.length) a b v v2 v3 w2 w3 (by omega) hv v4
      rw [show migR Da a Dz b v = mig Da Dz (Da.length + Dz.length) a b v by unfold migR; rw [if_pos ⟨h1, h2⟩]]
      generalize mig Da Dz (Da.length + Dz.length) a b v = z at HM
      obtain ⟨w, ok⟩ := z
      refine calls_body Try.func77 rfl Try.call77 Try.ntmps77 (by simp) (by simp [ArgsOk]) (by simp [Rz.nkL, Rz.nk]) fun en hsz hks hk0 => ?_; refine enS ?_
      (repeat (first | refine walkS ?_ | (refine callPre ?_; (first | refine callN_funS rfl (HI) ?_ | refine callN_funS rfl (HK) ?_)) | (refine callPreL ?_; (first | refine callL_funS rfl (HI) ?_ | refine callL_funS rfl (HK) ?_))))
      refine aw_condS rfl (fun hc => ?_) (fun hc => ?_)
      · (first | exact absurd trivial hc | exact absurd rfl hc | (cases hc; done) | omega | exact absurd hc (by decide) | (simp at hc; done))
      · (repeat (first | refine walkS ?_ | (refine callPre ?_; (first | refine callN_funS rfl (HM) ?_)) | (refine callPreL ?_; (first | refine callL_funS rfl (HM) ?_))))
        (refine aw_ret ?_; (simp only [Fin, Try.results77]; refine finS ?_); refine ⟨_, [], .inr (.inl ⟨.tup [encV w, bD ok], rfl, rfl, ?_⟩), List.nodup_nil, rfl⟩; exact wkDS)
theorem migrateI_c (hDa : DB M Da) (hDz : DB M Dz) (hM : M ≤ 1048576) (a b : Int) {v : V} (hv : VB 1048576 v) : AC Try.prog 78 [.d (encD Da), .d (iD a), .d (encD Dz), .d (iD b), .d (encV v)] none (fun r' _ => r' = mgR (migR Da a Dz b v)) := by
  have HI := isValidI_c hDa hM a hv
  have HK := known_c hDz hM b
  cases h2 : vKnown Dz b with
  | false =>
    rw [h2] at HK
    rw [show migR Da a Dz b v = (V0, false) by unfold migR; rw [if_neg (by rw [h2]; simp)]]
    refine calls_body Try.func78 rfl Try.call78 Try.ntmps78 (by simp) (by simp [ArgsOk]) (by simp [Rz.nkL, Rz.nk]) fun en hsz hks hk0 => ?_; refine enS ?_
    (repeat (first | refine walkS ?_ | (refine callPre ?_; (first | refine callN_funS rfl (HI) ?_ | refine callN_funS rfl (HK) ?_)) | (refine callPreL ?_; (first | refine callL_funS rfl (HI) ?_ | refine callL_funS rfl (HK) ?_))))
    refine aw_condS rfl (fun hc => ?_) (fun hc => ?_)
    · refine walkS ?_
      (refine aw_ret ?_; (simp only [Fin, Try.results78]; refine finS ?_); refine ⟨_, [], .inr (.inl ⟨.tup [encV V0, bD false], rfl, rfl, ?_⟩), List.nodup_nil, rfl⟩; exact wkDS)
    · (first | exact absurd trivial hc | exact absurd rfl hc | (cases hc; done) | omega | exact absurd hc (by decide) | (simp at hc; done))
  | true =>
    rw [h2] at HK
    cases h1 : isVal Da a v with
    | false =>
      rw [h1] at HI
      rw [show migR Da a Dz b v = (V0, false) by unfold migR; rw [if_neg (by rw [h1]; simp)]]
      refine calls_body Try.func78 rfl Try.call78 Try.ntmps78 (by simp) (by simp [ArgsOk]) (by simp [Rz.nkL, Rz.nk]) fun en hsz hks hk0 => ?_; refine enS ?_
      (repeat (first | refine walkS ?_ | (refine callPre ?_; (first | refine callN_funS rfl (HI) ?_ | refine callN_funS rfl (HK) ?_)) | (refine callPreL ?_; (first | refine callL_funS rfl (HI) ?_ | refine callL_funS rfl (HK) ?_))))
      refine aw_condS rfl (fun hc => ?_) (fun hc => ?_)
      · refine walkS ?_
        (refine aw_ret ?_; (simp only [Fin, Try.results78]; refine finS ?_); refine ⟨_, [], .inr (.inl ⟨.tup [encV V0, bD false], rfl, rfl, ?_⟩), List.nodup_nil, rfl⟩; exact wkDS)
      · (first | exact absurd trivial hc | exact absurd rfl hc | (cases hc; done) | omega | exact absurd hc (by decide) | (simp at hc; done))
    | true =>
      rw [h1] at HI
      obtain ⟨v1, v2, v3, v4⟩ := isVal_spec h1
      obtain ⟨w1, w2, w3⟩ := vKnown_spec h2
      have HM := migI_all hDa hDz hM v1 w1 (Da.length + Dz.length) a b v v2 v3 w2 w3 (by omega) hv v4
      rw [show migR Da a Dz b v = mig Da Dz (Da.length + Dz.length) a b v by unfold migR; rw [if_pos ⟨h1, h2⟩]]
      generalize mig Da Dz (Da.length + Dz.length) a b v = z at HM
      obtain ⟨w, ok⟩ := z
      refine calls_body Try.func78 rfl Try.call78 Try.ntmps78 (by simp) (by simp [ArgsOk]) (by simp [Rz.nkL, Rz.nk]) fun en hsz hks hk0 => ?_; refine enS ?_
      (repeat (first | refine walkS ?_ | (refine callPre ?_; (first | refine callN_funS rfl (HI) ?_ | refine callN_funS rfl (HK) ?_)) | (refine callPreL ?_; (first | refine callL_funS rfl (HI) ?_ | refine callL_funS rfl (HK) ?_))))
      refine aw_condS rfl (fun hc => ?_) (fun hc => ?_)
      · (first | exact absurd trivial hc | exact absurd rfl hc | (cases hc; done) | omega | exact absurd hc (by decide) | (simp at hc; done))
      · refine walkS ?_
        refine ow_freezeB 9 48 (encVc v) rfl rfl hks (by decide) ?_
        dsimp only
        refine ow_freezeB 29 112 [encDs Da, encDs Dz] rfl rfl hks (by decide) ?_
        dsimp only
        (repeat (first | refine walkS ?_ | (refine callPre ?_; (first | refine callN_funS rfl (HM) ?_)) | (refine callPreL ?_; (first | refine callL_funS rfl (HM) ?_))))
        (refine aw_ret ?_; (simp only [Fin, Try.results78]; refine finS ?_); refine ⟨_, [], .inr (.inl ⟨.tup [encV w, bD ok], rfl, rfl, ?_⟩), List.nodup_nil, rfl⟩; exact wkDS)
theorem canMS_c (hDa : DB M Da) (hDz : DB M Dz) (hM : M ≤ 1048576) {v : V} (hv : VB 1048576 v) : AC Try.prog 39 [.d (encD Da), .d (encD Dz), .d (encV v)] none (fun r' _ => r' = .d (bD (migR Da ((Da.length : Int) - 1) Dz ((Dz.length : Int) - 1) v).2)) := by
  have HM := migrateS_c hDa hDz hM ((Da.length : Int) - 1) ((Dz.length : Int) - 1) hv
  generalize migR Da ((Da.length : Int) - 1) Dz ((Dz.length : Int) - 1) v = z at HM
  obtain ⟨w, ok⟩ := z
  refine calls_body Try.func39 rfl Try.call39 Try.ntmps39 (by simp) (by simp [ArgsOk]) (by simp [Rz.nkL, Rz.nk]) fun en hsz hks hk0 => ?_; refine enS ?_
  (repeat (first | refine walkS ?_ | (refine callPre ?_; (first | refine callN_funS rfl (rootS_c hDa hM) ?_ | refine callN_funS rfl (rootS_c hDz hM) ?_ | refine callN_funS rfl (HM) ?_)) | (refine callPreL ?_; (first | refine callL_funS rfl (rootS_c hDa hM) ?_ | refine callL_funS rfl (rootS_c hDz hM) ?_ | refine callL_funS rfl (HM) ?_))))
  (refine aw_ret ?_; (simp only [Fin, Try.results39]; refine finS ?_); exact ⟨_, _, .inl ⟨rfl, rfl⟩, List.nodup_nil, rfl⟩)
theorem canMI_c (hDa : DB M Da) (hDz : DB M Dz) (hM : M ≤ 1048576) {v : V} (hv : VB 1048576 v) : AC Try.prog 40 [.d (encD Da), .d (encD Dz), .d (encV v)] none (fun r' _ => r' = .d (bD (migR Da ((Da.length : Int) - 1) Dz ((Dz.length : Int) - 1) v).2)) := by
  have HM := migrateI_c hDa hDz hM ((Da.length : Int) - 1) ((Dz.length : Int) - 1) hv
  generalize migR Da ((Da.length : Int) - 1) Dz ((Dz.length : Int) - 1) v = z at HM
  obtain ⟨w, ok⟩ := z
  refine calls_body Try.func40 rfl Try.call40 Try.ntmps40 (by simp) (by simp [ArgsOk]) (by simp [Rz.nkL, Rz.nk]) fun en hsz hks hk0 => ?_; refine enS ?_
  (repeat (first | refine walkS ?_ | (refine callPre ?_; (first | refine callN_funS rfl (rootI_c hDa hM) ?_ | refine callN_funS rfl (rootI_c hDz hM) ?_ | refine callN_funS rfl (HM) ?_)) | (refine callPreL ?_; (first | refine callL_funS rfl (rootI_c hDa hM) ?_ | refine callL_funS rfl (rootI_c hDz hM) ?_ | refine callL_funS rfl (HM) ?_))))
  (refine aw_ret ?_; (simp only [Fin, Try.results40]; refine finS ?_); exact ⟨_, _, .inl ⟨rfl, rfl⟩, List.nodup_nil, rfl⟩)
end
end Go.Proofs.Ytmpokibohbhoeaa.Eng
