/-
  The law: PrintFile.
-/
import Derived.Test.YtmpokibohbhoeaaKLQ
import Derived.Test.YtmpokibohbhoeaaKN53
set_option linter.unusedSimpArgs false
set_option linter.unusedVariables false
set_option linter.defProp false
namespace Go.Proofs.Ytmpokibohbhoeaa.Eng
open Go Go.RowKit

private def tyF := And.intro (And.intro (And.intro (And.intro (And.intro (And.intro tb22 (And.intro te106 te107)) (And.intro te22 (And.intro te24 te32))) (And.intro (And.intro te35 (And.intro te42 tf109_0)) (And.intro tf109_1 (And.intro tf109_2 tf109_3)))) (And.intro (And.intro (And.intro tf109_4 (And.intro tf109_5 tf109_6)) (And.intro tf109_7 (And.intro tf118_0 tf118_1))) (And.intro (And.intro tf118_2 (And.intro tf118_3 tf118_4)) (And.intro (And.intro tf118_5 tf118_6) (And.intro tf118_7 tf26_0))))) (And.intro (And.intro (And.intro (And.intro tf34_0 (And.intro tf37_0 tf37_1)) (And.intro tf37_2 (And.intro tf44_0 tf44_1))) (And.intro (And.intro tf44_2 (And.intro tk106 tk107)) (And.intro tk109 (And.intro tk118 tk22)))) (And.intro (And.intro (And.intro tk24 (And.intro tk26 tk3)) (And.intro tk32 (And.intro tk34 tk35))) (And.intro (And.intro tk37 (And.intro tk4 tk42)) (And.intro (And.intro tk44 tk5) (And.intro tk9 tp109)))))) (And.intro (And.intro (And.intro (And.intro (And.intro tp118 (And.intro tp26 tp34)) (And.intro tp37 (And.intro tp44 tr106))) (And.intro (And.intro tr107 (And.intro tr109 tr118)) (And.intro tr22 (And.intro tr24 tr26)))) (And.intro (And.intro (And.intro tr3 (And.intro tr32 tr34)) (And.intro tr35 (And.intro tr37 tr4))) (And.intro (And.intro tr42 (And.intro tr44 tr5)) (And.intro (And.intro tr9 tu106) (And.intro tu107 tu22))))) (And.intro (And.intro (And.intro (And.intro tu24 (And.intro tu3 tu32)) (And.intro tu35 (And.intro tu4 tu42))) (And.intro (And.intro tu5 (And.intro tu9 tz106)) (And.intro tz107 (And.intro tz109 tz118)))) (And.intro (And.intro (And.intro tz22 (And.intro tz24 tz26)) (And.intro tz3 (And.intro tz32 tz34))) (And.intro (And.intro tz35 (And.intro tz37 tz4)) (And.intro (And.intro tz42 tz44) (And.intro tz5 tz9))))))
set_option maxRecDepth 100000 in
set_option maxHeartbeats 4000000 in
theorem lawPrintFile_c {D : List RuleD} (hD : DB 9223372036854775807 D) {v : V} (hv0 : VB 9223372036854775807 v) : AC Try.prog 9 [.d (encD D), .d (encV v)] none (fun r' _ => r' = .d (bD true)) := by
  have a1 := lftDs_le (x := 1048576) (D := D) (by omega)
  have HZ := fun (x : Int) (hx : 0 ≤ x ∧ x ≤ 1048576) => szValue_c hv0 x hx
  obtain ⟨n, bs, vs⟩ := v
  have hvv := encV_mk n bs vs
  rw [encVs_eq] at hvv
  simp only [hvv] at HZ ⊢
  refine calls_bodyL Try.func9 rfl Try.call9 Try.ntmps9 (by simp) (by simp [ArgsOk]) fun en hsz hcok hX hks => ?_; simp only [St.init, frOf, Rz.addSL, Rz.addS, Rz.toAL, Rz.toA, Rz.nk, List.zipIdx_cons, List.zipIdx_nil, List.map_cons, List.map_nil, Nat.zero_add, Nat.reduceAdd]
  (repeat (first | refine walkS ?_ | (refine callPre ?_; (first | refine callN_funS rfl (szDescription_c hD 1048576 (by omega)) ?_)) | (refine callPreL ?_; (first | refine callL_funS rfl (szDescription_c hD 1048576 (by omega)) ?_))))
  refine aw_condS rfl (fun h1 => ?_) (fun h1 => ?_)
  · refine walkS ?_
    (refine aw_ret ?_; (simp only [Fin, Try.results9]; refine finS ?_); exact ⟨_, _, .inl ⟨rfl, rfl⟩, List.nodup_nil, rfl⟩)
  have hDM : DB 1048576 D := lftDs_ge (x := 1048576) (by omega) (by omega) (by omega)
  have hcn := cntRs_DB hDM
  (repeat (first | refine walkS ?_ | (refine callPre ?_; (first | refine callN_funS rfl (HZ (lftDs 1048576 D) (by omega)) ?_)) | (refine callPreL ?_; (first | refine callL_funS rfl (HZ (lftDs 1048576 D) (by omega)) ?_))))
  refine aw_condS rfl (fun h2 => ?_) (fun h2 => ?_)
  · refine walkS ?_
    (refine aw_ret ?_; (simp only [Fin, Try.results9]; refine finS ?_); exact ⟨_, _, .inl ⟨rfl, rfl⟩, List.nodup_nil, rfl⟩)
  have hvM : VB 1048576 (.mk n bs vs) := lftV_ge (x := lftDs 1048576 D) (by omega) (by omega) (by omega)
  have ht := lftV_tot (x := lftDs 1048576 D) (v := .mk n bs vs) (by omega) (by omega)
  have HS := AC.ownd2 (printFS_c hDM (Nat.le_refl _) hvM (by omega))
  have HI := printFI_c hDM (Nat.le_refl _) hvM (by omega)
  have HI2 := AC.ownd2 HI
  have HT := toValue_c hvM
  have HTd := toValue_d hvM
  have HE := eqValue_c hvM
  have HM := fun (k : Int) (h0 : 0 ≤ k) (hk : k ≤ 4398050705409) => markV_m (v := .mk n bs vs) (k := k) h0 (by omega)
  have hTl := prR_len D ((D.length : Int) - 1) (.mk n bs vs)
  have htt : totV (.mk n bs vs) ≤ 1048576 := by omega
  generalize totV (.mk n bs vs) = tt at HM htt
  generalize prR D ((D.length : Int) - 1) (V.mk n bs vs) = T at HS HI HI2 hTl
  obtain ⟨out, ok⟩ := T
  simp only [hvv] at HS HI HI2 HT HE HM
  rw [encVs_eq] at HTd
  simp only at hTl HS HI2
  (repeat (first | refine walkS ?_ | (refine callPreL ?_; (first | refine callL_funS rfl (toDescription_c hDM (Nat.le_refl _)) ?_ | refine callL_funS rfl (HT) ?_ | refine callL_funS rfl (HS) ?_))))
  (refine ow_callDA [6] [16, 32] ?_ (fun x hx => by cases hx <;> (rw [hsz]; decide)) rfl (ACD.iv ((toDescription_n hDM (Nat.le_refl _)).acd) ?_) (fun n hn => ?_); (first | exact trivial | exact rfl); (repeat (first | exact IvL.nil | refine IvL.iv ?_ | refine IvL.agg1 ?_ | refine IvL.aggV ?_ | refine IvL.agg3 ?_ | refine IvL.same ?_)); simp (decide := true) only [St.bound, boundA_iv, boundA_sl, boundA_B, boundA_I, boundA_S, boundA_Ds, boundA_v, St.f, lk, St.set, rzI, rzIL, reduceIte, List.map_cons, List.map_nil, List.cons_append, List.nil_append, Option.map_some, Option.map_none])
  refine walkS ?_
  (refine ow_callDA [6] [16, 32, 240] ?_ (fun x hx => by cases hx <;> (rw [hsz]; decide)) rfl (ACD.iv (HTd) ?_) (fun n hn => ?_); (first | exact trivial | exact rfl); (repeat (first | exact IvL.nil | refine IvL.iv ?_ | refine IvL.agg1 ?_ | refine IvL.aggV ?_ | refine IvL.agg3 ?_ | refine IvL.same ?_)); simp (decide := true) only [St.bound, boundA_iv, boundA_sl, boundA_B, boundA_I, boundA_S, boundA_Ds, boundA_v, St.f, lk, St.set, rzI, rzIL, reduceIte, List.map_cons, List.map_nil, List.cons_append, List.nil_append, Option.map_some, Option.map_none])
  refine walkS ?_
  (refine ow_callDA [6] [16, 32, 240, 256] ?_ (fun x hx => by cases hx <;> (rw [hsz]; decide)) rfl (ACD.iv (HI.acd (prRz_ok _)) ?_) (fun n hn => ?_); (first | exact trivial | exact rfl); (repeat (first | exact IvL.nil | refine IvL.iv ?_ | refine IvL.agg1 ?_ | refine IvL.aggV ?_ | refine IvL.agg3 ?_ | refine IvL.same ?_)); simp (decide := true) only [St.bound, boundA_iv, boundA_sl, boundA_B, boundA_I, boundA_S, boundA_Ds, boundA_v, St.f, lk, St.set, rzI, rzIL, reduceIte, List.map_cons, List.map_nil, List.cons_append, List.nil_append, Option.map_some, Option.map_none])
  (repeat (first | refine walkS ?_ | (refine callPre ?_; (first | refine callN_funS rfl (AC.iv (eqByteS_c (l := out) (by omega))) ?_)) | (refine callPreL ?_; (first | refine callL_funS rfl (AC.iv (eqByteS_c (l := out) (by omega))) ?_))))
  refine aw_condS rfl (fun h3 => ?_) (fun h3 => ?_)
  · (first | exact absurd trivial h3 | exact absurd rfl h3 | (cases h3; done) | omega | exact absurd h3 (by decide) | (simp at h3; done))
  (repeat (first | refine walkS ?_ | (refine callPre ?_; (first | refine callN_funS rfl (AC.iv (toDescription_c hDM (Nat.le_refl _))) ?_ | refine callN_funS rfl (AC.iv (eqDescription_c hDM (Nat.le_refl _))) ?_)) | (refine callPreL ?_; (first | refine callL_funS rfl (AC.iv (toDescription_c hDM (Nat.le_refl _))) ?_ | refine callL_funS rfl (AC.iv (eqDescription_c hDM (Nat.le_refl _))) ?_))))
  refine aw_condS rfl (fun h4 => ?_) (fun h4 => ?_)
  · (first | exact absurd trivial h4 | exact absurd rfl h4 | (cases h4; done) | omega | exact absurd h4 (by decide) | (simp at h4; done))
  (repeat (first | refine walkS ?_ | (refine callPre ?_; (first | refine callN_funS rfl (AC.ivV HT) ?_ | refine callN_funS rfl (AC.ivV HE) ?_)) | (refine callPreL ?_; (first | refine callL_funS rfl (AC.ivV HT) ?_ | refine callL_funS rfl (AC.ivV HE) ?_))))
  refine aw_condS rfl (fun h5 => ?_) (fun h5 => ?_)
  · (first | exact absurd trivial h5 | exact absurd rfl h5 | (cases h5; done) | omega | exact absurd h5 (by decide) | (simp at h5; done))
  refine walkS ?_
  (refine ow_mark [2, 3, 6, 7, 9, 10, 11, 12] [16, 32, 256] ?_ (fun x hx => by cases hx <;> (rw [hsz]; decide)) rfl rfl rfl ⟨markD_1 (by omega), on_agg1, hcok, (by intro b h; (try dsimp only at h); omega), (by (repeat (refine And.intro (by first | exact Safe.v | exact Safe.ptr | exact Safe.iv (by intro b h1 h2; (try dsimp only at h1 h2); omega) | exact Safe.top) ?_)); exact trivial), (by (repeat (refine And.intro (by intro cs hcs; cases hcs; (repeat (refine And.intro (by first | exact Safe.v | exact Safe.ptr | exact Safe.iv (by intro b h1 h2; (try dsimp only at h1 h2); omega) | exact Safe.top) ?_)); exact trivial) ?_)); exact trivial)⟩ ?_; (first | exact trivial | exact rfl); simp (decide := true) only [St.keep, St.f, lk, St.set, reduceIte, List.map_cons, List.map_nil, List.cons_append, List.nil_append])
  refine walkS ?_
  (refine ow_mark [2, 3, 6, 7, 10, 11, 12] [16, 32] ?_ (fun x hx => by cases hx <;> (rw [hsz]; decide)) rfl rfl rfl ⟨HM _ (by omega) (by omega), on_agg3, hcok, (by intro b h; (try dsimp only at h); omega), (by (repeat (refine And.intro (by first | exact Safe.v | exact Safe.ptr | exact Safe.iv (by intro b h1 h2; (try dsimp only at h1 h2); omega) | exact Safe.top) ?_)); exact trivial), (by (repeat (refine And.intro (by intro cs hcs; cases hcs; (repeat (refine And.intro (by first | exact Safe.v | exact Safe.ptr | exact Safe.iv (by intro b h1 h2; (try dsimp only at h1 h2); omega) | exact Safe.top) ?_)); exact trivial) ?_)); exact trivial)⟩ ?_; (first | exact trivial | exact rfl); simp (decide := true) only [St.keep, St.f, lk, St.set, reduceIte, List.map_cons, List.map_nil, List.cons_append, List.nil_append])
  have e1 : decide (1 + (cntRs D : Int) + tt < 0) = false := decide_eq_false (by omega)
  (repeat (first | refine ctlS ?_ | (refine ol_go ?_ (fun K1 hK1 => ?_); (first | exact trivial | exact rfl); refine evS ?_; (try simp only [e1]); refine hK1 _ _ ?_; clear hK1 K1) | (refine ow_go ?_ (fun x hx => by cases hx <;> (rw [hsz]; decide)) (fun K1 hK1 => ?_); (first | exact trivial | exact rfl); refine evS ?_; (try simp only [e1]); refine hK1 _ ?_; clear hK1 K1) | refine skipS ?_ | (refine callPre ?_; (first | refine callN_funS rfl (AC.iv (eqByteS_c (l := out) (by omega))) ?_)) | (refine callPreL ?_; (first | refine callL_funS rfl (AC.iv (eqByteS_c (l := out) (by omega))) ?_))))
  refine aw_condS rfl (fun h6 => ?_) (fun h6 => ?_)
  · (first | exact absurd trivial h6 | exact absurd rfl h6 | (cases h6; done) | omega | exact absurd h6 (by decide) | (simp at h6; done))
  (iterate 7 (first | refine aw_seq ?_ | refine aw_region ?_ | refine aw_block ?_ | (refine aw_exit ?_; (try simp (decide := true) only [reduceIte])) | (refine aw_skip ?_; try dsimp only) | (refine aw_any (by kernel_rfl) (by kernel_rfl) (by simp only [hsz]; kernel_rfl) ?_) | (refine ow_nil ?_; try dsimp only) | (refine ol_go ?_ (fun K1 hK1 => ?_); (first | exact trivial | exact rfl); refine evS ?_; refine hK1 _ _ ?_; clear hK1 K1) | (refine ol_skip rfl rfl ?_ ?_; (focus (intro hne; cases hne; done)); simp only [St.set]) | (refine ol_nil ⟨by kernel_rfl, ?_⟩; try dsimp only) | (refine ow_go ?_ (fun x hx => by cases hx <;> (rw [hsz]; decide)) (fun K1 hK1 => ?_); (first | exact trivial | exact rfl); refine evS ?_; refine hK1 _ ?_; clear hK1 K1) | (refine ow_skip rfl rfl ?_ (fun x hx => by cases hx <;> (rw [hsz]; decide)) ?_; (focus (intro hne; cases hne; done)); simp only [St.set])))
  (refine ow_mark3 [2, 3, 6, 7] [16, 32] rfl rfl rfl rfl rfl rfl rfl rfl (by rw [hsz]; decide) (by rw [hsz]; decide) (by rw [hsz]; decide) (by decide) rfl rfl rfl ⟨markB_x (l := out) (k := 1) (by omega) (by omega), on_iv, hcok, (by intro b h; (try dsimp only at h); omega), (by (repeat (refine And.intro (by first | exact Safe.v | exact Safe.ptr | exact Safe.iv (by intro b h1 h2; (try dsimp only at h1 h2); omega) | exact Safe.top) ?_)); exact trivial), (by (repeat (refine And.intro (by intro cs hcs; cases hcs; (repeat (refine And.intro (by first | exact Safe.v | exact Safe.ptr | exact Safe.iv (by intro b h1 h2; (try dsimp only at h1 h2); omega) | exact Safe.top) ?_)); exact trivial) ?_)); exact trivial)⟩ ?_; simp (decide := true) only [St.keep, St.f, lk, St.set, reduceIte, List.map_cons, List.map_nil, List.cons_append, List.nil_append])
  have HH := heldB_c (k := 1) (n := out.length) (by omega) (by omega)
  (repeat (first | refine walkS ?_ | (refine callPre ?_; (first | refine callN_funS rfl (AC.iv HH) ?_)) | (refine callPreL ?_; (first | refine callL_funS rfl (AC.iv HH) ?_))))
  refine aw_condS rfl (fun h7 => ?_) (fun h7 => ?_)
  · (first | exact absurd trivial h7 | exact absurd rfl h7 | (cases h7; done) | omega | exact absurd h7 (by decide) | (simp at h7; done))
  refine walkS ?_
  refine aw_condS rfl (fun h8 => ?_) (fun h8 => ?_)
  · (first | exact absurd trivial h8 | exact absurd rfl h8 | (cases h8; done) | omega | exact absurd h8 (by decide) | (simp at h8; done))
  (repeat (first | refine walkS ?_ | (refine callPre ?_; (first | refine callN_funS rfl (AC.iv (toDescription_c hDM (Nat.le_refl _))) ?_ | refine callN_funS rfl (AC.ivV HT) ?_ | refine callN_funS rfl (HI2) ?_)) | (refine callPreL ?_; (first | refine callL_funS rfl (AC.iv (toDescription_c hDM (Nat.le_refl _))) ?_ | refine callL_funS rfl (AC.ivV HT) ?_ | refine callL_funS rfl (HI2) ?_))))
  (repeat (first | refine walkS ?_ | (refine callPre ?_; (first | refine callN_funS rfl (AC.iv (eqByteS_c (l := out) (by omega))) ?_)) | (refine callPreL ?_; (first | refine callL_funS rfl (AC.iv (eqByteS_c (l := out) (by omega))) ?_))))
  refine aw_condS rfl (fun h9 => ?_) (fun h9 => ?_)
  · (first | exact absurd trivial h9 | exact absurd rfl h9 | (cases h9; done) | omega | exact absurd h9 (by decide) | (simp at h9; done))
  (repeat (first | refine walkS ?_ | (refine callPre ?_; (first | refine callN_funS rfl (AC.iv HH) ?_)) | (refine callPreL ?_; (first | refine callL_funS rfl (AC.iv HH) ?_))))
  refine aw_condS rfl (fun h10 => ?_) (fun h10 => ?_)
  · (first | exact absurd trivial h10 | exact absurd rfl h10 | (cases h10; done) | omega | exact absurd h10 (by decide) | (simp at h10; done))
  refine walkS ?_
  refine aw_condS rfl (fun h11 => ?_) (fun h11 => ?_)
  · (first | exact absurd trivial h11 | exact absurd rfl h11 | (cases h11; done) | omega | exact absurd h11 (by decide) | (simp at h11; done))
  · refine walkS ?_
    (refine aw_ret ?_; (simp only [Fin, Try.results9]; refine finS ?_); exact ⟨_, _, .inl ⟨rfl, rfl⟩, List.nodup_nil, rfl⟩)
end Go.Proofs.Ytmpokibohbhoeaa.Eng
