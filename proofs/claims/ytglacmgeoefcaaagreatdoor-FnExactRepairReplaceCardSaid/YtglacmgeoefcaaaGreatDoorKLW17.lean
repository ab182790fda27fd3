/-
  The law: RepairReplace.
-/
import Derived.Test.YtglacmgeoefcaaaGreatDoorKL
import Derived.Test.YtglacmgeoefcaaaGreatDoorKLQ
import Derived.Test.YtglacmgeoefcaaaGreatDoorKLM
import Derived.Test.YtglacmgeoefcaaaGreatDoorKM13
import Derived.Test.YtglacmgeoefcaaaGreatDoorKNR3
import Derived.Test.YtglacmgeoefcaaaGreatDoorKNR4
set_option linter.unusedSimpArgs false
set_option linter.unusedVariables false
set_option linter.defProp false
set_option maxRecDepth 100000
set_option maxHeartbeats 4000000
namespace Go.Proofs.YtglacmgeoefcaaaGreatDoor.Eng
open Go Go.RowKit

private def tyF := And.intro (And.intro (And.intro (And.intro (And.intro (And.intro tb22 te22) (And.intro te24 (And.intro te30 te94))) (And.intro (And.intro te96 tf110_0) (And.intro tf110_1 (And.intro tf110_2 tf110_3)))) (And.intro (And.intro (And.intro tf110_4 tf110_5) (And.intro tf110_6 (And.intro tf110_7 tf111_0))) (And.intro (And.intro tf111_1 (And.intro tf111_2 tf111_3)) (And.intro tf111_4 (And.intro tf111_5 tf111_6))))) (And.intro (And.intro (And.intro (And.intro tf111_7 tf26_0) (And.intro tf32_0 (And.intro tf51_0 tf51_1))) (And.intro (And.intro tf51_2 tk110) (And.intro tk111 (And.intro tk22 tk24)))) (And.intro (And.intro (And.intro tk26 tk3) (And.intro tk30 (And.intro tk32 tk4))) (And.intro (And.intro tk5 (And.intro tk51 tk9)) (And.intro tk94 (And.intro tk96 tp110)))))) (And.intro (And.intro (And.intro (And.intro (And.intro tp111 tp26) (And.intro tp32 (And.intro tp51 tq51))) (And.intro (And.intro tr110 tr111) (And.intro tr22 (And.intro tr24 tr26)))) (And.intro (And.intro (And.intro tr3 tr30) (And.intro tr32 (And.intro tr4 tr5))) (And.intro (And.intro tr51 (And.intro tr9 tr94)) (And.intro tr96 (And.intro tu22 tu24))))) (And.intro (And.intro (And.intro (And.intro tu3 tu30) (And.intro tu4 (And.intro tu5 tu9))) (And.intro (And.intro tu94 tu96) (And.intro tz110 (And.intro tz111 tz22)))) (And.intro (And.intro (And.intro tz24 tz26) (And.intro tz3 (And.intro tz30 tz32))) (And.intro (And.intro tz4 (And.intro tz5 tz51)) (And.intro tz9 (And.intro tz94 tz96))))))
theorem lawRepR_c {D : List RuleD} (hD : DB 9223372036854775807 D) {b : List UInt8} (hb0 : b.length ≤ 9223372036854775807) : AC Tryz.prog 6 [.d (encD D), .d (encB b)] none (fun r' _ => r' = .d (bD true)) := by
  refine calls_bodyL Tryz.func6 rfl Tryz.call6 Tryz.ntmps6 (by simp) (by simp [ArgsOk]) fun en hsz hcok hX hks => ?_; refine enS ?_
  refine walkS ?_
  refine aw_condS rfl (fun h0 => ?_) (fun h0 => ?_)
  · refine walkS ?_
    (refine aw_ret ?_; (simp only [Fin, Tryz.results6]; refine finS ?_); exact ⟨_, _, .inl ⟨rfl, rfl⟩, List.nodup_nil, rfl⟩)
  have hb : b.length ≤ 1048576 := by omega
  (repeat (first | refine walkS ?_ | (refine callPre ?_; (first | refine callN_funS rfl (szDescription_c hD 1048576 (by omega)) ?_)) | (refine callPreL ?_; (first | refine callL_funS rfl (szDescription_c hD 1048576 (by omega)) ?_))))
  refine aw_condS rfl (fun h1 => ?_) (fun h1 => ?_)
  · refine walkS ?_
    (refine aw_ret ?_; (simp only [Fin, Tryz.results6]; refine finS ?_); exact ⟨_, _, .inl ⟨rfl, rfl⟩, List.nodup_nil, rfl⟩)
  have hDM : DB 1048576 D := lftDs_ge (x := 1048576) (by omega) (by omega) (by omega)
  have hcn := cntRs_DB hDM
  have HS := repRS_c hDM (Nat.le_refl _) hb
  have HI := repRI_n hDM (Nat.le_refl _) hb
  have hTl := repR_lim (F := fileP D) hb
  generalize repR (fileP D) b = T at HS HI hTl
  obtain ⟨out, ⟨mk, mi, mc⟩, ok⟩ := T
  simp only at hTl HS HI
  have EM := eqMut_c mk mi mc
  have eo : (ok == ok) = true := by simp
  (repeat (first | refine walkS ?_ | (refine callPre ?_; (first | refine callN_funS rfl (toDescription_c hDM (Nat.le_refl _)) ?_ | refine callN_funS rfl (toByteS_c hb) ?_)) | (refine callPreL ?_; (first | refine callL_funS rfl (toDescription_c hDM (Nat.le_refl _)) ?_ | refine callL_funS rfl (toByteS_c hb) ?_))))
  (repeat (first | refine walkS ?_ | (refine callPre ?_; (first | refine callN_funS rfl (HS) ?_)) | (refine callPreL ?_; (first | refine callL_funS rfl (HS) ?_))))
  (refine ow_callDA [1, 6] [16] ?_ (fun x hx => by cases hx <;> (rw [hsz]; decide)) rfl (ACD.iv ((toDescription_n hDM (Nat.le_refl _)).acd) ?_) (fun n hn => ?_); (first | exact trivial | exact rfl); (repeat (first | exact IvL.nil | refine IvL.iv ?_ | refine IvL.agg1 ?_ | refine IvL.aggV ?_ | refine IvL.agg3 ?_ | refine IvL.same ?_)); simp (decide := true) only [St.bound, boundA_iv, boundA_sl, boundA_B, boundA_I, boundA_S, boundA_Ds, boundA_v, St.f, lk, St.set, rzI, rzIL, reduceIte, List.map_cons, List.map_nil, List.cons_append, List.nil_append, Option.map_some, Option.map_none])
  refine walkS ?_
  (refine ow_callDA [1, 6] [16, 112] ?_ (fun x hx => by cases hx <;> (rw [hsz]; decide)) rfl (ACD.iv ((toByteS_i hb).acd) ?_) (fun n hn => ?_); (first | exact trivial | exact rfl); (repeat (first | exact IvL.nil | refine IvL.iv ?_ | refine IvL.agg1 ?_ | refine IvL.aggV ?_ | refine IvL.agg3 ?_ | refine IvL.same ?_)); simp (decide := true) only [St.bound, boundA_iv, boundA_sl, boundA_B, boundA_I, boundA_S, boundA_Ds, boundA_v, St.f, lk, St.set, rzI, rzIL, reduceIte, List.map_cons, List.map_nil, List.cons_append, List.nil_append, Option.map_some, Option.map_none])
  refine walkS ?_
  (refine ow_callDA [1, 6, 10] [16, 112] ?_ (fun x hx => by cases hx <;> (rw [hsz]; decide)) rfl (ACD.iv (HI.acd) ?_) (fun n hn => ?_); (first | exact trivial | exact rfl); (repeat (first | exact IvL.nil | refine IvL.iv ?_ | refine IvL.agg1 ?_ | refine IvL.aggV ?_ | refine IvL.agg3 ?_ | refine IvL.same ?_)); simp (decide := true) only [St.bound, boundA_iv, boundA_sl, boundA_B, boundA_I, boundA_S, boundA_Ds, boundA_v, St.f, lk, St.set, rzI, rzIL, reduceIte, List.map_cons, List.map_nil, List.cons_append, List.nil_append, Option.map_some, Option.map_none])
  (repeat (first | refine ctlS ?_ | (refine ol_go ?_ (fun K1 hK1 => ?_); (first | exact trivial | exact rfl); refine evS ?_; (try simp only [eo]); refine hK1 _ _ ?_; clear hK1 K1) | (refine ow_go ?_ (fun x hx => by cases hx <;> (rw [hsz]; decide)) (fun K1 hK1 => ?_); (first | exact trivial | exact rfl); refine evS ?_; (try simp only [eo]); refine hK1 _ ?_; clear hK1 K1) | refine skipS ?_ | (refine callPre ?_; (first | refine callN_funS rfl (AC.iv (eqByteS_c (l := out) (by omega))) ?_ | refine callN_funS rfl (EM) ?_)) | (refine callPreL ?_; (first | refine callL_funS rfl (AC.iv (eqByteS_c (l := out) (by omega))) ?_ | refine callL_funS rfl (EM) ?_)) | refine aw_condT rfl ?_ | refine aw_condF rfl ?_))
  (repeat (first | refine walkS ?_ | (refine callPre ?_; (first | refine callN_funS rfl (AC.iv (toDescription_c hDM (Nat.le_refl _))) ?_ | refine callN_funS rfl (AC.iv (eqDescription_c hDM (Nat.le_refl _))) ?_)) | (refine callPreL ?_; (first | refine callL_funS rfl (AC.iv (toDescription_c hDM (Nat.le_refl _))) ?_ | refine callL_funS rfl (AC.iv (eqDescription_c hDM (Nat.le_refl _))) ?_)) | refine aw_condT rfl ?_ | refine aw_condF rfl ?_))
  (repeat (first | refine walkS ?_ | (refine callPre ?_; (first | refine callN_funS rfl (AC.iv (toByteS_c hb)) ?_ | refine callN_funS rfl (AC.iv (eqByteS_c hb)) ?_)) | (refine callPreL ?_; (first | refine callL_funS rfl (AC.iv (toByteS_c hb)) ?_ | refine callL_funS rfl (AC.iv (eqByteS_c hb)) ?_)) | refine aw_condT rfl ?_ | refine aw_condF rfl ?_))
  (refine ow_mark [1, 2, 6, 7, 8, 10, 11, 12, 13, 14] [16, 96, 128] ?_ (fun x hx => by cases hx <;> (rw [hsz]; decide)) rfl rfl rfl ⟨markD_1 (by omega), on_agg1, hcok, (by intro b h; (try dsimp only at h); omega), (by (repeat (refine And.intro (by first | exact Safe.v | exact Safe.ptr | exact Safe.iv (by intro b h1 h2; (try dsimp only at h1 h2); omega) | exact Safe.top) ?_)); exact trivial), (by (repeat (refine And.intro (by intro cs hcs; cases hcs; (repeat (refine And.intro (by first | exact Safe.v | exact Safe.ptr | exact Safe.iv (by intro b h1 h2; (try dsimp only at h1 h2); omega) | exact Safe.top) ?_)); exact trivial) ?_)); exact trivial)⟩ ?_; (first | exact trivial | exact rfl); simp (decide := true) only [St.keep, St.f, lk, St.set, reduceIte, List.map_cons, List.map_nil, List.cons_append, List.nil_append])
  refine walkS ?_
  (refine ow_mark [1, 2, 6, 7, 8, 11, 12, 13] [16, 96, 128] ?_ (fun x hx => by cases hx <;> (rw [hsz]; decide)) rfl rfl rfl ⟨markB_m (l := b) (by omega) (by omega), on_iv, hcok, (by intro b h; (try dsimp only at h); omega), (by (repeat (refine And.intro (by first | exact Safe.v | exact Safe.ptr | exact Safe.iv (by intro b h1 h2; (try dsimp only at h1 h2); omega) | exact Safe.top) ?_)); exact trivial), (by (repeat (refine And.intro (by intro cs hcs; cases hcs; (repeat (refine And.intro (by first | exact Safe.v | exact Safe.ptr | exact Safe.iv (by intro b h1 h2; (try dsimp only at h1 h2); omega) | exact Safe.top) ?_)); exact trivial) ?_)); exact trivial)⟩ ?_; (first | exact trivial | exact rfl); simp (decide := true) only [St.keep, St.f, lk, St.set, reduceIte, List.map_cons, List.map_nil, List.cons_append, List.nil_append])
  have e1 : decide (1 + (cntRs D : Int) + b.length < 0) = false := decide_eq_false (by omega)
  (repeat (first | refine ctlS ?_ | (refine ol_go ?_ (fun K1 hK1 => ?_); (first | exact trivial | exact rfl); refine evS ?_; (try simp only [e1, eo]); refine hK1 _ _ ?_; clear hK1 K1) | (refine ow_go ?_ (fun x hx => by cases hx <;> (rw [hsz]; decide)) (fun K1 hK1 => ?_); (first | exact trivial | exact rfl); refine evS ?_; (try simp only [e1, eo]); refine hK1 _ ?_; clear hK1 K1) | refine skipS ?_ | (refine callPre ?_; (first | refine callN_funS rfl (AC.iv (eqByteS_c (l := out) (by omega))) ?_ | refine callN_funS rfl (EM) ?_)) | (refine callPreL ?_; (first | refine callL_funS rfl (AC.iv (eqByteS_c (l := out) (by omega))) ?_ | refine callL_funS rfl (EM) ?_))))
  refine aw_condF rfl ?_
  (iterate 7 (first | refine aw_seq ?_ | refine aw_region ?_ | refine aw_block ?_ | (refine aw_exit ?_; (try simp (decide := true) only [reduceIte])) | (refine aw_skip ?_; try dsimp only) | (refine aw_any (by kernel_rfl) (by kernel_rfl) (by simp only [hsz]; kernel_rfl) ?_) | (refine ow_nil ?_; try dsimp only) | (refine ol_go ?_ (fun K1 hK1 => ?_); (first | exact trivial | exact rfl); refine evS ?_; refine hK1 _ _ ?_; clear hK1 K1) | (refine ol_skip rfl rfl ?_ ?_; (focus (intro hne; cases hne; done)); simp only [St.set]) | (refine ol_nil ⟨by kernel_rfl, ?_⟩; try dsimp only) | (refine ow_go ?_ (fun x hx => by cases hx <;> (rw [hsz]; decide)) (fun K1 hK1 => ?_); (first | exact trivial | exact rfl); refine evS ?_; refine hK1 _ ?_; clear hK1 K1) | (refine ow_skip rfl rfl ?_ (fun x hx => by cases hx <;> (rw [hsz]; decide)) ?_; (focus (intro hne; cases hne; done)); simp only [St.set])))
  (refine ow_mark3 [1, 2, 6, 7, 8] [16, 96] rfl rfl rfl rfl rfl rfl rfl rfl (by rw [hsz]; decide) (by rw [hsz]; decide) (by rw [hsz]; decide) (by decide) rfl rfl rfl ⟨markB_x (l := out) (k := 1) (by omega) (by omega), on_iv, hcok, (by intro b h; (try dsimp only at h); omega), (by (repeat (refine And.intro (by first | exact Safe.v | exact Safe.ptr | exact Safe.iv (by intro b h1 h2; (try dsimp only at h1 h2); omega) | exact Safe.top) ?_)); exact trivial), (by (repeat (refine And.intro (by intro cs hcs; cases hcs; (repeat (refine And.intro (by first | exact Safe.v | exact Safe.ptr | exact Safe.iv (by intro b h1 h2; (try dsimp only at h1 h2); omega) | exact Safe.top) ?_)); exact trivial) ?_)); exact trivial)⟩ ?_; simp (decide := true) only [St.keep, St.f, lk, St.set, reduceIte, List.map_cons, List.map_nil, List.cons_append, List.nil_append])
  have HH := heldB_c (k := 1) (n := out.length) (by omega) (by omega)
  (repeat (first | refine walkS ?_ | (refine callPre ?_; (first | refine callN_funS rfl (AC.iv HH) ?_)) | (refine callPreL ?_; (first | refine callL_funS rfl (AC.iv HH) ?_))))
  refine aw_condS rfl (fun h6 => ?_) (fun h6 => ?_)
  · (first | exact absurd trivial h6 | exact absurd rfl h6 | (cases h6; done) | omega | exact absurd h6 (by decide) | (simp at h6; done))
  refine walkS ?_
  refine aw_condS rfl (fun h7 => ?_) (fun h7 => ?_)
  · (first | exact absurd trivial h7 | exact absurd rfl h7 | (cases h7; done) | omega | exact absurd h7 (by decide) | (simp at h7; done))
  have HJ := HI.sem (X := .tup [encB out, mutE mk mi mc, bD ok]) (repN_sem (out, (mk, mi, mc), ok))
  (repeat (first | refine walkS ?_ | (refine callPre ?_; (first | refine callN_funS rfl (AC.iv (toDescription_c hDM (Nat.le_refl _))) ?_ | refine callN_funS rfl (AC.iv (toByteS_c hb)) ?_ | refine callN_funS rfl (HJ) ?_)) | (refine callPreL ?_; (first | refine callL_funS rfl (AC.iv (toDescription_c hDM (Nat.le_refl _))) ?_ | refine callL_funS rfl (AC.iv (toByteS_c hb)) ?_ | refine callL_funS rfl (HJ) ?_))))
  (repeat (first | refine ctlS ?_ | (refine ol_go ?_ (fun K1 hK1 => ?_); (first | exact trivial | exact rfl); refine evS ?_; (try simp only [eo]); refine hK1 _ _ ?_; clear hK1 K1) | (refine ow_go ?_ (fun x hx => by cases hx <;> (rw [hsz]; decide)) (fun K1 hK1 => ?_); (first | exact trivial | exact rfl); refine evS ?_; (try simp only [eo]); refine hK1 _ ?_; clear hK1 K1) | refine skipS ?_ | (refine callPre ?_; (first | refine callN_funS rfl (AC.iv (eqByteS_c (l := out) (by omega))) ?_ | refine callN_funS rfl (EM) ?_)) | (refine callPreL ?_; (first | refine callL_funS rfl (AC.iv (eqByteS_c (l := out) (by omega))) ?_ | refine callL_funS rfl (EM) ?_)) | refine aw_condT rfl ?_ | refine aw_condF rfl ?_))
  (repeat (first | refine walkS ?_ | (refine callPre ?_; (first | refine callN_funS rfl (AC.iv HH) ?_)) | (refine callPreL ?_; (first | refine callL_funS rfl (AC.iv HH) ?_))))
  refine aw_condS rfl (fun h9 => ?_) (fun h9 => ?_)
  · (first | exact absurd trivial h9 | exact absurd rfl h9 | (cases h9; done) | omega | exact absurd h9 (by decide) | (simp at h9; done))
  refine walkS ?_
  refine aw_condS rfl (fun h10 => ?_) (fun h10 => ?_)
  · (first | exact absurd trivial h10 | exact absurd rfl h10 | (cases h10; done) | omega | exact absurd h10 (by decide) | (simp at h10; done))
  · refine walkS ?_
    (refine aw_ret ?_; (simp only [Fin, Tryz.results6]; refine finS ?_); exact ⟨_, _, .inl ⟨rfl, rfl⟩, List.nodup_nil, rfl⟩)
end Go.Proofs.YtglacmgeoefcaaaGreatDoor.Eng
