/-
  The law: CanonicalFile.
-/
import Derived.Test.YtmdohnoimianbaaGreatDoorKL
import Derived.Test.YtmdohnoimianbaaGreatDoorKLQ
import Derived.Test.YtmdohnoimianbaaGreatDoorKM13
import Derived.Test.YtmdohnoimianbaaGreatDoorKN60
set_option linter.unusedSimpArgs false
set_option linter.unusedVariables false
set_option linter.defProp false
set_option maxRecDepth 100000
set_option maxHeartbeats 4000000
namespace Go.Proofs.YtmdohnoimianbaaGreatDoor.Eng
open Go Go.RowKit

private def tyF := And.intro (And.intro (And.intro (And.intro (And.intro (And.intro tb25 te22) (And.intro te25 te32)) (And.intro (And.intro te73 te74) (And.intro tf24_0 (And.intro tf34_0 tf76_0)))) (And.intro (And.intro (And.intro tf76_1 tf76_2) (And.intro tf76_3 (And.intro tf76_4 tf76_5))) (And.intro (And.intro tf76_6 tf76_7) (And.intro tf78_0 (And.intro tf78_1 tf78_2))))) (And.intro (And.intro (And.intro (And.intro tf78_3 tf78_4) (And.intro tf78_5 tf78_6)) (And.intro (And.intro tf78_7 tk22) (And.intro tk24 (And.intro tk25 tk3)))) (And.intro (And.intro (And.intro tk32 tk34) (And.intro tk4 (And.intro tk5 tk73))) (And.intro (And.intro tk74 tk76) (And.intro tk78 (And.intro tk9 tp24)))))) (And.intro (And.intro (And.intro (And.intro (And.intro tp34 tp76) (And.intro tp78 tr22)) (And.intro (And.intro tr24 tr25) (And.intro tr3 (And.intro tr32 tr34)))) (And.intro (And.intro (And.intro tr4 tr5) (And.intro tr73 (And.intro tr74 tr76))) (And.intro (And.intro tr78 tr9) (And.intro tu22 (And.intro tu25 tu3))))) (And.intro (And.intro (And.intro (And.intro tu32 tu4) (And.intro tu5 tu73)) (And.intro (And.intro tu74 tu9) (And.intro tz22 (And.intro tz24 tz25)))) (And.intro (And.intro (And.intro tz3 tz32) (And.intro tz34 (And.intro tz4 tz5))) (And.intro (And.intro tz73 tz74) (And.intro tz76 (And.intro tz78 tz9))))))
theorem lawCanonical_c {D : List RuleD} (hD : DB 9223372036854775807 D) {b : List UInt8} (hb0 : b.length ≤ 9223372036854775807) : AC Tryz.prog 7 [.d (encD D), .d (encB b)] none (fun r' _ => r' = .d (bD true)) := by
  refine calls_bodyL Tryz.func7 rfl Tryz.call7 Tryz.ntmps7 (by simp) (by simp [ArgsOk]) fun en hsz hcok hX hks => ?_; refine enS ?_
  refine walkS ?_
  refine aw_condS rfl (fun h0 => ?_) (fun h0 => ?_)
  · refine walkS ?_
    (refine aw_ret ?_; (simp only [Fin, Tryz.results7]; refine finS ?_); exact ⟨_, _, .inl ⟨rfl, rfl⟩, List.nodup_nil, rfl⟩)
  have hb : b.length ≤ 1048576 := by omega
  (repeat (first | refine walkS ?_ | (refine callPre ?_; (first | refine callN_funS rfl (szDescription_c hD 1048576 (by omega)) ?_)) | (refine callPreL ?_; (first | refine callL_funS rfl (szDescription_c hD 1048576 (by omega)) ?_))))
  refine aw_condS rfl (fun h1 => ?_) (fun h1 => ?_)
  · refine walkS ?_
    (refine aw_ret ?_; (simp only [Fin, Tryz.results7]; refine finS ?_); exact ⟨_, _, .inl ⟨rfl, rfl⟩, List.nodup_nil, rfl⟩)
  have hDM : DB 1048576 D := lftDs_ge (x := 1048576) (by omega) (by omega) (by omega)
  have hcn := cntRs_DB hDM
  have HS := canS_c hDM (Nat.le_refl _) hb
  have HI := canI_c hDM (Nat.le_refl _) hb
  have hTl := canR_len D b
  generalize canR D b = T at HS HI hTl
  obtain ⟨out, ok⟩ := T
  simp only at hTl
  (repeat (first | refine walkS ?_ | (refine callPre ?_; (first | refine callN_funS rfl (toDescription_c hDM (Nat.le_refl _)) ?_ | refine callN_funS rfl (toByteS_c hb) ?_)) | (refine callPreL ?_; (first | refine callL_funS rfl (toDescription_c hDM (Nat.le_refl _)) ?_ | refine callL_funS rfl (toByteS_c hb) ?_))))
  (refine ow_callDA [] [] ?_ (fun x hx => by cases hx <;> (rw [hsz]; decide)) rfl (ACD.iv (HS.acd (prRz_ok _)) ?_) (fun n hn => ?_); (first | exact trivial | exact rfl); (repeat (first | exact IvL.nil | refine IvL.iv ?_ | refine IvL.agg1 ?_ | refine IvL.aggV ?_ | refine IvL.agg3 ?_ | refine IvL.same ?_)); simp (decide := true) only [St.bound, boundA_iv, boundA_sl, boundA_B, boundA_I, boundA_S, boundA_Ds, boundA_v, St.f, lk, St.set, rzI, rzIL, reduceIte, List.map_cons, List.map_nil, List.cons_append, List.nil_append, Option.map_some, Option.map_none])
  refine walkS ?_
  (refine ow_callDA [1, 6] [16] ?_ (fun x hx => by cases hx <;> (rw [hsz]; decide)) rfl (ACD.iv ((toDescription_n hDM (Nat.le_refl _)).acd) ?_) (fun n hn => ?_); (first | exact trivial | exact rfl); (repeat (first | exact IvL.nil | refine IvL.iv ?_ | refine IvL.agg1 ?_ | refine IvL.aggV ?_ | refine IvL.agg3 ?_ | refine IvL.same ?_)); simp (decide := true) only [St.bound, boundA_iv, boundA_sl, boundA_B, boundA_I, boundA_S, boundA_Ds, boundA_v, St.f, lk, St.set, rzI, rzIL, reduceIte, List.map_cons, List.map_nil, List.cons_append, List.nil_append, Option.map_some, Option.map_none])
  refine walkS ?_
  (refine ow_callDA [1, 6] [16, 80] ?_ (fun x hx => by cases hx <;> (rw [hsz]; decide)) rfl (ACD.iv ((toByteS_i hb).acd) ?_) (fun n hn => ?_); (first | exact trivial | exact rfl); (repeat (first | exact IvL.nil | refine IvL.iv ?_ | refine IvL.agg1 ?_ | refine IvL.aggV ?_ | refine IvL.agg3 ?_ | refine IvL.same ?_)); simp (decide := true) only [St.bound, boundA_iv, boundA_sl, boundA_B, boundA_I, boundA_S, boundA_Ds, boundA_v, St.f, lk, St.set, rzI, rzIL, reduceIte, List.map_cons, List.map_nil, List.cons_append, List.nil_append, Option.map_some, Option.map_none])
  refine walkS ?_
  (refine ow_callDA [1, 6, 9] [16, 80] ?_ (fun x hx => by cases hx <;> (rw [hsz]; decide)) rfl (ACD.iv (HI.acd (prRz_ok _)) ?_) (fun n hn => ?_); (first | exact trivial | exact rfl); (repeat (first | exact IvL.nil | refine IvL.iv ?_ | refine IvL.agg1 ?_ | refine IvL.aggV ?_ | refine IvL.agg3 ?_ | refine IvL.same ?_)); simp (decide := true) only [St.bound, boundA_iv, boundA_sl, boundA_B, boundA_I, boundA_S, boundA_Ds, boundA_v, St.f, lk, St.set, rzI, rzIL, reduceIte, List.map_cons, List.map_nil, List.cons_append, List.nil_append, Option.map_some, Option.map_none])
  (repeat (first | refine walkS ?_ | (refine callPre ?_; (first | refine callN_funS rfl (AC.iv (eqByteS_c (l := out) (by omega))) ?_)) | (refine callPreL ?_; (first | refine callL_funS rfl (AC.iv (eqByteS_c (l := out) (by omega))) ?_))))
  refine aw_condS rfl (fun h2 => ?_) (fun h2 => ?_)
  · (first | exact absurd trivial h2 | exact absurd rfl h2 | (cases h2; done) | omega | exact absurd h2 (by decide) | (simp at h2; done))
  (repeat (first | refine walkS ?_ | (refine callPre ?_; (first | refine callN_funS rfl (AC.iv (toDescription_c hDM (Nat.le_refl _))) ?_ | refine callN_funS rfl (AC.iv (eqDescription_c hDM (Nat.le_refl _))) ?_)) | (refine callPreL ?_; (first | refine callL_funS rfl (AC.iv (toDescription_c hDM (Nat.le_refl _))) ?_ | refine callL_funS rfl (AC.iv (eqDescription_c hDM (Nat.le_refl _))) ?_))))
  refine aw_condS rfl (fun h3 => ?_) (fun h3 => ?_)
  · (first | exact absurd trivial h3 | exact absurd rfl h3 | (cases h3; done) | omega | exact absurd h3 (by decide) | (simp at h3; done))
  (repeat (first | refine walkS ?_ | (refine callPre ?_; (first | refine callN_funS rfl (AC.iv (toByteS_c hb)) ?_ | refine callN_funS rfl (AC.iv (eqByteS_c hb)) ?_)) | (refine callPreL ?_; (first | refine callL_funS rfl (AC.iv (toByteS_c hb)) ?_ | refine callL_funS rfl (AC.iv (eqByteS_c hb)) ?_))))
  refine aw_condS rfl (fun h4 => ?_) (fun h4 => ?_)
  · (first | exact absurd trivial h4 | exact absurd rfl h4 | (cases h4; done) | omega | exact absurd h4 (by decide) | (simp at h4; done))
  refine walkS ?_
  (refine ow_mark [1, 2, 6, 7, 9, 10, 11, 12] [16] ?_ (fun x hx => by cases hx <;> (rw [hsz]; decide)) rfl rfl rfl ⟨markD_1 (by omega), on_agg1, hcok, (by intro b h; (try dsimp only at h); omega), (by (repeat (refine And.intro (by first | exact Safe.v | exact Safe.ptr | exact Safe.iv (by intro b h1 h2; (try dsimp only at h1 h2); omega) | exact Safe.top) ?_)); exact trivial), (by (repeat (refine And.intro (by intro cs hcs; cases hcs; (repeat (refine And.intro (by first | exact Safe.v | exact Safe.ptr | exact Safe.iv (by intro b h1 h2; (try dsimp only at h1 h2); omega) | exact Safe.top) ?_)); exact trivial) ?_)); exact trivial)⟩ ?_; (first | exact trivial | exact rfl); simp (decide := true) only [St.keep, St.f, lk, St.set, reduceIte, List.map_cons, List.map_nil, List.cons_append, List.nil_append])
  refine walkS ?_
  (refine ow_mark [1, 2, 6, 7, 10, 11, 12] [16] ?_ (fun x hx => by cases hx <;> (rw [hsz]; decide)) rfl rfl rfl ⟨markB_m (l := b) (by omega) (by omega), on_iv, hcok, (by intro b h; (try dsimp only at h); omega), (by (repeat (refine And.intro (by first | exact Safe.v | exact Safe.ptr | exact Safe.iv (by intro b h1 h2; (try dsimp only at h1 h2); omega) | exact Safe.top) ?_)); exact trivial), (by (repeat (refine And.intro (by intro cs hcs; cases hcs; (repeat (refine And.intro (by first | exact Safe.v | exact Safe.ptr | exact Safe.iv (by intro b h1 h2; (try dsimp only at h1 h2); omega) | exact Safe.top) ?_)); exact trivial) ?_)); exact trivial)⟩ ?_; (first | exact trivial | exact rfl); simp (decide := true) only [St.keep, St.f, lk, St.set, reduceIte, List.map_cons, List.map_nil, List.cons_append, List.nil_append])
  have e1 : decide (1 + (cntRs D : Int) + b.length < 0) = false := decide_eq_false (by omega)
  (repeat (first | refine ctlS ?_ | (refine ol_go ?_ (fun K1 hK1 => ?_); (first | exact trivial | exact rfl); refine evS ?_; (try simp only [e1]); refine hK1 _ _ ?_; clear hK1 K1) | (refine ow_go ?_ (fun x hx => by cases hx <;> (rw [hsz]; decide)) (fun K1 hK1 => ?_); (first | exact trivial | exact rfl); refine evS ?_; (try simp only [e1]); refine hK1 _ ?_; clear hK1 K1) | refine skipS ?_ | (refine callPre ?_; (first | refine callN_funS rfl (AC.iv (eqByteS_c (l := out) (by omega))) ?_)) | (refine callPreL ?_; (first | refine callL_funS rfl (AC.iv (eqByteS_c (l := out) (by omega))) ?_))))
  refine aw_condS rfl (fun h5 => ?_) (fun h5 => ?_)
  · (first | exact absurd trivial h5 | exact absurd rfl h5 | (cases h5; done) | omega | exact absurd h5 (by decide) | (simp at h5; done))
  (iterate 7 (first | refine aw_seq ?_ | refine aw_region ?_ | refine aw_block ?_ | (refine aw_exit ?_; (try simp (decide := true) only [reduceIte])) | (refine aw_skip ?_; try dsimp only) | (refine aw_any (by kernel_rfl) (by kernel_rfl) (by simp only [hsz]; kernel_rfl) ?_) | (refine ow_nil ?_; try dsimp only) | (refine ol_go ?_ (fun K1 hK1 => ?_); (first | exact trivial | exact rfl); refine evS ?_; refine hK1 _ _ ?_; clear hK1 K1) | (refine ol_skip rfl rfl ?_ ?_; (focus (intro hne; cases hne; done)); simp only [St.set]) | (refine ol_nil ⟨by kernel_rfl, ?_⟩; try dsimp only) | (refine ow_go ?_ (fun x hx => by cases hx <;> (rw [hsz]; decide)) (fun K1 hK1 => ?_); (first | exact trivial | exact rfl); refine evS ?_; refine hK1 _ ?_; clear hK1 K1) | (refine ow_skip rfl rfl ?_ (fun x hx => by cases hx <;> (rw [hsz]; decide)) ?_; (focus (intro hne; cases hne; done)); simp only [St.set])))
  (refine ow_mark3 [1, 2, 6, 7] [16] rfl rfl rfl rfl rfl rfl rfl rfl (by rw [hsz]; decide) (by rw [hsz]; decide) (by rw [hsz]; decide) (by decide) rfl rfl rfl ⟨markB_x (l := out) (k := 1) (by omega) (by omega), on_iv, hcok, (by intro b h; (try dsimp only at h); omega), (by (repeat (refine And.intro (by first | exact Safe.v | exact Safe.ptr | exact Safe.iv (by intro b h1 h2; (try dsimp only at h1 h2); omega) | exact Safe.top) ?_)); exact trivial), (by (repeat (refine And.intro (by intro cs hcs; cases hcs; (repeat (refine And.intro (by first | exact Safe.v | exact Safe.ptr | exact Safe.iv (by intro b h1 h2; (try dsimp only at h1 h2); omega) | exact Safe.top) ?_)); exact trivial) ?_)); exact trivial)⟩ ?_; simp (decide := true) only [St.keep, St.f, lk, St.set, reduceIte, List.map_cons, List.map_nil, List.cons_append, List.nil_append])
  have HH := heldB_c (k := 1) (n := out.length) (by omega) (by omega)
  (repeat (first | refine walkS ?_ | (refine callPre ?_; (first | refine callN_funS rfl (AC.iv HH) ?_)) | (refine callPreL ?_; (first | refine callL_funS rfl (AC.iv HH) ?_))))
  refine aw_condS rfl (fun h6 => ?_) (fun h6 => ?_)
  · (first | exact absurd trivial h6 | exact absurd rfl h6 | (cases h6; done) | omega | exact absurd h6 (by decide) | (simp at h6; done))
  refine walkS ?_
  refine aw_condS rfl (fun h7 => ?_) (fun h7 => ?_)
  · (first | exact absurd trivial h7 | exact absurd rfl h7 | (cases h7; done) | omega | exact absurd h7 (by decide) | (simp at h7; done))
  (repeat (first | refine walkS ?_ | (refine callPre ?_; (first | refine callN_funS rfl (AC.iv (toDescription_c hDM (Nat.le_refl _))) ?_ | refine callN_funS rfl (AC.iv (toByteS_c hb)) ?_ | refine callN_funS rfl (HI) ?_)) | (refine callPreL ?_; (first | refine callL_funS rfl (AC.iv (toDescription_c hDM (Nat.le_refl _))) ?_ | refine callL_funS rfl (AC.iv (toByteS_c hb)) ?_ | refine callL_funS rfl (HI) ?_))))
  (repeat (first | refine walkS ?_ | (refine callPre ?_; (first | refine callN_funS rfl (AC.iv (eqByteS_c (l := out) (by omega))) ?_)) | (refine callPreL ?_; (first | refine callL_funS rfl (AC.iv (eqByteS_c (l := out) (by omega))) ?_))))
  refine aw_condS rfl (fun h8 => ?_) (fun h8 => ?_)
  · (first | exact absurd trivial h8 | exact absurd rfl h8 | (cases h8; done) | omega | exact absurd h8 (by decide) | (simp at h8; done))
  (repeat (first | refine walkS ?_ | (refine callPre ?_; (first | refine callN_funS rfl (AC.iv HH) ?_)) | (refine callPreL ?_; (first | refine callL_funS rfl (AC.iv HH) ?_))))
  refine aw_condS rfl (fun h9 => ?_) (fun h9 => ?_)
  · (first | exact absurd trivial h9 | exact absurd rfl h9 | (cases h9; done) | omega | exact absurd h9 (by decide) | (simp at h9; done))
  refine walkS ?_
  refine aw_condS rfl (fun h10 => ?_) (fun h10 => ?_)
  · (first | exact absurd trivial h10 | exact absurd rfl h10 | (cases h10; done) | omega | exact absurd h10 (by decide) | (simp at h10; done))
  · refine walkS ?_
    (refine aw_ret ?_; (simp only [Fin, Tryz.results7]; refine finS ?_); exact ⟨_, _, .inl ⟨rfl, rfl⟩, List.nodup_nil, rfl⟩)
end Go.Proofs.YtmdohnoimianbaaGreatDoor.Eng
