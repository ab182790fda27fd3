/-
  The law: TrimFile.
-/
import Derived.Test.YtmpokibohbhoeaaKL
import Derived.Test.YtmpokibohbhoeaaKM2
import Derived.Test.YtmpokibohbhoeaaKM3
import Derived.Test.YtmpokibohbhoeaaKN42
set_option linter.unusedSimpArgs false
set_option linter.unusedVariables false
namespace Go.Proofs.Ytmpokibohbhoeaa.Eng
open Go Go.RowKit

theorem cntR_le {M : Nat} {r : RuleD} (h : RB M r) : cntR r ≤ 4 + 4 * M := by
  have h1 := h.lb
  have h2 := h.ln
  have h3 := h.lt
  have h4 := h.lk
  unfold cntR
  omega
theorem cntRs_bd {M : Nat} {D : List RuleD} (h : ∀ r ∈ D, RB M r) : cntRs D ≤ D.length * (4 + 4 * M) := by
  induction D with
  | nil => simp [cntRs]
  | cons r D ih =>
    have h1 := ih fun x hx => h x (List.mem_cons_of_mem _ hx)
    have h2 := cntR_le (h r (List.mem_cons_self ..))
    simp only [cntRs, List.length_cons]
    rw [Nat.add_mul]
    omega
theorem cntRs_DB {D : List RuleD} (h : DB 1048576 D) : cntRs D ≤ 4398050705408 := by
  refine Nat.le_trans (cntRs_bd h.rule) (Nat.le_trans (Nat.mul_le_mul_right _ h.len) (by decide))
private theorem tyF : ((((((bytesT Try.prog 22 = true ∧ tyElem Try.prog 106 = some 9) ∧ (tyElem Try.prog 107 = some 3 ∧ tyElem Try.prog 22 = some 5)) ∧ ((tyElem Try.prog 24 = some 109 ∧ tyElem Try.prog 32 = some 118) ∧ (tyField Try.prog 109 0 = some (0, 9) ∧ (tyField Try.prog 109 1 = some (1, 3) ∧ tyField Try.prog 109 2 = some (2, 3))))) ∧ (((tyField Try.prog 109 3 = some (3, 4) ∧ tyField Try.prog 109 4 = some (4, 22)) ∧ (tyField Try.prog 109 5 = some (5, 106) ∧ (tyField Try.prog 109 6 = some (6, 107) ∧ tyField Try.prog 109 7 = some (7, 107)))) ∧ ((tyField Try.prog 118 0 = some (0, 9) ∧ tyField Try.prog 118 1 = some (1, 3)) ∧ (tyField Try.prog 118 2 = some (2, 3) ∧ (tyField Try.prog 118 3 = some (3, 4) ∧ tyField Try.prog 118 4 = some (4, 22)))))) ∧ ((((tyField Try.prog 118 5 = some (5, 106) ∧ tyField Try.prog 118 6 = some (6, 107)) ∧ (tyField Try.prog 118 7 = some (7, 107) ∧ tyField Try.prog 26 0 = some (0, 24))) ∧ ((tyField Try.prog 34 0 = some (0, 32) ∧ tyK Try.prog 106 = some (false, 1)) ∧ (tyK Try.prog 107 = some (false, 1) ∧ (tyK Try.prog 109 = some (true, 8) ∧ tyK Try.prog 118 = some (true, 8))))) ∧ (((tyK Try.prog 22 = some (false, 1) ∧ tyK Try.prog 24 = some (false, 1)) ∧ (tyK Try.prog 26 = some (true, 1) ∧ (tyK Try.prog 3 = some (false, 1) ∧ tyK Try.prog 32 = some (false, 1)))) ∧ ((tyK Try.prog 34 = some (true, 1) ∧ tyK Try.prog 4 = some (false, 1)) ∧ (tyK Try.prog 5 = some (false, 1) ∧ (tyK Try.prog 9 = some (false, 1) ∧ tyPlaces Try.prog 109 = some [(0, 1), (1, 1), (2, 1), (3, 1), (4, 1), (5, 1), (6, 1), (7, 1)])))))) ∧ (((((tyPlaces Try.prog 118 = some [(0, 1), (1, 1), (2, 1), (3, 1), (4, 1), (5, 1), (6, 1), (7, 1)] ∧ tyPlaces Try.prog 26 = some [(0, 1)]) ∧ (tyPlaces Try.prog 34 = some [(0, 1)] ∧ tyRow Try.prog 106 = some 1)) ∧ ((tyRow Try.prog 107 = some 1 ∧ tyRow Try.prog 109 = some 8) ∧ (tyRow Try.prog 118 = some 8 ∧ (tyRow Try.prog 22 = some 1 ∧ tyRow Try.prog 24 = some 1)))) ∧ (((tyRow Try.prog 26 = some 1 ∧ tyRow Try.prog 3 = some 1) ∧ (tyRow Try.prog 32 = some 1 ∧ (tyRow Try.prog 34 = some 1 ∧ tyRow Try.prog 4 = some 1))) ∧ ((tyRow Try.prog 5 = some 1 ∧ tyRow Try.prog 9 = some 1) ∧ (Try.prog.underlying 106 = some (TypeDesc.slice 9) ∧ (Try.prog.underlying 107 = some (TypeDesc.slice 3) ∧ Try.prog.underlying 22 = some (TypeDesc.slice 5)))))) ∧ ((((Try.prog.underlying 24 = some (TypeDesc.slice 109) ∧ Try.prog.underlying 3 = some (TypeDesc.int IntKind.i64)) ∧ (Try.prog.underlying 32 = some (TypeDesc.slice 118) ∧ Try.prog.underlying 4 = some (TypeDesc.bool))) ∧ ((Try.prog.underlying 5 = some (TypeDesc.int IntKind.u8) ∧ Try.prog.underlying 9 = some (TypeDesc.string)) ∧ (tyZero Try.prog 106 = some [Value.slice none 0 0] ∧ (tyZero Try.prog 107 = some [Value.slice none 0 0] ∧ tyZero Try.prog 109 = some [Value.string ByteArray.empty, Value.int IntKind.i64 0, Value.int IntKind.i64 0, Value.bool false, Value.slice none 0 0, Value.slice none 0 0, Value.slice none 0 0, Value.slice none 0 0])))) ∧ (((tyZero Try.prog 118 = some [Value.string ByteArray.empty, Value.int IntKind.i64 0, Value.int IntKind.i64 0, Value.bool false, Value.slice none 0 0, Value.slice none 0 0, Value.slice none 0 0, Value.slice none 0 0] ∧ tyZero Try.prog 22 = some [Value.slice none 0 0]) ∧ (tyZero Try.prog 24 = some [Value.slice none 0 0] ∧ (tyZero Try.prog 26 = some [Value.slice none 0 0] ∧ tyZero Try.prog 3 = some [Value.int IntKind.i64 0]))) ∧ ((tyZero Try.prog 32 = some [Value.slice none 0 0] ∧ tyZero Try.prog 34 = some [Value.slice none 0 0]) ∧ (tyZero Try.prog 4 = some [Value.bool false] ∧ (tyZero Try.prog 5 = some [Value.int IntKind.u8 0] ∧ tyZero Try.prog 9 = some [Value.string ByteArray.empty]))))))) := ⟨⟨⟨⟨⟨⟨tb22, te106⟩, ⟨te107, te22⟩⟩, ⟨⟨te24, te32⟩, ⟨tf109_0, ⟨tf109_1, tf109_2⟩⟩⟩⟩, ⟨⟨⟨tf109_3, tf109_4⟩, ⟨tf109_5, ⟨tf109_6, tf109_7⟩⟩⟩, ⟨⟨tf118_0, tf118_1⟩, ⟨tf118_2, ⟨tf118_3, tf118_4⟩⟩⟩⟩⟩, ⟨⟨⟨⟨tf118_5, tf118_6⟩, ⟨tf118_7, tf26_0⟩⟩, ⟨⟨tf34_0, tk106⟩, ⟨tk107, ⟨tk109, tk118⟩⟩⟩⟩, ⟨⟨⟨tk22, tk24⟩, ⟨tk26, ⟨tk3, tk32⟩⟩⟩, ⟨⟨tk34, tk4⟩, ⟨tk5, ⟨tk9, tp109⟩⟩⟩⟩⟩⟩, ⟨⟨⟨⟨⟨tp118, tp26⟩, ⟨tp34, tr106⟩⟩, ⟨⟨tr107, tr109⟩, ⟨tr118, ⟨tr22, tr24⟩⟩⟩⟩, ⟨⟨⟨tr26, tr3⟩, ⟨tr32, ⟨tr34, tr4⟩⟩⟩, ⟨⟨tr5, tr9⟩, ⟨tu106, ⟨tu107, tu22⟩⟩⟩⟩⟩, ⟨⟨⟨⟨tu24, tu3⟩, ⟨tu32, tu4⟩⟩, ⟨⟨tu5, tu9⟩, ⟨tz106, ⟨tz107, tz109⟩⟩⟩⟩, ⟨⟨⟨tz118, tz22⟩, ⟨tz24, ⟨tz26, tz3⟩⟩⟩, ⟨⟨tz32, tz34⟩, ⟨tz4, ⟨tz5, tz9⟩⟩⟩⟩⟩⟩⟩
set_option maxRecDepth 100000 in
set_option maxHeartbeats 1000000 in
theorem lawTrim_c {D : List RuleD} (hD : DB 9223372036854775807 D) {b : List UInt8} (hb0 : b.length ≤ 9223372036854775807) : AC Try.prog 5 [.d (encD D), .d (encB b)] none (fun r' _ => r' = .d (bD true)) := by
  refine calls_bodyL Try.func5 rfl Try.call5 Try.ntmps5 (by simp) (by simp [ArgsOk]) fun en hsz hcok hX hks => ?_; simp only [St.init, frOf, Rz.addSL, Rz.addS, Rz.toAL, Rz.toA, Rz.nk, List.zipIdx_cons, List.zipIdx_nil, List.map_cons, List.map_nil, Nat.zero_add, Nat.reduceAdd]
  refine walkS ?_
  refine aw_condS rfl (fun h0 => ?_) (fun h0 => ?_)
  · refine walkS ?_
    (refine aw_ret ?_; (simp only [Fin, Try.results5]; refine finS ?_); exact ⟨_, _, .inl ⟨rfl, rfl⟩, List.nodup_nil, rfl⟩)
  have hb : b.length ≤ 1048576 := by omega
  (repeat (first | refine walkS ?_ | (refine callPre ?_; (first | refine callN_funS rfl (szDescription_c hD 1048576 (by omega)) ?_)) | (refine callPreL ?_; (first | refine callL_funS rfl (szDescription_c hD 1048576 (by omega)) ?_))))
  refine aw_condS rfl (fun h1 => ?_) (fun h1 => ?_)
  · refine walkS ?_
    (refine aw_ret ?_; (simp only [Fin, Try.results5]; refine finS ?_); exact ⟨_, _, .inl ⟨rfl, rfl⟩, List.nodup_nil, rfl⟩)
  have hDM : DB 1048576 D := lftDs_ge (x := 1048576) (by omega) (by omega) (by omega)
  have hcn := cntRs_DB hDM
  have HS := trimS_c hDM (Nat.le_refl _) hb
  have HI := trimI_c hDM (Nat.le_refl _) hb
  have hTl : (trimP D b).1.length ≤ b.length := by
    unfold trimP
    split
    · exact Nat.le_refl _
    · split
      · simp only [List.length_take]; omega
      · exact Nat.le_refl _
  generalize trimP D b = T at HS HI hTl
  obtain ⟨out, ok⟩ := T
  simp only at hTl
  (repeat (first | refine walkS ?_ | (refine callPre ?_; (first | refine callN_funS rfl (toDescription_c hDM (Nat.le_refl _)) ?_ | refine callN_funS rfl (toByteS_c hb) ?_)) | (refine callPreL ?_; (first | refine callL_funS rfl (toDescription_c hDM (Nat.le_refl _)) ?_ | refine callL_funS rfl (toByteS_c hb) ?_))))
  (refine ow_callDA [] [] ?_ (fun x hx => by cases hx <;> (rw [hsz]; decide)) rfl (ACD.iv (HS.acd (ownB_ok _)) ?_) (fun n hn => ?_); (first | exact trivial | exact rfl); (repeat (first | exact IvL.nil | refine IvL.iv ?_ | refine IvL.agg1 ?_ | refine IvL.same ?_)); simp (decide := true) only [St.bound, boundA_iv, boundA_sl, boundA_B, boundA_I, boundA_S, boundA_Ds, boundA_v, St.f, lk, St.set, rzI, rzIL, reduceIte, List.map_cons, List.map_nil, List.cons_append, List.nil_append, Option.map_some, Option.map_none])
  refine walkS ?_
  (refine ow_callDA [1, 6] [16] ?_ (fun x hx => by cases hx <;> (rw [hsz]; decide)) rfl (ACD.iv ((toDescription_n hDM (Nat.le_refl _)).acd) ?_) (fun n hn => ?_); (first | exact trivial | exact rfl); (repeat (first | exact IvL.nil | refine IvL.iv ?_ | refine IvL.agg1 ?_ | refine IvL.same ?_)); simp (decide := true) only [St.bound, boundA_iv, boundA_sl, boundA_B, boundA_I, boundA_S, boundA_Ds, boundA_v, St.f, lk, St.set, rzI, rzIL, reduceIte, List.map_cons, List.map_nil, List.cons_append, List.nil_append, Option.map_some, Option.map_none])
  refine walkS ?_
  (refine ow_callDA [1, 6] [16, 80] ?_ (fun x hx => by cases hx <;> (rw [hsz]; decide)) rfl (ACD.iv ((toByteS_i hb).acd) ?_) (fun n hn => ?_); (first | exact trivial | exact rfl); (repeat (first | exact IvL.nil | refine IvL.iv ?_ | refine IvL.agg1 ?_ | refine IvL.same ?_)); simp (decide := true) only [St.bound, boundA_iv, boundA_sl, boundA_B, boundA_I, boundA_S, boundA_Ds, boundA_v, St.f, lk, St.set, rzI, rzIL, reduceIte, List.map_cons, List.map_nil, List.cons_append, List.nil_append, Option.map_some, Option.map_none])
  refine walkS ?_
  (refine ow_callDA [1, 6, 9] [16, 80] ?_ (fun x hx => by cases hx <;> (rw [hsz]; decide)) rfl (ACD.iv (HI.acd (ownB_ok _)) ?_) (fun n hn => ?_); (first | exact trivial | exact rfl); (repeat (first | exact IvL.nil | refine IvL.iv ?_ | refine IvL.agg1 ?_ | refine IvL.same ?_)); simp (decide := true) only [St.bound, boundA_iv, boundA_sl, boundA_B, boundA_I, boundA_S, boundA_Ds, boundA_v, St.f, lk, St.set, rzI, rzIL, reduceIte, List.map_cons, List.map_nil, List.cons_append, List.nil_append, Option.map_some, Option.map_none])
  (repeat (first | refine walkS ?_ | (refine callPre ?_; (first | refine callN_funS rfl (AC.iv (eqByteS_c (l := out) (by omega))) ?_)) | (refine callPreL ?_; (first | refine callL_funS rfl (AC.iv (eqByteS_c (l := out) (by omega))) ?_))))
  refine aw_condS rfl (fun h2 => ?_) (fun h2 => ?_)
  · (first | exact absurd trivial h2 | exact absurd rfl h2 | (cases h2; done) | omega | exact absurd h2 (by decide) | (simp at h2; done))
  (repeat (first | refine walkS ?_ | (refine callPre ?_; (first | refine callN_funS rfl (AC.iv (toDescription_c hDM (Nat.le_refl _))) ?_ | refine callN_funS rfl (AC.iv (eqDescription_c hDM (Nat.le_refl _))) ?_)) | (refine callPreL ?_; (first | refine callL_funS rfl (AC.iv (toDescription_c hDM (Nat.le_refl _))) ?_ | refine callL_funS rfl (AC.iv (eqDescription_c hDM (Nat.le_refl _))) ?_))))
  refine aw_condS rfl (fun h3 => ?_) (fun h3 => ?_)
  · (first | exact absurd trivial h3 | exact absurd rfl h3 | (cases h3; done) | omega | exact absurd h3 (by decide) | (simp at h3; done))
  (repeat (first | refine walkS ?_ | (refine callPre ?_; (first | refine callN_funS rfl (AC.iv (toByteS_c hb)) ?_ | refine callN_funS rfl (AC.iv (eqByteS_c hb)) ?_)) | (refine callPreL ?_; (first | refine callL_funS rfl (AC.iv (toByteS_c hb)) ?_ | refine callL_funS rfl (AC.iv (eqByteS_c hb)) ?_))))
  refine aw_condS rfl (fun h4 => ?_) (fun h4 => ?_)
  · (first | exact absurd trivial h4 | exact absurd rfl h4 | (cases h4; done) | omega | exact absurd h4 (by decide) | (simp at h4; done))
  refine walkS ?_
  (refine ow_mark [1, 2, 6, 7, 9, 10, 11, 12] [16] ?_ (fun x hx => by cases hx <;> (rw [hsz]; decide)) rfl rfl rfl ⟨markD_1 (by omega), on_agg1, hcok, (by intro b h; (try dsimp only at h); omega), (by (repeat (refine And.intro (by first | exact Safe.v | exact Safe.ptr | exact Safe.iv (by intro b h1 h2; (try dsimp only at h1 h2); omega) | exact Safe.top) ?_)); exact trivial), (by (repeat (refine And.intro (by intro cs hcs; cases hcs; (repeat (refine And.intro (by first | exact Safe.v | exact Safe.ptr | exact Safe.iv (by intro b h1 h2; (try dsimp only at h1 h2); omega) | exact Safe.top) ?_)); exact trivial) ?_)); exact trivial)⟩ ?_; (first | exact trivial | exact rfl); simp (decide := true) only [St.keep, St.f, lk, St.set, reduceIte, List.map_cons, List.map_nil, List.cons_append, List.nil_append])
  refine walkS ?_
  (refine ow_mark [1, 2, 6, 7, 10, 11, 12] [16] ?_ (fun x hx => by cases hx <;> (rw [hsz]; decide)) rfl rfl rfl ⟨markB_m (l := b) (by omega) (by omega), on_iv, hcok, (by intro b h; (try dsimp only at h); omega), (by (repeat (refine And.intro (by first | exact Safe.v | exact Safe.ptr | exact Safe.iv (by intro b h1 h2; (try dsimp only at h1 h2); omega) | exact Safe.top) ?_)); exact trivial), (by (repeat (refine And.intro (by intro cs hcs; cases hcs; (repeat (refine And.intro (by first | exact Safe.v | exact Safe.ptr | exact Safe.iv (by intro b h1 h2; (try dsimp only at h1 h2); omega) | exact Safe.top) ?_)); exact trivial) ?_)); exact trivial)⟩ ?_; (first | exact trivial | exact rfl); simp (decide := true) only [St.keep, St.f, lk, St.set, reduceIte, List.map_cons, List.map_nil, List.cons_append, List.nil_append])
  have e1 : decide (1 + (cntRs D : Int) + b.length < 0) = false := decide_eq_false (by omega)
  (repeat (first | refine aw_seq ?_ | refine aw_region ?_ | refine aw_block ?_ | (refine aw_exit ?_; (try simp (decide := true) only [reduceIte])) | (refine aw_skip ?_; try dsimp only) | (refine aw_any (by kernel_rfl) (by kernel_rfl) (by simp only [hsz]; kernel_rfl) ?_) | (refine ow_nil ?_; try dsimp only) | (refine ol_go ?_ (fun K1 hK1 => ?_); (first | exact trivial | exact rfl); refine evS ?_; (try simp only [e1]); refine hK1 _ _ ?_; clear hK1 K1) | (refine ol_skip rfl rfl ?_ ?_; (focus (intro hne; cases hne; done)); simp only [St.set]) | (refine ol_nil ⟨by kernel_rfl, ?_⟩; try dsimp only) | (refine ow_go ?_ (fun x hx => by cases hx <;> (rw [hsz]; decide)) (fun K1 hK1 => ?_); (first | exact trivial | exact rfl); refine evS ?_; (try simp only [e1]); refine hK1 _ ?_; clear hK1 K1) | (refine ow_skip rfl rfl ?_ (fun x hx => by cases hx <;> (rw [hsz]; decide)) ?_; (focus (intro hne; cases hne; done)); simp only [St.set]) | (refine callPre ?_; (first | refine callN_funS rfl (AC.iv (eqByteS_c (l := out) (by omega))) ?_)) | (refine callPreL ?_; (first | refine callL_funS rfl (AC.iv (eqByteS_c (l := out) (by omega))) ?_))))
  refine aw_condS rfl (fun h5 => ?_) (fun h5 => ?_)
  · (first | exact absurd trivial h5 | exact absurd rfl h5 | (cases h5; done) | omega | exact absurd h5 (by decide) | (simp at h5; done))
  (iterate 7 (first | refine aw_seq ?_ | refine aw_region ?_ | refine aw_block ?_ | (refine aw_exit ?_; (try simp (decide := true) only [reduceIte])) | (refine aw_skip ?_; try dsimp only) | (refine aw_any (by kernel_rfl) (by kernel_rfl) (by simp only [hsz]; kernel_rfl) ?_) | (refine ow_nil ?_; try dsimp only) | (refine ol_go ?_ (fun K1 hK1 => ?_); (first | exact trivial | exact rfl); refine evS ?_; refine hK1 _ _ ?_; clear hK1 K1) | (refine ol_skip rfl rfl ?_ ?_; (focus (intro hne; cases hne; done)); simp only [St.set]) | (refine ol_nil ⟨by kernel_rfl, ?_⟩; try dsimp only) | (refine ow_go ?_ (fun x hx => by cases hx <;> (rw [hsz]; decide)) (fun K1 hK1 => ?_); (first | exact trivial | exact rfl); refine evS ?_; refine hK1 _ ?_; clear hK1 K1) | (refine ow_skip rfl rfl ?_ (fun x hx => by cases hx <;> (rw [hsz]; decide)) ?_; (focus (intro hne; cases hne; done)); simp only [St.set])))
  (refine ow_mark3 [1, 2, 6, 7] [16] rfl rfl rfl rfl rfl rfl rfl rfl (by rw [hsz]; decide) (by rw [hsz]; decide) (by rw [hsz]; decide) (by decide) rfl rfl rfl ⟨markB_x (l := out) (k := 1) (by omega) (by omega), on_iv, hcok, (by intro b h; (try dsimp only at h); omega), (by (repeat (refine And.intro (by first | exact Safe.v | exact Safe.ptr | exact Safe.iv (by intro b h1 h2; (try dsimp only at h1 h2); omega) | exact Safe.top) ?_)); exact trivial), (by (repeat (refine And.intro (by intro cs hcs; cases hcs; (repeat (refine And.intro (by first | exact Safe.v | exact Safe.ptr | exact Safe.iv (by intro b h1 h2; (try dsimp only at h1 h2); omega) | exact Safe.top) ?_)); exact trivial) ?_)); exact trivial)⟩ ?_; simp (decide := true) only [St.keep, St.f, lk, St.set, reduceIte, List.map_cons, List.map_nil, List.cons_append, List.nil_append])
  have HH := heldB_c (k := 1) (n := out.length) (by omega) (by omega)
  (repeat (first | refine walkS ?_ | (refine callPre ?_; (first | refine callN_funS rfl (AC.iv HH) ?_)) | (refine callPreL ?_; (first | refine callL_funS rfl (AC.iv HH) ?_))))
  refine aw_condS rfl (fun h6 => ?_) (fun h6 => ?_)
  · (first | exact absurd trivial h6 | exact absurd rfl h6 | (cases h6; done) | omega | exact absurd h6 (by decide) | (simp at h6; done))
  refine walkS ?_
  refine aw_condS rfl (fun h7 => ?_) (fun h7 => ?_)
  · (first | exact absurd trivial h7 | exact absurd rfl h7 | (cases h7; done) | omega | exact absurd h7 (by decide) | (simp at h7; done))
  (repeat (first | refine walkS ?_ | (refine callPre ?_; (first | refine callN_funS rfl (AC.iv (toDescription_c hDM (Nat.le_refl _))) ?_ | refine callN_funS rfl (AC.iv (toByteS_c hb)) ?_ | refine callN_funS rfl (HI) ?_)) | (refine callPreL ?_; (first | refine callL_funS rfl (AC.iv (toDescription_c hDM (Nat.le_refl _))) ?_ | refine callL_funS rfl (AC.iv (toByteS_c hb)) ?_ | refine callL_funS rfl (HI) ?_))))
  (repeat (first | refine walkS ?_ | (refine callPre ?_; (first | refine callN_funS rfl (AC.iv (eqByteS_c (l := out) (by omega))) ?_)) | (refine callPreL ?_; (first | refine callL_funS rfl (AC.iv (eqByteS_c (l := out) (by omega))) ?_))))
  refine aw_condS rfl (fun h8 => ?_) (fun h8 => ?_)
  · (first | exact absurd trivial h8 | exact absurd rfl h8 | (cases h8; done) | omega | exact absurd h8 (by decide) | (simp at h8; done))
  (repeat (first | refine walkS ?_ | (refine callPre ?_; (first | refine callN_funS rfl (AC.iv HH) ?_)) | (refine callPreL ?_; (first | refine callL_funS rfl (AC.iv HH) ?_))))
  refine aw_condS rfl (fun h9 => ?_) (fun h9 => ?_)
  · (first | exact absurd trivial h9 | exact absurd rfl h9 | (cases h9; done) | omega | exact absurd h9 (by decide) | (simp at h9; done))
  refine walkS ?_
  refine aw_condS rfl (fun h10 => ?_) (fun h10 => ?_)
  · (first | exact absurd trivial h10 | exact absurd rfl h10 | (cases h10; done) | omega | exact absurd h10 (by decide) | (simp at h10; done))
  · refine walkS ?_
    (refine aw_ret ?_; (simp only [Fin, Try.results5]; refine finS ?_); exact ⟨_, _, .inl ⟨rfl, rfl⟩, List.nodup_nil, rfl⟩)
end Go.Proofs.Ytmpokibohbhoeaa.Eng
