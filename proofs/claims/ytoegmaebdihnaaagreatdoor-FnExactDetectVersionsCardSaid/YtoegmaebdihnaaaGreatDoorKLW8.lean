/-
  The law: DetectVersions.
-/
import Derived.Test.YtoegmaebdihnaaaGreatDoorKLR1
import Derived.Test.YtoegmaebdihnaaaGreatDoorKM3
import Derived.Test.YtoegmaebdihnaaaGreatDoorKN43
set_option linter.unusedSimpArgs false
set_option linter.unusedVariables false
namespace Go.Proofs.YtoegmaebdihnaaaGreatDoor.Eng
open Go Go.RowKit

theorem lftS_cnt {x : Int} {l : List ByteArray} (h : 0 ≤ x) (k : 0 ≤ lftS x l) : (l.length : Int) ≤ x - lftS x l := by
  unfold lftS at k ⊢
  split
  · rename_i h1; rw [if_pos h1] at k; omega
  · have := subS_le (x := x - l.length) (l := l) (by omega)
    omega
theorem lftR_cnt {x : Int} {r : RuleD} (h : 0 ≤ x) (k : 0 ≤ lftR x r) : (cntR r : Int) ≤ 4 + (x - lftR x r) := by
  unfold lftR at k ⊢
  unfold cntR
  split
  · rename_i h1; rw [if_pos h1] at k; omega
  · rename_i h1
    rw [if_neg h1] at k
    have a1 := lft_le (x := x - r.name.size) (n := r.bytes.length) (by omega)
    split
    · rename_i h2; rw [if_pos h2] at k; omega
    · rename_i h2
      rw [if_neg h2] at k
      have b1 := lft_ge (x := x - r.name.size) (n := r.bytes.length) (by omega)
      have a2 := lftS_le (x := lft (x - r.name.size) r.bytes.length) (l := r.names) (by omega)
      split
      · rename_i h3; rw [if_pos h3] at k; omega
      · rename_i h3
        rw [if_neg h3] at k
        have b2 := lftS_cnt (x := lft (x - r.name.size) r.bytes.length) (l := r.names) (by omega) (by omega)
        have a3 := lft_le (x := lftS (lft (x - r.name.size) r.bytes.length) r.names) (n := r.tags.length) (by omega)
        split
        · rename_i h4; rw [if_pos h4] at k; omega
        · rename_i h4
          rw [if_neg h4] at k
          have b3 := lft_ge (x := lftS (lft (x - r.name.size) r.bytes.length) r.names) (n := r.tags.length) (by omega)
          have b4 := lft_ge (x := lft (lftS (lft (x - r.name.size) r.bytes.length) r.names) r.tags.length) (n := r.kids.length) k
          omega
theorem subR_cnt : ∀ {D : List RuleD} {x : Int}, 0 ≤ x → 0 ≤ subR x D → (cntRs D : Int) ≤ 4 * D.length + (x - subR x D)
  | [], x, h, k => by unfold subR; simp [cntRs]
  | r :: D, x, h, k => by
    unfold subR at k ⊢
    have hb := lftR_le (r := r) h
    split
    · rename_i h1; rw [if_pos h1] at k; omega
    · rename_i h1
      rw [if_neg h1] at k
      have h2 := lftR_cnt (r := r) h (by omega)
      have h3 := subR_cnt (D := D) (x := lftR x r) (by omega) k
      simp only [cntRs, List.length_cons]
      omega
theorem lftDs_cnt {D : List RuleD} {x : Int} (h : 0 ≤ x) (k : 0 ≤ lftDs x D) : (cntRs D : Int) ≤ 4 * (x - lftDs x D) := by
  unfold lftDs at k ⊢
  split
  · rename_i h1; rw [if_pos h1] at k; omega
  · rename_i h1
    rw [if_neg h1] at k
    have := subR_cnt (D := D) (x := x - D.length) (by omega) k
    have := subR_le (l := D) (x := x - D.length) (by omega)
    omega
theorem subG_cnt : ∀ {l : List (List RuleD)} {x : Int}, 0 ≤ x → 0 ≤ subG x l → (cntG l : Int) ≤ 4 * (x - subG x l)
  | [], x, h, k => by unfold subG; simp [cntG]
  | D :: l, x, h, k => by
    unfold subG at k ⊢
    have hb := lftDs_le (D := D) h
    split
    · rename_i h1; rw [if_pos h1] at k; omega
    · rename_i h1
      rw [if_neg h1] at k
      have h2 := lftDs_cnt (D := D) h (by omega)
      have h3 := subG_cnt (l := l) (x := lftDs x D) (by omega) k
      simp only [cntG]
      omega
theorem lftG_cnt {l : List (List RuleD)} {x : Int} (h : 0 ≤ x) (k : 0 ≤ lftG x l) : (cntG l : Int) ≤ 4 * x := by
  unfold lftG at k
  split at k
  · omega
  · have := subG_cnt (l := l) (x := x - l.length) (by omega) k
    have := subG_le (l := l) (x := x - l.length) (by omega)
    omega
private theorem tyF : ((((((bytesT Tryz.prog 25 = true ∧ (tyElem Tryz.prog 104 = some 9 ∧ tyElem Tryz.prog 22 = some 106)) ∧ (tyElem Tryz.prog 25 = some 5 ∧ (tyElem Tryz.prog 28 = some 107 ∧ tyElem Tryz.prog 50 = some 24))) ∧ ((tyElem Tryz.prog 54 = some 3 ∧ (tyElem Tryz.prog 56 = some 30 ∧ tyField Tryz.prog 106 0 = some (0, 9))) ∧ (tyField Tryz.prog 106 1 = some (1, 3) ∧ (tyField Tryz.prog 106 2 = some (2, 3) ∧ tyField Tryz.prog 106 3 = some (3, 4))))) ∧ (((tyField Tryz.prog 106 4 = some (4, 25) ∧ (tyField Tryz.prog 106 5 = some (5, 104) ∧ tyField Tryz.prog 106 6 = some (6, 54))) ∧ (tyField Tryz.prog 106 7 = some (7, 54) ∧ (tyField Tryz.prog 107 0 = some (0, 9) ∧ tyField Tryz.prog 107 1 = some (1, 3)))) ∧ ((tyField Tryz.prog 107 2 = some (2, 3) ∧ (tyField Tryz.prog 107 3 = some (3, 4) ∧ tyField Tryz.prog 107 4 = some (4, 25))) ∧ (tyField Tryz.prog 107 5 = some (5, 104) ∧ (tyField Tryz.prog 107 6 = some (6, 54) ∧ tyField Tryz.prog 107 7 = some (7, 54)))))) ∧ ((((tyField Tryz.prog 24 0 = some (0, 22) ∧ (tyField Tryz.prog 30 0 = some (0, 28) ∧ tyField Tryz.prog 52 0 = some (0, 50))) ∧ (tyField Tryz.prog 58 0 = some (0, 56) ∧ (tyK Tryz.prog 104 = some (false, 1) ∧ tyK Tryz.prog 106 = some (true, 8)))) ∧ ((tyK Tryz.prog 107 = some (true, 8) ∧ (tyK Tryz.prog 22 = some (false, 1) ∧ tyK Tryz.prog 24 = some (true, 1))) ∧ (tyK Tryz.prog 25 = some (false, 1) ∧ (tyK Tryz.prog 28 = some (false, 1) ∧ tyK Tryz.prog 3 = some (false, 1))))) ∧ (((tyK Tryz.prog 30 = some (true, 1) ∧ (tyK Tryz.prog 4 = some (false, 1) ∧ tyK Tryz.prog 5 = some (false, 1))) ∧ (tyK Tryz.prog 50 = some (false, 1) ∧ (tyK Tryz.prog 52 = some (true, 1) ∧ tyK Tryz.prog 54 = some (false, 1)))) ∧ ((tyK Tryz.prog 56 = some (false, 1) ∧ (tyK Tryz.prog 58 = some (true, 1) ∧ tyK Tryz.prog 9 = some (false, 1))) ∧ (tyPlaces Tryz.prog 106 = some [(0, 1), (1, 1), (2, 1), (3, 1), (4, 1), (5, 1), (6, 1), (7, 1)] ∧ (tyPlaces Tryz.prog 107 = some [(0, 1), (1, 1), (2, 1), (3, 1), (4, 1), (5, 1), (6, 1), (7, 1)] ∧ tyPlaces Tryz.prog 24 = some [(0, 1)])))))) ∧ (((((tyPlaces Tryz.prog 30 = some [(0, 1)] ∧ (tyPlaces Tryz.prog 52 = some [(0, 1)] ∧ tyPlaces Tryz.prog 58 = some [(0, 1)])) ∧ (tyRow Tryz.prog 104 = some 1 ∧ (tyRow Tryz.prog 106 = some 8 ∧ tyRow Tryz.prog 107 = some 8))) ∧ ((tyRow Tryz.prog 22 = some 1 ∧ (tyRow Tryz.prog 24 = some 1 ∧ tyRow Tryz.prog 25 = some 1)) ∧ (tyRow Tryz.prog 28 = some 1 ∧ (tyRow Tryz.prog 3 = some 1 ∧ tyRow Tryz.prog 30 = some 1)))) ∧ (((tyRow Tryz.prog 4 = some 1 ∧ (tyRow Tryz.prog 5 = some 1 ∧ tyRow Tryz.prog 50 = some 1)) ∧ (tyRow Tryz.prog 52 = some 1 ∧ (tyRow Tryz.prog 54 = some 1 ∧ tyRow Tryz.prog 56 = some 1))) ∧ ((tyRow Tryz.prog 58 = some 1 ∧ (tyRow Tryz.prog 9 = some 1 ∧ Tryz.prog.underlying 104 = some (TypeDesc.slice 9))) ∧ (Tryz.prog.underlying 22 = some (TypeDesc.slice 106) ∧ (Tryz.prog.underlying 25 = some (TypeDesc.slice 5) ∧ Tryz.prog.underlying 28 = some (TypeDesc.slice 107)))))) ∧ ((((Tryz.prog.underlying 3 = some (TypeDesc.int IntKind.i64) ∧ (Tryz.prog.underlying 4 = some (TypeDesc.bool) ∧ Tryz.prog.underlying 5 = some (TypeDesc.int IntKind.u8))) ∧ (Tryz.prog.underlying 50 = some (TypeDesc.slice 24) ∧ (Tryz.prog.underlying 54 = some (TypeDesc.slice 3) ∧ Tryz.prog.underlying 56 = some (TypeDesc.slice 30)))) ∧ ((Tryz.prog.underlying 9 = some (TypeDesc.string) ∧ (tyZero Tryz.prog 104 = some [Value.slice none 0 0] ∧ tyZero Tryz.prog 106 = some [Value.string ByteArray.empty, Value.int IntKind.i64 0, Value.int IntKind.i64 0, Value.bool false, Value.slice none 0 0, Value.slice none 0 0, Value.slice none 0 0, Value.slice none 0 0])) ∧ (tyZero Tryz.prog 107 = some [Value.string ByteArray.empty, Value.int IntKind.i64 0, Value.int IntKind.i64 0, Value.bool false, Value.slice none 0 0, Value.slice none 0 0, Value.slice none 0 0, Value.slice none 0 0] ∧ (tyZero Tryz.prog 22 = some [Value.slice none 0 0] ∧ tyZero Tryz.prog 24 = some [Value.slice none 0 0])))) ∧ (((tyZero Tryz.prog 25 = some [Value.slice none 0 0] ∧ (tyZero Tryz.prog 28 = some [Value.slice none 0 0] ∧ tyZero Tryz.prog 3 = some [Value.int IntKind.i64 0])) ∧ (tyZero Tryz.prog 30 = some [Value.slice none 0 0] ∧ (tyZero Tryz.prog 4 = some [Value.bool false] ∧ tyZero Tryz.prog 5 = some [Value.int IntKind.u8 0]))) ∧ ((tyZero Tryz.prog 50 = some [Value.slice none 0 0] ∧ (tyZero Tryz.prog 52 = some [Value.slice none 0 0] ∧ tyZero Tryz.prog 54 = some [Value.slice none 0 0])) ∧ (tyZero Tryz.prog 56 = some [Value.slice none 0 0] ∧ (tyZero Tryz.prog 58 = some [Value.slice none 0 0] ∧ tyZero Tryz.prog 9 = some [Value.string ByteArray.empty]))))))) := ⟨⟨⟨⟨⟨⟨tb25, ⟨te104, te22⟩⟩, ⟨te25, ⟨te28, te50⟩⟩⟩, ⟨⟨te54, ⟨te56, tf106_0⟩⟩, ⟨tf106_1, ⟨tf106_2, tf106_3⟩⟩⟩⟩, ⟨⟨⟨tf106_4, ⟨tf106_5, tf106_6⟩⟩, ⟨tf106_7, ⟨tf107_0, tf107_1⟩⟩⟩, ⟨⟨tf107_2, ⟨tf107_3, tf107_4⟩⟩, ⟨tf107_5, ⟨tf107_6, tf107_7⟩⟩⟩⟩⟩, ⟨⟨⟨⟨tf24_0, ⟨tf30_0, tf52_0⟩⟩, ⟨tf58_0, ⟨tk104, tk106⟩⟩⟩, ⟨⟨tk107, ⟨tk22, tk24⟩⟩, ⟨tk25, ⟨tk28, tk3⟩⟩⟩⟩, ⟨⟨⟨tk30, ⟨tk4, tk5⟩⟩, ⟨tk50, ⟨tk52, tk54⟩⟩⟩, ⟨⟨tk56, ⟨tk58, tk9⟩⟩, ⟨tp106, ⟨tp107, tp24⟩⟩⟩⟩⟩⟩, ⟨⟨⟨⟨⟨tp30, ⟨tp52, tp58⟩⟩, ⟨tr104, ⟨tr106, tr107⟩⟩⟩, ⟨⟨tr22, ⟨tr24, tr25⟩⟩, ⟨tr28, ⟨tr3, tr30⟩⟩⟩⟩, ⟨⟨⟨tr4, ⟨tr5, tr50⟩⟩, ⟨tr52, ⟨tr54, tr56⟩⟩⟩, ⟨⟨tr58, ⟨tr9, tu104⟩⟩, ⟨tu22, ⟨tu25, tu28⟩⟩⟩⟩⟩, ⟨⟨⟨⟨tu3, ⟨tu4, tu5⟩⟩, ⟨tu50, ⟨tu54, tu56⟩⟩⟩, ⟨⟨tu9, ⟨tz104, tz106⟩⟩, ⟨tz107, ⟨tz22, tz24⟩⟩⟩⟩, ⟨⟨⟨tz25, ⟨tz28, tz3⟩⟩, ⟨tz30, ⟨tz4, tz5⟩⟩⟩, ⟨⟨tz50, ⟨tz52, tz54⟩⟩, ⟨tz56, ⟨tz58, tz9⟩⟩⟩⟩⟩⟩⟩
set_option maxRecDepth 100000 in
set_option maxHeartbeats 1000000 in
theorem lawDetect_c {l : List (List RuleD)} (hl : GB 9223372036854775807 l) {b : List UInt8} (hb0 : b.length ≤ 9223372036854775807) : AC Tryz.prog 8 [.d (encG l), .d (encB b)] none (fun r' _ => r' = .d (bD true)) := by
  unfold encG
  refine calls_bodyL Tryz.func8 rfl Tryz.call8 Tryz.ntmps8 (by simp) (by simp [ArgsOk]) fun en hsz hcok hX hks => ?_; simp only [St.init, frOf, Rz.addSL, Rz.addS, Rz.toAL, Rz.toA, Rz.nk, List.zipIdx_cons, List.zipIdx_nil, List.map_cons, List.map_nil, Nat.zero_add, Nat.reduceAdd]
  refine walkS ?_
  refine aw_condS rfl (fun h0 => ?_) (fun h0 => ?_)
  · refine walkS ?_
    (refine aw_ret ?_; (simp only [Fin, Tryz.results8]; refine finS ?_); exact ⟨_, _, .inl ⟨rfl, rfl⟩, List.nodup_nil, rfl⟩)
  have hb : b.length ≤ 1048576 := by omega
  (repeat (first | refine walkS ?_ | (refine callPre ?_; (first | refine callN_funS rfl (szRegistry_c hl 1048576 (by omega)) ?_)) | (refine callPreL ?_; (first | refine callL_funS rfl (szRegistry_c hl 1048576 (by omega)) ?_))))
  refine aw_condS rfl (fun h1 => ?_) (fun h1 => ?_)
  · refine walkS ?_
    (refine aw_ret ?_; (simp only [Fin, Tryz.results8]; refine finS ?_); exact ⟨_, _, .inl ⟨rfl, rfl⟩, List.nodup_nil, rfl⟩)
  have hlM : GB 1048576 l := lftG_ge (x := 1048576) (by omega) (by omega) (by omega)
  have hcn := lftG_cnt (l := l) (x := 1048576) (by omega) (by omega)
  have HS := detS_c hlM hb
  have HI := detI_c hlM hb
  have hTl := detK_len l b l.length
  have hl2 := hlM.len
  generalize detK l b l.length = out at HS HI hTl
  (repeat (first | refine walkS ?_ | (refine callPre ?_; (first | refine callN_funS rfl (toRegistry_c hlM) ?_ | refine callN_funS rfl (toByteS_c hb) ?_)) | (refine callPreL ?_; (first | refine callL_funS rfl (toRegistry_c hlM) ?_ | refine callL_funS rfl (toByteS_c hb) ?_))))
  (refine ow_callDA [] [] ?_ (fun x hx => by cases hx <;> (rw [hsz]; decide)) rfl (ACD.iv (HS.acd (ownI_ok _)) ?_) (fun n hn => ?_); (first | exact trivial | exact rfl); (repeat (first | exact IvL.nil | refine IvL.iv ?_ | refine IvL.agg1 ?_ | refine IvL.same ?_)); simp (decide := true) only [St.bound, boundA_iv, boundA_sl, boundA_B, boundA_I, boundA_S, boundA_Ds, boundA_v, St.f, lk, St.set, rzI, rzIL, reduceIte, List.map_cons, List.map_nil, List.cons_append, List.nil_append, Option.map_some, Option.map_none])
  refine walkS ?_
  (refine ow_callDA [1, 6] [16] ?_ (fun x hx => by cases hx <;> (rw [hsz]; decide)) rfl (ACD.iv ((toRegistry_n hlM).acd) ?_) (fun n hn => ?_); (first | exact trivial | exact rfl); (repeat (first | exact IvL.nil | refine IvL.iv ?_ | refine IvL.agg1 ?_ | refine IvL.same ?_)); simp (decide := true) only [St.bound, boundA_iv, boundA_sl, boundA_B, boundA_I, boundA_S, boundA_Ds, boundA_v, St.f, lk, St.set, rzI, rzIL, reduceIte, List.map_cons, List.map_nil, List.cons_append, List.nil_append, Option.map_some, Option.map_none])
  refine walkS ?_
  (refine ow_callDA [1, 6] [16, 80] ?_ (fun x hx => by cases hx <;> (rw [hsz]; decide)) rfl (ACD.iv ((toByteS_i hb).acd) ?_) (fun n hn => ?_); (first | exact trivial | exact rfl); (repeat (first | exact IvL.nil | refine IvL.iv ?_ | refine IvL.agg1 ?_ | refine IvL.same ?_)); simp (decide := true) only [St.bound, boundA_iv, boundA_sl, boundA_B, boundA_I, boundA_S, boundA_Ds, boundA_v, St.f, lk, St.set, rzI, rzIL, reduceIte, List.map_cons, List.map_nil, List.cons_append, List.nil_append, Option.map_some, Option.map_none])
  refine walkS ?_
  (refine ow_callDA [1, 6, 8] [16, 80] ?_ (fun x hx => by cases hx <;> (rw [hsz]; decide)) rfl (ACD.iv (HI.acd (ownI_ok _)) ?_) (fun n hn => ?_); (first | exact trivial | exact rfl); (repeat (first | exact IvL.nil | refine IvL.iv ?_ | refine IvL.agg1 ?_ | refine IvL.same ?_)); simp (decide := true) only [St.bound, boundA_iv, boundA_sl, boundA_B, boundA_I, boundA_S, boundA_Ds, boundA_v, St.f, lk, St.set, rzI, rzIL, reduceIte, List.map_cons, List.map_nil, List.cons_append, List.nil_append, Option.map_some, Option.map_none])
  (repeat (first | refine walkS ?_ | (refine callPre ?_; (first | refine callN_funS rfl (AC.iv (eqIntS_c (l := out) (by omega))) ?_)) | (refine callPreL ?_; (first | refine callL_funS rfl (AC.iv (eqIntS_c (l := out) (by omega))) ?_))))
  refine aw_condS rfl (fun h2 => ?_) (fun h2 => ?_)
  · (first | exact absurd trivial h2 | exact absurd rfl h2 | (cases h2; done) | omega | exact absurd h2 (by decide) | (simp at h2; done))
  (repeat (first | refine walkS ?_ | (refine callPre ?_; (first | refine callN_funS rfl (AC.iv (toRegistry_c hlM)) ?_ | refine callN_funS rfl (AC.iv (eqRegistry_c hlM)) ?_)) | (refine callPreL ?_; (first | refine callL_funS rfl (AC.iv (toRegistry_c hlM)) ?_ | refine callL_funS rfl (AC.iv (eqRegistry_c hlM)) ?_))))
  refine aw_condS rfl (fun h3 => ?_) (fun h3 => ?_)
  · (first | exact absurd trivial h3 | exact absurd rfl h3 | (cases h3; done) | omega | exact absurd h3 (by decide) | (simp at h3; done))
  (repeat (first | refine walkS ?_ | (refine callPre ?_; (first | refine callN_funS rfl (AC.iv (toByteS_c hb)) ?_ | refine callN_funS rfl (AC.iv (eqByteS_c hb)) ?_)) | (refine callPreL ?_; (first | refine callL_funS rfl (AC.iv (toByteS_c hb)) ?_ | refine callL_funS rfl (AC.iv (eqByteS_c hb)) ?_))))
  refine aw_condS rfl (fun h4 => ?_) (fun h4 => ?_)
  · (first | exact absurd trivial h4 | exact absurd rfl h4 | (cases h4; done) | omega | exact absurd h4 (by decide) | (simp at h4; done))
  refine walkS ?_
  (refine ow_mark [1, 2, 6, 8, 9, 10] [16] ?_ (fun x hx => by cases hx <;> (rw [hsz]; decide)) rfl rfl rfl ⟨markG_1 (by omega), on_agg1, hcok, (by intro b h; (try dsimp only at h); omega), (by (repeat (refine And.intro (by first | exact Safe.v | exact Safe.ptr | exact Safe.iv (by intro b h1 h2; (try dsimp only at h1 h2); omega) | exact Safe.top) ?_)); exact trivial), (by (repeat (refine And.intro (by intro cs hcs; cases hcs; (repeat (refine And.intro (by first | exact Safe.v | exact Safe.ptr | exact Safe.iv (by intro b h1 h2; (try dsimp only at h1 h2); omega) | exact Safe.top) ?_)); exact trivial) ?_)); exact trivial)⟩ ?_; (first | exact trivial | exact rfl); simp (decide := true) only [St.keep, St.f, lk, St.set, reduceIte, List.map_cons, List.map_nil, List.cons_append, List.nil_append])
  refine walkS ?_
  (refine ow_mark [1, 2, 6, 9, 10] [16] ?_ (fun x hx => by cases hx <;> (rw [hsz]; decide)) rfl rfl rfl ⟨markB_m (l := b) (by omega) (by omega), on_iv, hcok, (by intro b h; (try dsimp only at h); omega), (by (repeat (refine And.intro (by first | exact Safe.v | exact Safe.ptr | exact Safe.iv (by intro b h1 h2; (try dsimp only at h1 h2); omega) | exact Safe.top) ?_)); exact trivial), (by (repeat (refine And.intro (by intro cs hcs; cases hcs; (repeat (refine And.intro (by first | exact Safe.v | exact Safe.ptr | exact Safe.iv (by intro b h1 h2; (try dsimp only at h1 h2); omega) | exact Safe.top) ?_)); exact trivial) ?_)); exact trivial)⟩ ?_; (first | exact trivial | exact rfl); simp (decide := true) only [St.keep, St.f, lk, St.set, reduceIte, List.map_cons, List.map_nil, List.cons_append, List.nil_append])
  have e1 : decide (1 + (cntG l : Int) + b.length < 0) = false := decide_eq_false (by omega)
  (repeat (first | refine aw_seq ?_ | refine aw_region ?_ | refine aw_block ?_ | (refine aw_exit ?_; (try simp (decide := true) only [reduceIte])) | (refine aw_skip ?_; try dsimp only) | (refine aw_any (by kernel_rfl) (by kernel_rfl) (by simp only [hsz]; kernel_rfl) ?_) | (refine ow_nil ?_; try dsimp only) | (refine ol_go ?_ (fun K1 hK1 => ?_); (first | exact trivial | exact rfl); refine evS ?_; (try simp only [e1]); refine hK1 _ _ ?_; clear hK1 K1) | (refine ol_skip rfl rfl ?_ ?_; (focus (intro hne; cases hne; done)); simp only [St.set]) | (refine ol_nil ⟨by kernel_rfl, ?_⟩; try dsimp only) | (refine ow_go ?_ (fun x hx => by cases hx <;> (rw [hsz]; decide)) (fun K1 hK1 => ?_); (first | exact trivial | exact rfl); refine evS ?_; (try simp only [e1]); refine hK1 _ ?_; clear hK1 K1) | (refine ow_skip rfl rfl ?_ (fun x hx => by cases hx <;> (rw [hsz]; decide)) ?_; (focus (intro hne; cases hne; done)); simp only [St.set]) | (refine callPre ?_; (first | refine callN_funS rfl (AC.iv (eqIntS_c (l := out) (by omega))) ?_)) | (refine callPreL ?_; (first | refine callL_funS rfl (AC.iv (eqIntS_c (l := out) (by omega))) ?_))))
  refine aw_condS rfl (fun h5 => ?_) (fun h5 => ?_)
  · (first | exact absurd trivial h5 | exact absurd rfl h5 | (cases h5; done) | omega | exact absurd h5 (by decide) | (simp at h5; done))
  (iterate 7 (first | refine aw_seq ?_ | refine aw_region ?_ | refine aw_block ?_ | (refine aw_exit ?_; (try simp (decide := true) only [reduceIte])) | (refine aw_skip ?_; try dsimp only) | (refine aw_any (by kernel_rfl) (by kernel_rfl) (by simp only [hsz]; kernel_rfl) ?_) | (refine ow_nil ?_; try dsimp only) | (refine ol_go ?_ (fun K1 hK1 => ?_); (first | exact trivial | exact rfl); refine evS ?_; refine hK1 _ _ ?_; clear hK1 K1) | (refine ol_skip rfl rfl ?_ ?_; (focus (intro hne; cases hne; done)); simp only [St.set]) | (refine ol_nil ⟨by kernel_rfl, ?_⟩; try dsimp only) | (refine ow_go ?_ (fun x hx => by cases hx <;> (rw [hsz]; decide)) (fun K1 hK1 => ?_); (first | exact trivial | exact rfl); refine evS ?_; refine hK1 _ ?_; clear hK1 K1) | (refine ow_skip rfl rfl ?_ (fun x hx => by cases hx <;> (rw [hsz]; decide)) ?_; (focus (intro hne; cases hne; done)); simp only [St.set])))
  (refine ow_mark3 [1, 2, 6] [16] rfl rfl rfl rfl rfl rfl rfl rfl (by rw [hsz]; decide) (by rw [hsz]; decide) (by rw [hsz]; decide) (by decide) rfl rfl rfl ⟨markI_x (l := out) (k := 1) (by omega) (by omega), on_iv, hcok, (by intro b h; (try dsimp only at h); omega), (by (repeat (refine And.intro (by first | exact Safe.v | exact Safe.ptr | exact Safe.iv (by intro b h1 h2; (try dsimp only at h1 h2); omega) | exact Safe.top) ?_)); exact trivial), (by (repeat (refine And.intro (by intro cs hcs; cases hcs; (repeat (refine And.intro (by first | exact Safe.v | exact Safe.ptr | exact Safe.iv (by intro b h1 h2; (try dsimp only at h1 h2); omega) | exact Safe.top) ?_)); exact trivial) ?_)); exact trivial)⟩ ?_; simp (decide := true) only [St.keep, St.f, lk, St.set, reduceIte, List.map_cons, List.map_nil, List.cons_append, List.nil_append])
  have HH := heldI_c (k := 1) (n := out.length) (by omega) (by omega)
  (repeat (first | refine walkS ?_ | (refine callPre ?_; (first | refine callN_funS rfl (AC.iv HH) ?_)) | (refine callPreL ?_; (first | refine callL_funS rfl (AC.iv HH) ?_))))
  refine aw_condS rfl (fun h6 => ?_) (fun h6 => ?_)
  · (first | exact absurd trivial h6 | exact absurd rfl h6 | (cases h6; done) | omega | exact absurd h6 (by decide) | (simp at h6; done))
  refine walkS ?_
  refine aw_condS rfl (fun h7 => ?_) (fun h7 => ?_)
  · (first | exact absurd trivial h7 | exact absurd rfl h7 | (cases h7; done) | omega | exact absurd h7 (by decide) | (simp at h7; done))
  (repeat (first | refine walkS ?_ | (refine callPre ?_; (first | refine callN_funS rfl (AC.iv (toRegistry_c hlM)) ?_ | refine callN_funS rfl (AC.iv (toByteS_c hb)) ?_ | refine callN_funS rfl (HI) ?_)) | (refine callPreL ?_; (first | refine callL_funS rfl (AC.iv (toRegistry_c hlM)) ?_ | refine callL_funS rfl (AC.iv (toByteS_c hb)) ?_ | refine callL_funS rfl (HI) ?_))))
  (repeat (first | refine walkS ?_ | (refine callPre ?_; (first | refine callN_funS rfl (AC.iv (eqIntS_c (l := out) (by omega))) ?_)) | (refine callPreL ?_; (first | refine callL_funS rfl (AC.iv (eqIntS_c (l := out) (by omega))) ?_))))
  refine aw_condS rfl (fun h8 => ?_) (fun h8 => ?_)
  · (first | exact absurd trivial h8 | exact absurd rfl h8 | (cases h8; done) | omega | exact absurd h8 (by decide) | (simp at h8; done))
  (repeat (first | refine walkS ?_ | (refine callPre ?_; (first | refine callN_funS rfl (AC.iv HH) ?_)) | (refine callPreL ?_; (first | refine callL_funS rfl (AC.iv HH) ?_))))
  refine aw_condS rfl (fun h9 => ?_) (fun h9 => ?_)
  · (first | exact absurd trivial h9 | exact absurd rfl h9 | (cases h9; done) | omega | exact absurd h9 (by decide) | (simp at h9; done))
  refine walkS ?_
  refine aw_condS rfl (fun h10 => ?_) (fun h10 => ?_)
  · (first | exact absurd trivial h10 | exact absurd rfl h10 | (cases h10; done) | omega | exact absurd h10 (by decide) | (simp at h10; done))
  · refine walkS ?_
    (refine aw_ret ?_; (simp only [Fin, Tryz.results8]; refine finS ?_); exact ⟨_, _, .inl ⟨rfl, rfl⟩, List.nodup_nil, rfl⟩)
end Go.Proofs.YtoegmaebdihnaaaGreatDoor.Eng
