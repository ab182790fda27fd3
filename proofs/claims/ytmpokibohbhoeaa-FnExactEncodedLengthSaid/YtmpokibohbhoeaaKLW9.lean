/-
  The law: EncodedLength.
-/
import Derived.Test.YtmpokibohbhoeaaKL
import Derived.Test.YtmpokibohbhoeaaKLV2
import Derived.Test.YtmpokibohbhoeaaKN52
set_option linter.unusedSimpArgs false
set_option linter.unusedVariables false
namespace Go.Proofs.Ytmpokibohbhoeaa.Eng
open Go Go.RowKit

mutual
theorem lftV_tot : ∀ {x : Int} {v : V}, 0 ≤ x → 0 ≤ lftV x v → (totV v : Int) ≤ x - lftV x v
  | x, .mk n bs vs, h, k => by
    have hl : lft x bs.length = if x - bs.length < 0 then -1 else x - bs.length := rfl
    unfold lftV at k ⊢
    rw [totV]
    by_cases h1 : x - bs.length < 0
    · rw [hl, if_pos h1, if_pos (by omega)] at k
      omega
    · rw [hl, if_neg h1, if_neg h1] at k ⊢
      by_cases h2 : x - bs.length - vs.length < 0
      · rw [if_pos h2] at k
        omega
      · rw [if_neg h2] at k ⊢
        have := subV_tot (x := x - bs.length - vs.length) (vs := vs) (by omega) k
        omega
theorem subV_tot : ∀ {x : Int} {vs : List V}, 0 ≤ x → 0 ≤ subV x vs → (totVs vs : Int) ≤ x - subV x vs
  | x, [], _, _ => by rw [subV, totVs]; omega
  | x, v :: vs, h, k => by
    rw [subV] at k ⊢
    rw [totVs]
    split at k
    · omega
    · rename_i h1
      rw [if_neg h1]
      have a1 := lftV_tot (v := v) h (by omega)
      have a2 := subV_tot (x := lftV x v) (vs := vs) (by omega) k
      omega
end
private theorem tyF : ((((((bytesT Try.prog 22 = true ∧ (tyElem Try.prog 106 = some 9 ∧ tyElem Try.prog 107 = some 3)) ∧ (tyElem Try.prog 22 = some 5 ∧ (tyElem Try.prog 24 = some 109 ∧ tyElem Try.prog 32 = some 118))) ∧ ((tyElem Try.prog 35 = some 37 ∧ (tyElem Try.prog 42 = some 44 ∧ tyField Try.prog 109 0 = some (0, 9))) ∧ (tyField Try.prog 109 1 = some (1, 3) ∧ (tyField Try.prog 109 2 = some (2, 3) ∧ tyField Try.prog 109 3 = some (3, 4))))) ∧ (((tyField Try.prog 109 4 = some (4, 22) ∧ (tyField Try.prog 109 5 = some (5, 106) ∧ tyField Try.prog 109 6 = some (6, 107))) ∧ (tyField Try.prog 109 7 = some (7, 107) ∧ (tyField Try.prog 118 0 = some (0, 9) ∧ tyField Try.prog 118 1 = some (1, 3)))) ∧ ((tyField Try.prog 118 2 = some (2, 3) ∧ (tyField Try.prog 118 3 = some (3, 4) ∧ tyField Try.prog 118 4 = some (4, 22))) ∧ ((tyField Try.prog 118 5 = some (5, 106) ∧ tyField Try.prog 118 6 = some (6, 107)) ∧ (tyField Try.prog 118 7 = some (7, 107) ∧ tyField Try.prog 26 0 = some (0, 24)))))) ∧ ((((tyField Try.prog 34 0 = some (0, 32) ∧ (tyField Try.prog 37 0 = some (0, 3) ∧ tyField Try.prog 37 1 = some (1, 22))) ∧ (tyField Try.prog 37 2 = some (2, 35) ∧ (tyField Try.prog 44 0 = some (0, 3) ∧ tyField Try.prog 44 1 = some (1, 22)))) ∧ ((tyField Try.prog 44 2 = some (2, 42) ∧ (tyK Try.prog 106 = some (false, 1) ∧ tyK Try.prog 107 = some (false, 1))) ∧ (tyK Try.prog 109 = some (true, 8) ∧ (tyK Try.prog 118 = some (true, 8) ∧ tyK Try.prog 22 = some (false, 1))))) ∧ (((tyK Try.prog 24 = some (false, 1) ∧ (tyK Try.prog 26 = some (true, 1) ∧ tyK Try.prog 3 = some (false, 1))) ∧ (tyK Try.prog 32 = some (false, 1) ∧ (tyK Try.prog 34 = some (true, 1) ∧ tyK Try.prog 35 = some (false, 1)))) ∧ ((tyK Try.prog 37 = some (true, 3) ∧ (tyK Try.prog 4 = some (false, 1) ∧ tyK Try.prog 42 = some (false, 1))) ∧ ((tyK Try.prog 44 = some (true, 3) ∧ tyK Try.prog 5 = some (false, 1)) ∧ (tyK Try.prog 9 = some (false, 1) ∧ tyPlaces Try.prog 109 = some [(0, 1), (1, 1), (2, 1), (3, 1), (4, 1), (5, 1), (6, 1), (7, 1)])))))) ∧ (((((tyPlaces Try.prog 118 = some [(0, 1), (1, 1), (2, 1), (3, 1), (4, 1), (5, 1), (6, 1), (7, 1)] ∧ (tyPlaces Try.prog 26 = some [(0, 1)] ∧ tyPlaces Try.prog 34 = some [(0, 1)])) ∧ (tyPlaces Try.prog 37 = some [(0, 1), (1, 1), (2, 1)] ∧ (tyPlaces Try.prog 44 = some [(0, 1), (1, 1), (2, 1)] ∧ tyRow Try.prog 106 = some 1))) ∧ ((tyRow Try.prog 107 = some 1 ∧ (tyRow Try.prog 109 = some 8 ∧ tyRow Try.prog 118 = some 8)) ∧ (tyRow Try.prog 22 = some 1 ∧ (tyRow Try.prog 24 = some 1 ∧ tyRow Try.prog 26 = some 1)))) ∧ (((tyRow Try.prog 3 = some 1 ∧ (tyRow Try.prog 32 = some 1 ∧ tyRow Try.prog 34 = some 1)) ∧ (tyRow Try.prog 35 = some 1 ∧ (tyRow Try.prog 37 = some 3 ∧ tyRow Try.prog 4 = some 1))) ∧ ((tyRow Try.prog 42 = some 1 ∧ (tyRow Try.prog 44 = some 3 ∧ tyRow Try.prog 5 = some 1)) ∧ ((tyRow Try.prog 9 = some 1 ∧ Try.prog.underlying 106 = some (TypeDesc.slice 9)) ∧ (Try.prog.underlying 107 = some (TypeDesc.slice 3) ∧ Try.prog.underlying 22 = some (TypeDesc.slice 5)))))) ∧ ((((Try.prog.underlying 24 = some (TypeDesc.slice 109) ∧ (Try.prog.underlying 3 = some (TypeDesc.int IntKind.i64) ∧ Try.prog.underlying 32 = some (TypeDesc.slice 118))) ∧ (Try.prog.underlying 35 = some (TypeDesc.slice 37) ∧ (Try.prog.underlying 4 = some (TypeDesc.bool) ∧ Try.prog.underlying 42 = some (TypeDesc.slice 44)))) ∧ ((Try.prog.underlying 5 = some (TypeDesc.int IntKind.u8) ∧ (Try.prog.underlying 9 = some (TypeDesc.string) ∧ tyZero Try.prog 106 = some [Value.slice none 0 0])) ∧ (tyZero Try.prog 107 = some [Value.slice none 0 0] ∧ (tyZero Try.prog 109 = some [Value.string ByteArray.empty, Value.int IntKind.i64 0, Value.int IntKind.i64 0, Value.bool false, Value.slice none 0 0, Value.slice none 0 0, Value.slice none 0 0, Value.slice none 0 0] ∧ tyZero Try.prog 118 = some [Value.string ByteArray.empty, Value.int IntKind.i64 0, Value.int IntKind.i64 0, Value.bool false, Value.slice none 0 0, Value.slice none 0 0, Value.slice none 0 0, Value.slice none 0 0])))) ∧ (((tyZero Try.prog 22 = some [Value.slice none 0 0] ∧ (tyZero Try.prog 24 = some [Value.slice none 0 0] ∧ tyZero Try.prog 26 = some [Value.slice none 0 0])) ∧ (tyZero Try.prog 3 = some [Value.int IntKind.i64 0] ∧ (tyZero Try.prog 32 = some [Value.slice none 0 0] ∧ tyZero Try.prog 34 = some [Value.slice none 0 0]))) ∧ ((tyZero Try.prog 35 = some [Value.slice none 0 0] ∧ (tyZero Try.prog 37 = some [Value.int IntKind.i64 0, Value.slice none 0 0, Value.slice none 0 0] ∧ tyZero Try.prog 4 = some [Value.bool false])) ∧ ((tyZero Try.prog 42 = some [Value.slice none 0 0] ∧ tyZero Try.prog 44 = some [Value.int IntKind.i64 0, Value.slice none 0 0, Value.slice none 0 0]) ∧ (tyZero Try.prog 5 = some [Value.int IntKind.u8 0] ∧ tyZero Try.prog 9 = some [Value.string ByteArray.empty]))))))) := ⟨⟨⟨⟨⟨⟨tb22, ⟨te106, te107⟩⟩, ⟨te22, ⟨te24, te32⟩⟩⟩, ⟨⟨te35, ⟨te42, tf109_0⟩⟩, ⟨tf109_1, ⟨tf109_2, tf109_3⟩⟩⟩⟩, ⟨⟨⟨tf109_4, ⟨tf109_5, tf109_6⟩⟩, ⟨tf109_7, ⟨tf118_0, tf118_1⟩⟩⟩, ⟨⟨tf118_2, ⟨tf118_3, tf118_4⟩⟩, ⟨⟨tf118_5, tf118_6⟩, ⟨tf118_7, tf26_0⟩⟩⟩⟩⟩, ⟨⟨⟨⟨tf34_0, ⟨tf37_0, tf37_1⟩⟩, ⟨tf37_2, ⟨tf44_0, tf44_1⟩⟩⟩, ⟨⟨tf44_2, ⟨tk106, tk107⟩⟩, ⟨tk109, ⟨tk118, tk22⟩⟩⟩⟩, ⟨⟨⟨tk24, ⟨tk26, tk3⟩⟩, ⟨tk32, ⟨tk34, tk35⟩⟩⟩, ⟨⟨tk37, ⟨tk4, tk42⟩⟩, ⟨⟨tk44, tk5⟩, ⟨tk9, tp109⟩⟩⟩⟩⟩⟩, ⟨⟨⟨⟨⟨tp118, ⟨tp26, tp34⟩⟩, ⟨tp37, ⟨tp44, tr106⟩⟩⟩, ⟨⟨tr107, ⟨tr109, tr118⟩⟩, ⟨tr22, ⟨tr24, tr26⟩⟩⟩⟩, ⟨⟨⟨tr3, ⟨tr32, tr34⟩⟩, ⟨tr35, ⟨tr37, tr4⟩⟩⟩, ⟨⟨tr42, ⟨tr44, tr5⟩⟩, ⟨⟨tr9, tu106⟩, ⟨tu107, tu22⟩⟩⟩⟩⟩, ⟨⟨⟨⟨tu24, ⟨tu3, tu32⟩⟩, ⟨tu35, ⟨tu4, tu42⟩⟩⟩, ⟨⟨tu5, ⟨tu9, tz106⟩⟩, ⟨tz107, ⟨tz109, tz118⟩⟩⟩⟩, ⟨⟨⟨tz22, ⟨tz24, tz26⟩⟩, ⟨tz3, ⟨tz32, tz34⟩⟩⟩, ⟨⟨tz35, ⟨tz37, tz4⟩⟩, ⟨⟨tz42, tz44⟩, ⟨tz5, tz9⟩⟩⟩⟩⟩⟩⟩
set_option maxRecDepth 100000 in
set_option maxHeartbeats 4000000 in
theorem lawEncodedLength_c {D : List RuleD} (hD : DB 9223372036854775807 D) (i : Int) {v : V} (hv0 : VB 9223372036854775807 v) : AC Try.prog 4 [.d (encD D), .d (iD i), .d (encV v)] none (fun r' _ => r' = .d (bD true)) := by
  have a1 := lftDs_le (x := 1048576) (D := D) (by omega)
  have HZ := fun (x : Int) (hx : 0 ≤ x ∧ x ≤ 1048576) => szValue_c hv0 x hx
  obtain ⟨n, bs, vs⟩ := v
  have hev := encV_mk n bs vs
  rw [encVs_eq] at hev
  simp only [hev] at HZ ⊢
  refine calls_body Try.func4 rfl Try.call4 Try.ntmps4 (by simp) (by simp [ArgsOk]) (by simp [Rz.nkL, Rz.nk]) fun en hsz hks hk0 => ?_; simp only [St.init, frOf, Rz.addSL, Rz.addS, Rz.toAL, Rz.toA, Rz.nk, List.zipIdx_cons, List.zipIdx_nil, List.map_cons, List.map_nil, Nat.zero_add, Nat.reduceAdd]
  (repeat (first | refine walkS ?_ | (refine callPre ?_; (first | refine callN_funS rfl (szDescription_c hD 1048576 (by omega)) ?_)) | (refine callPreL ?_; (first | refine callL_funS rfl (szDescription_c hD 1048576 (by omega)) ?_))))
  refine aw_condS rfl (fun h1 => ?_) (fun h1 => ?_)
  · refine walkS ?_
    (refine aw_ret ?_; (simp only [Fin, Try.results4]; refine finS ?_); exact ⟨_, _, .inl ⟨rfl, rfl⟩, List.nodup_nil, rfl⟩)
  have hDM : DB 1048576 D := lftDs_ge (x := 1048576) (by omega) (by omega) (by omega)
  (repeat (first | refine walkS ?_ | (refine callPre ?_; (first | refine callN_funS rfl (HZ (lftDs 1048576 D) (by omega)) ?_)) | (refine callPreL ?_; (first | refine callL_funS rfl (HZ (lftDs 1048576 D) (by omega)) ?_))))
  refine aw_condS rfl (fun h2 => ?_) (fun h2 => ?_)
  · refine walkS ?_
    (refine aw_ret ?_; (simp only [Fin, Try.results4]; refine finS ?_); exact ⟨_, _, .inl ⟨rfl, rfl⟩, List.nodup_nil, rfl⟩)
  have hvM : VB 1048576 (.mk n bs vs) := lftV_ge (x := lftDs 1048576 D) (by omega) (by omega) (by omega)
  have ht := lftV_tot (x := lftDs 1048576 D) (v := .mk n bs vs) (by omega) (by omega)
  have HS := enlS_c hDM (Nat.le_refl _) i hvM (by omega)
  have HI := enlI_c hDM (Nat.le_refl _) i hvM (by omega)
  have HT := toValue_c hvM
  have HE := eqValue_c hvM
  generalize enlR D i (V.mk n bs vs) = z at HS HI
  simp only [hev] at HS HI HT HE
  (repeat (first | refine walkS ?_ | (refine callPre ?_; (first | refine callN_funS rfl (toDescription_c hDM (Nat.le_refl _)) ?_ | refine callN_funS rfl (HT) ?_ | refine callN_funS rfl (HS) ?_ | refine callN_funS rfl (HI) ?_)) | (refine callPreL ?_; (first | refine callL_funS rfl (toDescription_c hDM (Nat.le_refl _)) ?_ | refine callL_funS rfl (HT) ?_ | refine callL_funS rfl (HS) ?_ | refine callL_funS rfl (HI) ?_))))
  refine aw_condS rfl (fun h3 => ?_) (fun h3 => ?_)
  · exact absurd rfl h3
  (repeat (first | refine walkS ?_ | (refine callPre ?_; (first | refine callN_funS rfl (toDescription_c hDM (Nat.le_refl _)) ?_ | refine callN_funS rfl (HT) ?_ | refine callN_funS rfl (eqDescription_c hDM (Nat.le_refl _)) ?_ | refine callN_funS rfl (HE) ?_)) | (refine callPreL ?_; (first | refine callL_funS rfl (toDescription_c hDM (Nat.le_refl _)) ?_ | refine callL_funS rfl (HT) ?_ | refine callL_funS rfl (eqDescription_c hDM (Nat.le_refl _)) ?_ | refine callL_funS rfl (HE) ?_))))
  refine aw_condS rfl (fun hc => ?_) (fun hc => ?_)
  · (first | exact absurd trivial hc | exact absurd rfl hc | (cases hc; done) | omega | exact absurd hc (by decide) | (simp at hc; done))
  (repeat (first | refine walkS ?_ | (refine callPre ?_; (first | refine callN_funS rfl (toDescription_c hDM (Nat.le_refl _)) ?_ | refine callN_funS rfl (HT) ?_ | refine callN_funS rfl (eqDescription_c hDM (Nat.le_refl _)) ?_ | refine callN_funS rfl (HE) ?_)) | (refine callPreL ?_; (first | refine callL_funS rfl (toDescription_c hDM (Nat.le_refl _)) ?_ | refine callL_funS rfl (HT) ?_ | refine callL_funS rfl (eqDescription_c hDM (Nat.le_refl _)) ?_ | refine callL_funS rfl (HE) ?_))))
  refine aw_condS rfl (fun hc => ?_) (fun hc => ?_)
  · (first | exact absurd trivial hc | exact absurd rfl hc | (cases hc; done) | omega | exact absurd hc (by decide) | (simp at hc; done))
  · refine walkS ?_
    (refine aw_ret ?_; (simp only [Fin, Try.results4]; refine finS ?_); exact ⟨_, _, .inl ⟨rfl, rfl⟩, List.nodup_nil, rfl⟩)
end Go.Proofs.Ytmpokibohbhoeaa.Eng
