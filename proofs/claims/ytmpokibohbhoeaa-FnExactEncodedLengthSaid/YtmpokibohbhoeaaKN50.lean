/-
  PrintValue, EncodedLength: the reference.
-/
import Derived.Test.YtmpokibohbhoeaaKN49
set_option linter.unusedSimpArgs false
set_option linter.unusedVariables false
namespace Go.Proofs.Ytmpokibohbhoeaa.Eng
open Go Go.RowKit

section
variable {M : Nat} {D : List RuleD}
theorem printS_all (hD : DB M D) (hM : M ≤ 1048576) (hV : descP D) : ∀ N : Nat, ∀ {v : V}, SizeOf.sizeOf v ≤ N → VB 1048576 v → PrS D v
  | 0, .mk n bs vs, h, _ => by simp only [V.mk.sizeOf_spec] at h; omega
  | N + 1, .mk n bs vs, h, hv => printS_step hD hM hV hv fun v hvm => printS_all hD hM hV N (by have := item_lt (n := n) (bs := bs) hvm; omega) (by unfold VB at hv; exact hv.2.2.el v hvm)
/-- What printing answers. -/
noncomputable def prR (D : List RuleD) (i : Int) (v : V) : List UInt8 × Bool := if isVal D i v = true ∧ (prV D i v).length ≤ 400 then (prV D i v, true) else ([], false)
theorem prR_t {i : Int} {v : V} (h : isVal D i v = true) (h2 : (prV D i v).length ≤ 400) : prR D i v = (prV D i v, true) := if_pos ⟨h, h2⟩
theorem prR_f {i : Int} {v : V} (h : isVal D i v = false) : prR D i v = ([], false) := if_neg (by rw [h]; rintro ⟨h, _⟩; cases h)
theorem prR_l {i : Int} {v : V} (h : ¬ (prV D i v).length ≤ 400) : prR D i v = ([], false) := if_neg fun h2 => h h2.2
/-- Printing's answer: a row of its own, and whether all is well. -/
abbrev prRz (x : List UInt8 × Bool) : Rz := .tup [.own 5 1 (x.1.map fun c => [uD c]), .d (bD x.2)]
private theorem tyF : ((((((bytesT Try.prog 22 = true ∧ tyElem Try.prog 106 = some 9) ∧ (tyElem Try.prog 107 = some 3 ∧ tyElem Try.prog 22 = some 5)) ∧ ((tyElem Try.prog 24 = some 109 ∧ tyElem Try.prog 42 = some 44) ∧ (tyField Try.prog 109 0 = some (0, 9) ∧ tyField Try.prog 109 1 = some (1, 3)))) ∧ (((tyField Try.prog 109 2 = some (2, 3) ∧ tyField Try.prog 109 3 = some (3, 4)) ∧ (tyField Try.prog 109 4 = some (4, 22) ∧ tyField Try.prog 109 5 = some (5, 106))) ∧ ((tyField Try.prog 109 6 = some (6, 107) ∧ tyField Try.prog 109 7 = some (7, 107)) ∧ (tyField Try.prog 26 0 = some (0, 24) ∧ tyField Try.prog 44 0 = some (0, 3))))) ∧ ((((tyField Try.prog 44 1 = some (1, 22) ∧ tyField Try.prog 44 2 = some (2, 42)) ∧ (tyK Try.prog 106 = some (false, 1) ∧ tyK Try.prog 107 = some (false, 1))) ∧ ((tyK Try.prog 109 = some (true, 8) ∧ tyK Try.prog 22 = some (false, 1)) ∧ (tyK Try.prog 24 = some (false, 1) ∧ tyK Try.prog 26 = some (true, 1)))) ∧ (((tyK Try.prog 3 = some (false, 1) ∧ tyK Try.prog 4 = some (false, 1)) ∧ (tyK Try.prog 42 = some (false, 1) ∧ tyK Try.prog 44 = some (true, 3))) ∧ ((tyK Try.prog 5 = some (false, 1) ∧ tyK Try.prog 9 = some (false, 1)) ∧ (tyPlaces Try.prog 109 = some [(0, 1), (1, 1), (2, 1), (3, 1), (4, 1), (5, 1), (6, 1), (7, 1)] ∧ (tyPlaces Try.prog 26 = some [(0, 1)] ∧ tyPlaces Try.prog 44 = some [(0, 1), (1, 1), (2, 1)])))))) ∧ (((((tyRow Try.prog 106 = some 1 ∧ tyRow Try.prog 107 = some 1) ∧ (tyRow Try.prog 109 = some 8 ∧ tyRow Try.prog 22 = some 1)) ∧ ((tyRow Try.prog 24 = some 1 ∧ tyRow Try.prog 26 = some 1) ∧ (tyRow Try.prog 3 = some 1 ∧ tyRow Try.prog 4 = some 1))) ∧ (((tyRow Try.prog 42 = some 1 ∧ tyRow Try.prog 44 = some 3) ∧ (tyRow Try.prog 5 = some 1 ∧ tyRow Try.prog 9 = some 1)) ∧ ((Try.prog.underlying 106 = some (TypeDesc.slice 9) ∧ Try.prog.underlying 107 = some (TypeDesc.slice 3)) ∧ (Try.prog.underlying 22 = some (TypeDesc.slice 5) ∧ Try.prog.underlying 24 = some (TypeDesc.slice 109))))) ∧ ((((Try.prog.underlying 3 = some (TypeDesc.int IntKind.i64) ∧ Try.prog.underlying 4 = some (TypeDesc.bool)) ∧ (Try.prog.underlying 42 = some (TypeDesc.slice 44) ∧ Try.prog.underlying 5 = some (TypeDesc.int IntKind.u8))) ∧ ((Try.prog.underlying 9 = some (TypeDesc.string) ∧ tyZero Try.prog 106 = some [Value.slice none 0 0]) ∧ (tyZero Try.prog 107 = some [Value.slice none 0 0] ∧ tyZero Try.prog 109 = some [Value.string ByteArray.empty, Value.int IntKind.i64 0, Value.int IntKind.i64 0, Value.bool false, Value.slice none 0 0, Value.slice none 0 0, Value.slice none 0 0, Value.slice none 0 0]))) ∧ (((tyZero Try.prog 22 = some [Value.slice none 0 0] ∧ tyZero Try.prog 24 = some [Value.slice none 0 0]) ∧ (tyZero Try.prog 26 = some [Value.slice none 0 0] ∧ tyZero Try.prog 3 = some [Value.int IntKind.i64 0])) ∧ ((tyZero Try.prog 4 = some [Value.bool false] ∧ tyZero Try.prog 42 = some [Value.slice none 0 0]) ∧ (tyZero Try.prog 44 = some [Value.int IntKind.i64 0, Value.slice none 0 0, Value.slice none 0 0] ∧ (tyZero Try.prog 5 = some [Value.int IntKind.u8 0] ∧ tyZero Try.prog 9 = some [Value.string ByteArray.empty]))))))) := ⟨⟨⟨⟨⟨⟨tb22, te106⟩, ⟨te107, te22⟩⟩, ⟨⟨te24, te42⟩, ⟨tf109_0, tf109_1⟩⟩⟩, ⟨⟨⟨tf109_2, tf109_3⟩, ⟨tf109_4, tf109_5⟩⟩, ⟨⟨tf109_6, tf109_7⟩, ⟨tf26_0, tf44_0⟩⟩⟩⟩, ⟨⟨⟨⟨tf44_1, tf44_2⟩, ⟨tk106, tk107⟩⟩, ⟨⟨tk109, tk22⟩, ⟨tk24, tk26⟩⟩⟩, ⟨⟨⟨tk3, tk4⟩, ⟨tk42, tk44⟩⟩, ⟨⟨tk5, tk9⟩, ⟨tp109, ⟨tp26, tp44⟩⟩⟩⟩⟩⟩, ⟨⟨⟨⟨⟨tr106, tr107⟩, ⟨tr109, tr22⟩⟩, ⟨⟨tr24, tr26⟩, ⟨tr3, tr4⟩⟩⟩, ⟨⟨⟨tr42, tr44⟩, ⟨tr5, tr9⟩⟩, ⟨⟨tu106, tu107⟩, ⟨tu22, tu24⟩⟩⟩⟩, ⟨⟨⟨⟨tu3, tu4⟩, ⟨tu42, tu5⟩⟩, ⟨⟨tu9, tz106⟩, ⟨tz107, tz109⟩⟩⟩, ⟨⟨⟨tz22, tz24⟩, ⟨tz26, tz3⟩⟩, ⟨⟨tz4, tz42⟩, ⟨tz44, ⟨tz5, tz9⟩⟩⟩⟩⟩⟩⟩
set_option maxRecDepth 100000 in
set_option maxHeartbeats 1000000 in
theorem printVS_c (hD : DB M D) (hM : M ≤ 1048576) (i : Int) {v : V} (hv : VB 1048576 v) (ht : totV v ≤ 1048576) : AC Try.prog 41 [.d (encD D), .d (iD i), .d (encV v)] none (fun r' _ => r' = prRz (prR D i v)) := by
  have HI := isValidS_c hD hM i hv
  have hc : ∀ x, x = v → encV x = .agg (encVc x) := fun x _ => rfl
  cases he : isVal D i v with
  | false =>
    rw [he] at HI
    rw [prR_f he]
    obtain ⟨n, bs, vs⟩ := v
    rw [encV_mk, encVs_eq] at HI ⊢
    refine calls_body Try.func41 rfl Try.call41 Try.ntmps41 (by simp) (by simp [ArgsOk]) (by simp [Rz.nkL, Rz.nk]) fun en hsz hks hk0 => ?_; simp only [St.init, frOf, Rz.addSL, Rz.addS, Rz.toAL, Rz.toA, Rz.nk, List.zipIdx_cons, List.zipIdx_nil, List.map_cons, List.map_nil, Nat.zero_add, Nat.reduceAdd]
    (repeat (first | refine walkS ?_ | (refine callPre ?_; (first | refine callN_funS rfl (HI) ?_)) | (refine callPreL ?_; (first | refine callL_funS rfl (HI) ?_))))
    refine aw_condS rfl (fun hc => ?_) (fun hc => ?_)
    · refine walkS ?_
      (refine aw_ret ?_; (simp only [Fin, Try.results41]; refine finS ?_); exact ⟨_, _, .inl (toZ_tup (toZL_cons (toZ_own (by simp [lk, St.mem])) (toZL_cons toZ_d toZL_nil))), by simp, rfl⟩)
    · (first | exact absurd trivial hc | exact absurd rfl hc | (cases hc; done) | omega | exact absurd hc (by decide) | (simp at hc; done))
  | true =>
    have hkv : vKnown D i = true ∧ validV D i v = true := by
      have : (vKnown D i && validV D i v) = true := he
      rwa [Bool.and_eq_true] at this
    obtain ⟨v1, v2, v3⟩ := vKnown_spec hkv.1
    have hval := hkv.2
    rw [← Int.toNat_of_nonneg v2] at hval
    have HP := printS_all hD hM v1 _ (Nat.le_refl _) hv i.toNat (by omega) hval (by unfold capV; omega)
    have hle := prV_le v1 v i.toNat (by omega) hval
    unfold capV at hle
    rw [Int.toNat_of_nonneg v2] at HP hle
    rw [he] at HI
    have hlen : ((prV D i v).length ≤ 400 → prR D i v = (prV D i v, true)) ∧ (¬ (prV D i v).length ≤ 400 → prR D i v = ([], false)) := ⟨prR_t he, prR_l⟩
    generalize prV D i v = l at HP hle hlen
    generalize prR D i v = q at hlen
    obtain ⟨n, bs, vs⟩ := v
    rw [encV_mk, encVs_eq] at HI HP ⊢
    refine calls_body Try.func41 rfl Try.call41 Try.ntmps41 (by simp) (by simp [ArgsOk]) (by simp [Rz.nkL, Rz.nk]) fun en hsz hks hk0 => ?_; simp only [St.init, frOf, Rz.addSL, Rz.addS, Rz.toAL, Rz.toA, Rz.nk, List.zipIdx_cons, List.zipIdx_nil, List.map_cons, List.map_nil, Nat.zero_add, Nat.reduceAdd]
    (repeat (first | refine walkS ?_ | (refine callPre ?_; (first | refine callN_funS rfl (HI) ?_)) | (refine callPreL ?_; (first | refine callL_funS rfl (HI) ?_))))
    refine aw_condS rfl (fun hc => ?_) (fun hc => ?_)
    · (first | exact absurd trivial hc | exact absurd rfl hc | (cases hc; done) | omega | exact absurd hc (by decide) | (simp at hc; done))
    (repeat (first | refine walkS ?_ | (refine callPre ?_; (first | refine callN_funS rfl (HP) ?_)) | (refine callPreL ?_; (first | refine callL_funS rfl (HP) ?_))))
    refine aw_condS rfl (fun h4 => ?_) (fun h4 => ?_)
    · rw [hlen.2 (by omega)]
      refine walkS ?_
      (refine aw_ret ?_; (simp only [Fin, Try.results41]; refine finS ?_); exact ⟨_, _, .inl (toZ_tup (toZL_cons (toZ_own (by simp [lk, St.mem])) (toZL_cons toZ_d toZL_nil))), by simp, rfl⟩)
    · rw [hlen.1 (by omega)]
      refine walkS ?_
      (refine aw_ret ?_; (simp only [Fin, Try.results41]; refine finS ?_); exact ⟨_, _, .inl (toZ_tup (toZL_cons (toZ_own (by simp [lk, St.mem])) (toZL_cons toZ_d toZL_nil))), by simp, rfl⟩)
/-- The length of an encoding, or -1. -/
noncomputable def enlR (D : List RuleD) (i : Int) (v : V) : Int := if (prR D i v).2 = true then (prR D i v).1.length else -1
set_option maxRecDepth 100000 in
set_option maxHeartbeats 1000000 in
theorem enlS_c (hD : DB M D) (hM : M ≤ 1048576) (i : Int) {v : V} (hv : VB 1048576 v) (ht : totV v ≤ 1048576) : AC Try.prog 20 [.d (encD D), .d (iD i), .d (encV v)] none (fun r' _ => r' = .d (iD (enlR D i v))) := by
  have HP := printVS_c hD hM i hv ht
  unfold enlR
  generalize prR D i v = q at HP
  obtain ⟨l, ok⟩ := q
  obtain ⟨n, bs, vs⟩ := v
  rw [encV_mk, encVs_eq] at HP ⊢
  cases ok with
  | false =>
    refine calls_body Try.func20 rfl Try.call20 Try.ntmps20 (by simp) (by simp [ArgsOk]) (by simp [Rz.nkL, Rz.nk]) fun en hsz hks hk0 => ?_; simp only [St.init, frOf, Rz.addSL, Rz.addS, Rz.toAL, Rz.toA, Rz.nk, List.zipIdx_cons, List.zipIdx_nil, List.map_cons, List.map_nil, Nat.zero_add, Nat.reduceAdd]
    (repeat (first | refine walkS ?_ | (refine callPre ?_; (first | refine callN_funS rfl (HP) ?_)) | (refine callPreL ?_; (first | refine callL_funS rfl (HP) ?_))))
    refine aw_condS rfl (fun hc => ?_) (fun hc => ?_)
    · refine walkS ?_
      (refine aw_ret ?_; (simp only [Fin, Try.results20]; refine finS ?_); exact ⟨_, _, .inl ⟨rfl, rfl⟩, List.nodup_nil, rfl⟩)
    · (first | exact absurd trivial hc | exact absurd rfl hc | (cases hc; done) | omega | exact absurd hc (by decide) | (simp at hc; done))
  | true =>
    refine calls_body Try.func20 rfl Try.call20 Try.ntmps20 (by simp) (by simp [ArgsOk]) (by simp [Rz.nkL, Rz.nk]) fun en hsz hks hk0 => ?_; simp only [St.init, frOf, Rz.addSL, Rz.addS, Rz.toAL, Rz.toA, Rz.nk, List.zipIdx_cons, List.zipIdx_nil, List.map_cons, List.map_nil, Nat.zero_add, Nat.reduceAdd]
    (repeat (first | refine walkS ?_ | (refine callPre ?_; (first | refine callN_funS rfl (HP) ?_)) | (refine callPreL ?_; (first | refine callL_funS rfl (HP) ?_))))
    refine aw_condS rfl (fun hc => ?_) (fun hc => ?_)
    · (first | exact absurd trivial hc | exact absurd rfl hc | (cases hc; done) | omega | exact absurd hc (by decide) | (simp at hc; done))
    · refine walkS ?_
      (refine aw_ret ?_; (simp only [Fin, Try.results20]; refine finS ?_); exact ⟨_, _, .inl ⟨rfl, rfl⟩, List.nodup_nil, rfl⟩)
end
end Go.Proofs.Ytmpokibohbhoeaa.Eng
