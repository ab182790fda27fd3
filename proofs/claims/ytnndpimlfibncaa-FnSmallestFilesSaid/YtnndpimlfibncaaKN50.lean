/-
  PrintValue, EncodedLength: the reference.
-/
import Derived.Test.YtnndpimlfibncaaKN49
set_option linter.unusedSimpArgs false
set_option linter.unusedVariables false
set_option linter.defProp false
set_option maxRecDepth 100000
set_option maxHeartbeats 4000000
namespace Go.Proofs.Ytnndpimlfibncaa.Eng
open Go Go.RowKit

section
variable {M : Nat} {D : List RuleD}
theorem printS_all (hD : DB M D) (hM : M ≤ 1048576) (hV : descP D) : ∀ N : Nat, ∀ {v : V}, SizeOf.sizeOf v ≤ N → VB 1048576 v → PrS D v
  | 0, .mk n bs vs, h, _ => by simp only [V.mk.sizeOf_spec] at h; omega
  | N + 1, .mk n bs vs, h, hv => printS_step hD hM hV hv fun v hvm => printS_all hD hM hV N (by have := item_lt (n := n) (bs := bs) hvm; omega) (by unfold VB at hv; exact hv.2.2.el v hvm)
noncomputable def prR (D : List RuleD) (i : Int) (v : V) : List UInt8 × Bool := if isVal D i v = true ∧ (prV D i v).length ≤ 400 then (prV D i v, true) else ([], false)
theorem prR_t {i : Int} {v : V} (h : isVal D i v = true) (h2 : (prV D i v).length ≤ 400) : prR D i v = (prV D i v, true) := if_pos ⟨h, h2⟩
theorem prR_f {i : Int} {v : V} (h : isVal D i v = false) : prR D i v = ([], false) := if_neg (by rw [h]; rintro ⟨h, _⟩; cases h)
theorem prR_l {i : Int} {v : V} (h : ¬ (prV D i v).length ≤ 400) : prR D i v = ([], false) := if_neg fun h2 => h h2.2
abbrev prRz (x : List UInt8 × Bool) : Rz := .tup [.own 5 1 (x.1.map fun c => [uD c]), .d (bD x.2)]
private def tyF := And.intro (And.intro (And.intro (And.intro (And.intro (And.intro tb22 te22) (And.intro te24 te33)) (And.intro (And.intro te60 te61) (And.intro tf26_0 tf37_0))) (And.intro (And.intro (And.intro tf37_1 tf37_2) (And.intro tf63_0 tf63_1)) (And.intro (And.intro tf63_2 tf63_3) (And.intro tf63_4 tf63_5)))) (And.intro (And.intro (And.intro (And.intro tf63_6 tf63_7) (And.intro tk22 tk24)) (And.intro (And.intro tk26 tk3) (And.intro tk33 tk37))) (And.intro (And.intro (And.intro tk4 tk5) (And.intro tk60 tk61)) (And.intro (And.intro tk63 tk9) (And.intro tp26 (And.intro tp37 tp63)))))) (And.intro (And.intro (And.intro (And.intro (And.intro tr22 tr24) (And.intro tr26 tr3)) (And.intro (And.intro tr33 tr37) (And.intro tr4 tr5))) (And.intro (And.intro (And.intro tr60 tr61) (And.intro tr63 tr9)) (And.intro (And.intro tu22 tu24) (And.intro tu3 tu33)))) (And.intro (And.intro (And.intro (And.intro tu4 tu5) (And.intro tu60 tu61)) (And.intro (And.intro tu9 tz22) (And.intro tz24 tz26))) (And.intro (And.intro (And.intro tz3 tz33) (And.intro tz37 tz4)) (And.intro (And.intro tz5 tz60) (And.intro tz61 (And.intro tz63 tz9))))))
theorem printVS_c (hD : DB M D) (hM : M ≤ 1048576) (i : Int) {v : V} (hv : VB 1048576 v) (ht : totV v ≤ 1048576) : AC Try.prog 69 [.d (encD D), .d (iD i), .d (encV v)] none (fun r' _ => r' = prRz (prR D i v)) := by
  have HI := isValidS_c hD hM i hv
  have hc : ∀ x, x = v → encV x = .agg (encVc x) := fun x _ => rfl
  cases he : isVal D i v with
  | false =>
    rw [he] at HI
    rw [prR_f he]
    obtain ⟨n, bs, vs⟩ := v
    rw [encV_mk, encVs_eq] at HI ⊢
    refine calls_body Try.func69 rfl Try.call69 Try.ntmps69 (by simp) (by simp [ArgsOk]) (by simp [Rz.nkL, Rz.nk]) fun en hsz hks hk0 => ?_; refine enS ?_
    (repeat (first | refine walkS ?_ | (refine callPre ?_; (first | refine callN_funS rfl (HI) ?_)) | (refine callPreL ?_; (first | refine callL_funS rfl (HI) ?_))))
    refine aw_condS rfl (fun hc => ?_) (fun hc => ?_)
    · refine walkS ?_
      (refine aw_ret ?_; (simp only [Fin, Try.results69]; refine finS ?_); exact ⟨_, _, .inl (toZ_tup (toZL_cons (toZ_own (by simp [lk, St.mem])) (toZL_cons toZ_d toZL_nil))), by simp, rfl⟩)
    · (first | exact absurd trivial hc | exact absurd rfl hc | (cases hc; done) | omega | exact absurd hc (by decide) | (simp at hc; done))
  | true =>
    have hkv : vKnown D i = true ∧ validV D i v = true := by
      have : (vKnown D i && validV D i v) = true := he
      rwa [Bool.and_eq_true] at this
    obtain ⟨v1, v2, v3⟩ := vKnown_spec hkv.1
    have hval := hkv.2
    rw [← Int.toNat_of_nonneg v2] at hval
    have HP := printS_all hD hM v1 _ (Nat.le_refl _) hv i.toNat (by omega) hval (by unfold capV; omega)
    have hle := prV_le v1 v i.toNat (by omega) hval
    unfold capV at hle
    rw [Int.toNat_of_nonneg v2] at HP hle
    rw [he] at HI
    have hlen : ((prV D i v).length ≤ 400 → prR D i v = (prV D i v, true)) ∧ (¬ (prV D i v).length ≤ 400 → prR D i v = ([], false)) := ⟨prR_t he, prR_l⟩
    generalize prV D i v = l at HP hle hlen
    generalize prR D i v = q at hlen
    obtain ⟨n, bs, vs⟩ := v
    rw [encV_mk, encVs_eq] at HI HP ⊢
    refine calls_body Try.func69 rfl Try.call69 Try.ntmps69 (by simp) (by simp [ArgsOk]) (by simp [Rz.nkL, Rz.nk]) fun en hsz hks hk0 => ?_; refine enS ?_
    (repeat (first | refine walkS ?_ | (refine callPre ?_; (first | refine callN_funS rfl (HI) ?_)) | (refine callPreL ?_; (first | refine callL_funS rfl (HI) ?_))))
    refine aw_condS rfl (fun hc => ?_) (fun hc => ?_)
    · (first | exact absurd trivial hc | exact absurd rfl hc | (cases hc; done) | omega | exact absurd hc (by decide) | (simp at hc; done))
    (repeat (first | refine walkS ?_ | (refine callPre ?_; (first | refine callN_funS rfl (HP) ?_)) | (refine callPreL ?_; (first | refine callL_funS rfl (HP) ?_))))
    refine aw_condS rfl (fun h4 => ?_) (fun h4 => ?_)
    · rw [hlen.2 (by omega)]
      refine walkS ?_
      (refine aw_ret ?_; (simp only [Fin, Try.results69]; refine finS ?_); exact ⟨_, _, .inl (toZ_tup (toZL_cons (toZ_own (by simp [lk, St.mem])) (toZL_cons toZ_d toZL_nil))), by simp, rfl⟩)
    · rw [hlen.1 (by omega)]
      refine walkS ?_
      (refine aw_ret ?_; (simp only [Fin, Try.results69]; refine finS ?_); exact ⟨_, _, .inl (toZ_tup (toZL_cons (toZ_own (by simp [lk, St.mem])) (toZL_cons toZ_d toZL_nil))), by simp, rfl⟩)
noncomputable def enlR (D : List RuleD) (i : Int) (v : V) : Int := if (prR D i v).2 = true then (prR D i v).1.length else -1
theorem enlS_c (hD : DB M D) (hM : M ≤ 1048576) (i : Int) {v : V} (hv : VB 1048576 v) (ht : totV v ≤ 1048576) : AC Try.prog 32 [.d (encD D), .d (iD i), .d (encV v)] none (fun r' _ => r' = .d (iD (enlR D i v))) := by
  have HP := printVS_c hD hM i hv ht
  unfold enlR
  generalize prR D i v = q at HP
  obtain ⟨l, ok⟩ := q
  obtain ⟨n, bs, vs⟩ := v
  rw [encV_mk, encVs_eq] at HP ⊢
  cases ok with
  | false =>
    refine calls_body Try.func32 rfl Try.call32 Try.ntmps32 (by simp) (by simp [ArgsOk]) (by simp [Rz.nkL, Rz.nk]) fun en hsz hks hk0 => ?_; refine enS ?_
    (repeat (first | refine walkS ?_ | (refine callPre ?_; (first | refine callN_funS rfl (HP) ?_)) | (refine callPreL ?_; (first | refine callL_funS rfl (HP) ?_))))
    refine aw_condS rfl (fun hc => ?_) (fun hc => ?_)
    · refine walkS ?_
      (refine aw_ret ?_; (simp only [Fin, Try.results32]; refine finS ?_); exact ⟨_, _, .inl ⟨rfl, rfl⟩, List.nodup_nil, rfl⟩)
    · (first | exact absurd trivial hc | exact absurd rfl hc | (cases hc; done) | omega | exact absurd hc (by decide) | (simp at hc; done))
  | true =>
    refine calls_body Try.func32 rfl Try.call32 Try.ntmps32 (by simp) (by simp [ArgsOk]) (by simp [Rz.nkL, Rz.nk]) fun en hsz hks hk0 => ?_; refine enS ?_
    (repeat (first | refine walkS ?_ | (refine callPre ?_; (first | refine callN_funS rfl (HP) ?_)) | (refine callPreL ?_; (first | refine callL_funS rfl (HP) ?_))))
    refine aw_condS rfl (fun hc => ?_) (fun hc => ?_)
    · (first | exact absurd trivial hc | exact absurd rfl hc | (cases hc; done) | omega | exact absurd hc (by decide) | (simp at hc; done))
    · refine walkS ?_
      (refine aw_ret ?_; (simp only [Fin, Try.results32]; refine finS ?_); exact ⟨_, _, .inl ⟨rfl, rfl⟩, List.nodup_nil, rfl⟩)
end
end Go.Proofs.Ytnndpimlfibncaa.Eng
