/-
  IsValidValue, PrintValue, EncodedLength: the program.

  PrintFile: both sides.
-/
import Derived.Test.YtnndpimlfibncaaKN50
import Derived.Test.YtnndpimlfibncaaKN51
import Derived.Test.YtnndpimlfibncaaKE4
import Derived.Test.YtnndpimlfibncaaKNIV
import Derived.Test.YtnndpimlfibncaaKN40
set_option linter.unusedSimpArgs false
set_option linter.unusedVariables false
set_option linter.defProp false
set_option maxRecDepth 100000
set_option maxHeartbeats 4000000
namespace Go.Proofs.Ytnndpimlfibncaa.Eng
open Go Go.RowKit

section
variable {M : Nat} {D : List RuleD}
theorem printI_all (hD : DB M D) (hM : M ≤ 1048576) (hV : descP D) : ∀ N : Nat, ∀ {v : V}, SizeOf.sizeOf v ≤ N → VB 1048576 v → PrOK D v
  | 0, .mk n bs vs, h, _ => by simp only [V.mk.sizeOf_spec] at h; omega
  | N + 1, .mk n bs vs, h, hv => valueP_step hD hM hV hv fun v hvm => printI_all hD hM hV N (by have := item_lt (n := n) (bs := bs) hvm; omega) (by unfold VB at hv; exact hv.2.2.el v hvm)
private def tyF := And.intro (And.intro (And.intro (And.intro (And.intro (And.intro tb22 te22) (And.intro te24 (And.intro te33 te60))) (And.intro (And.intro te61 tf26_0) (And.intro tf37_0 (And.intro tf37_1 tf37_2)))) (And.intro (And.intro (And.intro tf63_0 tf63_1) (And.intro tf63_2 (And.intro tf63_3 tf63_4))) (And.intro (And.intro tf63_5 tf63_6) (And.intro tf63_7 (And.intro tf83_0 tf83_1))))) (And.intro (And.intro (And.intro (And.intro tk22 tk24) (And.intro tk26 (And.intro tk3 tk33))) (And.intro (And.intro tk37 tk4) (And.intro tk5 (And.intro tk60 tk61)))) (And.intro (And.intro (And.intro tk63 tk81) (And.intro tk83 (And.intro tk85 tk9))) (And.intro (And.intro tp26 tp37) (And.intro tp63 (And.intro tp83 tr22)))))) (And.intro (And.intro (And.intro (And.intro (And.intro tr24 tr26) (And.intro tr3 (And.intro tr33 tr37))) (And.intro (And.intro tr4 tr5) (And.intro tr60 (And.intro tr61 tr63)))) (And.intro (And.intro (And.intro tr81 tr83) (And.intro tr85 (And.intro tr9 tu22))) (And.intro (And.intro tu24 tu3) (And.intro tu33 (And.intro tu4 tu5))))) (And.intro (And.intro (And.intro (And.intro tu60 tu61) (And.intro tu81 (And.intro tu85 tu9))) (And.intro (And.intro tz22 tz24) (And.intro tz26 (And.intro tz3 tz33)))) (And.intro (And.intro (And.intro tz37 tz4) (And.intro tz5 (And.intro tz60 tz61))) (And.intro (And.intro tz63 tz81) (And.intro tz83 (And.intro tz85 tz9))))))
theorem printVI_c (hD : DB M D) (hM : M ≤ 1048576) (i : Int) {v : V} (hv : VB 1048576 v) (ht : totV v ≤ 1048576) : AC Try.prog 36 [.d (encD D), .d (iD i), .d (encV v)] none (fun r' _ => r' = prRz (prR D i v)) := by
  have HI := isValidI_c hD hM i hv
  cases he : isVal D i v with
  | false =>
    rw [he] at HI
    rw [prR_f he]
    obtain ⟨n, bs, vs⟩ := v
    rw [encV_mk, encVs_eq] at HI ⊢
    refine calls_body Try.func36 rfl Try.call36 Try.ntmps36 (by simp) (by simp [ArgsOk]) (by simp [Rz.nkL, Rz.nk]) fun en hsz hks hk0 => ?_; refine enS ?_
    (repeat (first | refine walkS ?_ | (refine callPre ?_; (first | refine callN_funS rfl (HI) ?_)) | (refine callPreL ?_; (first | refine callL_funS rfl (HI) ?_))))
    refine aw_condS rfl (fun hc => ?_) (fun hc => ?_)
    · refine walkS ?_
      (refine aw_ret ?_; (simp only [Fin, Try.results36]; refine finS ?_); exact ⟨_, _, .inl (toZ_tup (toZL_cons (toZ_own (by simp [lk, St.mem])) (toZL_cons toZ_d toZL_nil))), by simp, rfl⟩)
    · (first | exact absurd trivial hc | exact absurd rfl hc | (cases hc; done) | omega | exact absurd hc (by decide) | (simp at hc; done))
  | true =>
    have hkv : vKnown D i = true ∧ validV D i v = true := by
      have : (vKnown D i && validV D i v) = true := he
      rwa [Bool.and_eq_true] at this
    obtain ⟨v1, v2, v3⟩ := vKnown_spec hkv.1
    have hval := hkv.2
    rw [← Int.toNat_of_nonneg v2] at hval
    have HP := printI_all hD hM v1 _ (Nat.le_refl _) hv i.toNat [] (by omega) hval (by unfold capV; rw [List.length_nil]; omega)
    have hle := prI_le v1 v i.toNat [] (by omega) hval
    unfold capV at hle
    have heq := prI_eq D i.toNat v []
    rw [Int.toNat_of_nonneg v2] at HP hle heq
    rw [he] at HI
    rw [List.length_nil, Nat.zero_add, List.nil_append] at heq
    have hlen : ((prI D i [] v).length ≤ 400 → prR D i v = (prI D i [] v, true)) ∧ (¬ (prI D i [] v).length ≤ 400 → prR D i v = ([], false)) := by
      refine ⟨fun h => ?_, fun h => ?_⟩
      · have h4 : (prV D i v).length ≤ 400 := by
          refine Nat.le_of_not_lt fun h5 => ?_
          have := heq.2 h5
          omega
        rw [prR_t he h4, heq.1 h4]
      · refine prR_l fun h4 => h ?_
        rw [heq.1 h4]
        exact h4
    rw [List.length_nil, Nat.zero_add] at hle
    clear heq
    generalize prI D i [] v = l at HP hle hlen
    generalize prR D i v = q at hlen
    obtain ⟨n, bs, vs⟩ := v
    rw [encVc_mk, encVs_eq] at HP
    rw [encV_mk, encVs_eq] at HI ⊢
    have HF := full_c D (es := l) (by omega)
    refine calls_body Try.func36 rfl Try.call36 Try.ntmps36 (by simp) (by simp [ArgsOk]) (by simp [Rz.nkL, Rz.nk]) fun en hsz hks hk0 => ?_; refine enS ?_
    (repeat (first | refine walkS ?_ | (refine callPre ?_; (first | refine callN_funS rfl (HI) ?_)) | (refine callPreL ?_; (first | refine callL_funS rfl (HI) ?_))))
    refine aw_condS rfl (fun hc => ?_) (fun hc => ?_)
    · (first | exact absurd trivial hc | exact absurd rfl hc | (cases hc; done) | omega | exact absurd hc (by decide) | (simp at hc; done))
    refine walkS ?_
    refine ow_freezeB 5 _ [iD n, encB bs, .sl 3 (vs.map encVc)] rfl rfl hks (by decide) ?_
    dsimp only
    refine ow_call1n (k := 64) ?_ (fun x hx => by cases hx <;> (rw [hsz]; decide)) rfl rfl HP rfl rfl ?_
    · exact trivial
    simp only [St.set, List.map_cons, List.map_nil, List.length_map, Nat.reduceAdd]
    refine walkS ?_
    (repeat (first | refine walkS ?_ | (refine ow_call1p (k := 64) ?_ (fun x hx => by cases hx <;> (rw [hsz]; decide)) rfl rfl (HF) rfl rfl (by first | rfl | (simp only [List.length_map, List.length_append] <;> rfl)) (by decide) ?_; (first | exact trivial | exact rfl); simp only [St.set, List.map_cons, List.map_nil, List.length_map, List.length_append, Nat.reduceAdd]) | (refine ow_call1pV (k := 64) ?_ (fun x hx => by cases hx <;> (rw [hsz]; decide)) rfl rfl rfl (HF) rfl rfl (by first | rfl | (simp only [List.length_map, List.length_append] <;> rfl)) (by decide) ?_; (first | exact trivial | exact rfl); simp only [St.set, List.map_cons, List.map_nil, List.length_map, List.length_append, Nat.reduceAdd])))
    refine aw_condS rfl (fun h4 => ?_) (fun h4 => ?_)
    · have h4' : ¬ l.length ≤ 400 := by have : 400 < l.length := (by first | exact h4 | simpa using h4); omega
      rw [hlen.2 h4']
      refine walkS ?_
      (refine aw_ret ?_; (simp only [Fin, Try.results36]; refine finS ?_); exact ⟨_, _, .inl (toZ_tup (toZL_cons (toZ_own (by simp [lk, St.mem])) (toZL_cons toZ_d toZL_nil))), by simp, rfl⟩)
    · have h4' : l.length ≤ 400 := by have : ¬ 400 < l.length := (by first | exact h4 | simpa using h4); omega
      rw [hlen.1 h4']
      refine walkS ?_
      (refine aw_ret ?_; (simp only [Fin, Try.results36]; refine finS ?_); exact ⟨_, _, .inl (toZ_tup (toZL_cons (toZ_own (by simp [lk, St.mem])) (toZL_cons toZ_d toZL_nil))), by simp, rfl⟩)
end
end Go.Proofs.Ytnndpimlfibncaa.Eng
namespace Go.Proofs.Ytnndpimlfibncaa.Eng
open Go Go.RowKit

section
variable {M : Nat} {D : List RuleD}

theorem printFI_c (hD : DB M D) (hM : M ≤ 1048576) {v : V} (hv : VB 1048576 v) (ht : totV v ≤ 1048576) : AC Try.prog 67 [.d (encD D), .d (encV v)] none (fun r' _ => r' = prRz (prR D ((D.length : Int) - 1) v)) := by
  have HP := printVI_c hD hM ((D.length : Int) - 1) hv ht
  generalize prR D ((D.length : Int) - 1) v = q at HP
  obtain ⟨n, bs, vs⟩ := v
  rw [encV_mk, encVs_eq] at HP ⊢
  refine calls_body Try.func67 rfl Try.call67 Try.ntmps67 (by simp) (by simp [ArgsOk]) (by simp [Rz.nkL, Rz.nk]) fun en hsz hks hk0 => ?_; refine enS ?_
  (repeat (first | refine walkS ?_ | (refine callPre ?_; (first | refine callN_funS rfl (rootI_c hD hM) ?_ | refine callN_funS rfl (HP) ?_)) | (refine callPreL ?_; (first | refine callL_funS rfl (rootI_c hD hM) ?_ | refine callL_funS rfl (HP) ?_))))
  (refine aw_ret ?_; (simp only [Fin, Try.results67]; refine finS ?_); exact ⟨_, _, .inl (toZ_tup (toZL_cons (toZ_own (by simp [lk, St.mem])) (toZL_cons toZ_d toZL_nil))), by simp, rfl⟩)
end
end Go.Proofs.Ytnndpimlfibncaa.Eng
