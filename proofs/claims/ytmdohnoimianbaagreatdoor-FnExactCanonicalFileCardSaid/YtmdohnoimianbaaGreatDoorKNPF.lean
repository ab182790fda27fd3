/-
  IsValidValue, PrintValue, EncodedLength: the program.

  PrintFile: both sides.
-/
import Derived.Test.YtmdohnoimianbaaGreatDoorKN50
import Derived.Test.YtmdohnoimianbaaGreatDoorKN51
import Derived.Test.YtmdohnoimianbaaGreatDoorKE4
import Derived.Test.YtmdohnoimianbaaGreatDoorKN40
set_option linter.unusedSimpArgs false
set_option linter.unusedVariables false
set_option linter.defProp false
set_option maxRecDepth 100000
set_option maxHeartbeats 4000000
namespace Go.Proofs.YtmdohnoimianbaaGreatDoor.Eng
open Go Go.RowKit

section
variable {M : Nat} {D : List RuleD}
theorem printI_all (hD : DB M D) (hM : M ≤ 1048576) (hV : descP D) : ∀ N : Nat, ∀ {v : V}, SizeOf.sizeOf v ≤ N → VB 1048576 v → PrOK D v
  | 0, .mk n bs vs, h, _ => by simp only [V.mk.sizeOf_spec] at h; omega
  | N + 1, .mk n bs vs, h, hv => valueP_step hD hM hV hv fun v hvm => printI_all hD hM hV N (by have := item_lt (n := n) (bs := bs) hvm; omega) (by unfold VB at hv; exact hv.2.2.el v hvm)
private def tyF := And.intro (And.intro (And.intro (And.intro (And.intro (And.intro tb25 te25) (And.intro te27 (And.intro te32 te73))) (And.intro (And.intro te74 tf140_0) (And.intro tf140_1 (And.intro tf29_0 tf29_1)))) (And.intro (And.intro (And.intro tf29_2 tf34_0) (And.intro tf78_0 (And.intro tf78_1 tf78_2))) (And.intro (And.intro tf78_3 tf78_4) (And.intro tf78_5 (And.intro tf78_6 tf78_7))))) (And.intro (And.intro (And.intro (And.intro tk138 tk140) (And.intro tk142 (And.intro tk25 tk27))) (And.intro (And.intro tk29 tk3) (And.intro tk32 (And.intro tk34 tk4)))) (And.intro (And.intro (And.intro tk5 tk73) (And.intro tk74 (And.intro tk78 tk9))) (And.intro (And.intro tp140 tp29) (And.intro tp34 (And.intro tp78 tr138)))))) (And.intro (And.intro (And.intro (And.intro (And.intro tr140 tr142) (And.intro tr25 (And.intro tr27 tr29))) (And.intro (And.intro tr3 tr32) (And.intro tr34 (And.intro tr4 tr5)))) (And.intro (And.intro (And.intro tr73 tr74) (And.intro tr78 (And.intro tr9 tu138))) (And.intro (And.intro tu142 tu25) (And.intro tu27 (And.intro tu3 tu32))))) (And.intro (And.intro (And.intro (And.intro tu4 tu5) (And.intro tu73 (And.intro tu74 tu9))) (And.intro (And.intro tz138 tz140) (And.intro tz142 (And.intro tz25 tz27)))) (And.intro (And.intro (And.intro tz29 tz3) (And.intro tz32 (And.intro tz34 tz4))) (And.intro (And.intro tz5 tz73) (And.intro tz74 (And.intro tz78 tz9))))))
theorem isValidI_c (hD : DB M D) (hM : M ≤ 1048576) (i : Int) {v : V} (hv : VB 1048576 v) : AC Tryz.prog 103 [.d (encD D), .d (iD i), .d (encV v)] none (fun r' _ => r' = .d (bD (isVal D i v))) := by
  have HK := known_c hD hM i
  have hp : isVal D i v = (vKnown D i && validV D i v) := rfl
  cases hk : vKnown D i with
  | false =>
    rw [hk] at hp HK
    obtain ⟨n, bs, vs⟩ := v
    rw [encV_mk, encVs_eq]
    refine calls_body Tryz.func103 rfl Tryz.call103 Tryz.ntmps103 (by simp) (by simp [ArgsOk]) (by simp [Rz.nkL, Rz.nk]) fun en hsz hks hk0 => ?_; refine enS ?_
    (repeat (first | refine walkS ?_ | (refine callPre ?_; (first | refine callN_funS rfl (HK) ?_)) | (refine callPreL ?_; (first | refine callL_funS rfl (HK) ?_))))
    (refine aw_ret ?_; (simp only [Fin, Tryz.results103]; refine finS ?_); exact ⟨_, _, .inl ⟨rfl, rfl⟩, List.nodup_nil, by rw [hp]; rfl⟩)
  | true =>
    rw [hk] at hp HK
    obtain ⟨v1, v2, v3⟩ := vKnown_spec hk
    have HV := validI_all hD hM v1 _ (i := i.toNat) (by omega) (Nat.le_refl _) hv
    rw [Int.toNat_of_nonneg v2] at HV
    obtain ⟨n, bs, vs⟩ := v
    rw [encVc_mk, encVs_eq] at HV
    rw [encV_mk, encVs_eq]
    refine calls_body Tryz.func103 rfl Tryz.call103 Tryz.ntmps103 (by simp) (by simp [ArgsOk]) (by simp [Rz.nkL, Rz.nk]) fun en hsz hks hk0 => ?_; refine enS ?_
    (repeat (first | refine walkS ?_ | (refine callPre ?_; (first | refine callN_funS rfl (HK) ?_)) | (refine callPreL ?_; (first | refine callL_funS rfl (HK) ?_))))
    refine ow_freezeB 5 _ [iD n, encB bs, .sl 3 (vs.map encVc)] rfl rfl hks (by decide) ?_
    (repeat (first | refine walkS ?_ | (refine callPre ?_; (first | refine callN_funS rfl (HV) ?_)) | (refine callPreL ?_; (first | refine callL_funS rfl (HV) ?_))))
    (refine aw_ret ?_; (simp only [Fin, Tryz.results103]; refine finS ?_); exact ⟨_, _, .inl ⟨rfl, rfl⟩, List.nodup_nil, by rw [hp]; rfl⟩)
theorem printVI_c (hD : DB M D) (hM : M ≤ 1048576) (i : Int) {v : V} (hv : VB 1048576 v) (ht : totV v ≤ 1048576) : AC Tryz.prog 81 [.d (encD D), .d (iD i), .d (encV v)] none (fun r' _ => r' = prRz (prR D i v)) := by
  have HI := isValidI_c hD hM i hv
  cases he : isVal D i v with
  | false =>
    rw [he] at HI
    rw [prR_f he]
    obtain ⟨n, bs, vs⟩ := v
    rw [encV_mk, encVs_eq] at HI ⊢
    refine calls_body Tryz.func81 rfl Tryz.call81 Tryz.ntmps81 (by simp) (by simp [ArgsOk]) (by simp [Rz.nkL, Rz.nk]) fun en hsz hks hk0 => ?_; refine enS ?_
    (repeat (first | refine walkS ?_ | (refine callPre ?_; (first | refine callN_funS rfl (HI) ?_)) | (refine callPreL ?_; (first | refine callL_funS rfl (HI) ?_))))
    refine aw_condS rfl (fun hc => ?_) (fun hc => ?_)
    · refine walkS ?_
      (refine aw_ret ?_; (simp only [Fin, Tryz.results81]; refine finS ?_); exact ⟨_, _, .inl (toZ_tup (toZL_cons (toZ_own (by simp [lk, St.mem])) (toZL_cons toZ_d toZL_nil))), by simp, rfl⟩)
    · (first | exact absurd trivial hc | exact absurd rfl hc | (cases hc; done) | omega | exact absurd hc (by decide) | (simp at hc; done))
  | true =>
    have hkv : vKnown D i = true ∧ validV D i v = true := by
      have : (vKnown D i && validV D i v) = true := he
      rwa [Bool.and_eq_true] at this
    obtain ⟨v1, v2, v3⟩ := vKnown_spec hkv.1
    have hval := hkv.2
    rw [← Int.toNat_of_nonneg v2] at hval
    have HP := printI_all hD hM v1 _ (Nat.le_refl _) hv i.toNat [] (by omega) hval (by unfold capV; rw [List.length_nil]; omega)
    have hle := prI_le v1 v i.toNat [] (by omega) hval
    unfold capV at hle
    have heq := prI_eq D i.toNat v []
    rw [Int.toNat_of_nonneg v2] at HP hle heq
    rw [he] at HI
    rw [List.length_nil, Nat.zero_add, List.nil_append] at heq
    have hlen : ((prI D i [] v).length ≤ 400 → prR D i v = (prI D i [] v, true)) ∧ (¬ (prI D i [] v).length ≤ 400 → prR D i v = ([], false)) := by
      refine ⟨fun h => ?_, fun h => ?_⟩
      · have h4 : (prV D i v).length ≤ 400 := by
          refine Nat.le_of_not_lt fun h5 => ?_
          have := heq.2 h5
          omega
        rw [prR_t he h4, heq.1 h4]
      · refine prR_l fun h4 => h ?_
        rw [heq.1 h4]
        exact h4
    rw [List.length_nil, Nat.zero_add] at hle
    clear heq
    generalize prI D i [] v = l at HP hle hlen
    generalize prR D i v = q at hlen
    obtain ⟨n, bs, vs⟩ := v
    rw [encVc_mk, encVs_eq] at HP
    rw [encV_mk, encVs_eq] at HI ⊢
    have HF := full_c D (es := l) (by omega)
    refine calls_body Tryz.func81 rfl Tryz.call81 Tryz.ntmps81 (by simp) (by simp [ArgsOk]) (by simp [Rz.nkL, Rz.nk]) fun en hsz hks hk0 => ?_; refine enS ?_
    (repeat (first | refine walkS ?_ | (refine callPre ?_; (first | refine callN_funS rfl (HI) ?_)) | (refine callPreL ?_; (first | refine callL_funS rfl (HI) ?_))))
    refine aw_condS rfl (fun hc => ?_) (fun hc => ?_)
    · (first | exact absurd trivial hc | exact absurd rfl hc | (cases hc; done) | omega | exact absurd hc (by decide) | (simp at hc; done))
    refine walkS ?_
    refine ow_freezeB 5 _ [iD n, encB bs, .sl 3 (vs.map encVc)] rfl rfl hks (by decide) ?_
    dsimp only
    refine ow_call1n (k := 64) ?_ (fun x hx => by cases hx <;> (rw [hsz]; decide)) rfl rfl HP rfl rfl ?_
    · exact trivial
    simp only [St.set, List.map_cons, List.map_nil, List.length_map, Nat.reduceAdd]
    refine walkS ?_
    (repeat (first | refine walkS ?_ | (refine ow_call1p (k := 64) ?_ (fun x hx => by cases hx <;> (rw [hsz]; decide)) rfl rfl (HF) rfl rfl (by first | rfl | (simp only [List.length_map, List.length_append] <;> rfl)) (by decide) ?_; (first | exact trivial | exact rfl); simp only [St.set, List.map_cons, List.map_nil, List.length_map, List.length_append, Nat.reduceAdd]) | (refine ow_call1pV (k := 64) ?_ (fun x hx => by cases hx <;> (rw [hsz]; decide)) rfl rfl rfl (HF) rfl rfl (by first | rfl | (simp only [List.length_map, List.length_append] <;> rfl)) (by decide) ?_; (first | exact trivial | exact rfl); simp only [St.set, List.map_cons, List.map_nil, List.length_map, List.length_append, Nat.reduceAdd])))
    refine aw_condS rfl (fun h4 => ?_) (fun h4 => ?_)
    · have h4' : ¬ l.length ≤ 400 := by have : 400 < l.length := (by first | exact h4 | simpa using h4); omega
      rw [hlen.2 h4']
      refine walkS ?_
      (refine aw_ret ?_; (simp only [Fin, Tryz.results81]; refine finS ?_); exact ⟨_, _, .inl (toZ_tup (toZL_cons (toZ_own (by simp [lk, St.mem])) (toZL_cons toZ_d toZL_nil))), by simp, rfl⟩)
    · have h4' : l.length ≤ 400 := by have : ¬ 400 < l.length := (by first | exact h4 | simpa using h4); omega
      rw [hlen.1 h4']
      refine walkS ?_
      (refine aw_ret ?_; (simp only [Fin, Tryz.results81]; refine finS ?_); exact ⟨_, _, .inl (toZ_tup (toZL_cons (toZ_own (by simp [lk, St.mem])) (toZL_cons toZ_d toZL_nil))), by simp, rfl⟩)

end
theorem prRz_ok (x : List UInt8 × Bool) : rzOk (prRz x) := by
  unfold rzOk
  unfold rzOkL
  refine ⟨by unfold rzOk; exact flat_map _ _, ?_⟩
  unfold rzOkL
  exact ⟨by unfold rzOk; trivial, by unfold rzOkL; trivial⟩
theorem prR_len (D : List RuleD) (i : Int) (v : V) : (prR D i v).1.length ≤ 400 := by
  unfold prR
  split
  · rename_i h; exact h.2
  · simp
end Go.Proofs.YtmdohnoimianbaaGreatDoor.Eng
namespace Go.Proofs.YtmdohnoimianbaaGreatDoor.Eng
open Go Go.RowKit

section
variable {M : Nat} {D : List RuleD}
theorem printFS_c (hD : DB M D) (hM : M ≤ 1048576) {v : V} (hv : VB 1048576 v) (ht : totV v ≤ 1048576) : AC Tryz.prog 46 [.d (encD D), .d (encV v)] none (fun r' _ => r' = prRz (prR D ((D.length : Int) - 1) v)) := by
  have HP := printVS_c hD hM ((D.length : Int) - 1) hv ht
  generalize prR D ((D.length : Int) - 1) v = q at HP
  obtain ⟨n, bs, vs⟩ := v
  rw [encV_mk, encVs_eq] at HP ⊢
  refine calls_body Tryz.func46 rfl Tryz.call46 Tryz.ntmps46 (by simp) (by simp [ArgsOk]) (by simp [Rz.nkL, Rz.nk]) fun en hsz hks hk0 => ?_; refine enS ?_
  (repeat (first | refine walkS ?_ | (refine callPre ?_; (first | refine callN_funS rfl (rootS_c hD hM) ?_ | refine callN_funS rfl (HP) ?_)) | (refine callPreL ?_; (first | refine callL_funS rfl (rootS_c hD hM) ?_ | refine callL_funS rfl (HP) ?_))))
  (refine aw_ret ?_; (simp only [Fin, Tryz.results46]; refine finS ?_); exact ⟨_, _, .inl (toZ_tup (toZL_cons (toZ_own (by simp [lk, St.mem])) (toZL_cons toZ_d toZL_nil))), by simp, rfl⟩)
theorem printFI_c (hD : DB M D) (hM : M ≤ 1048576) {v : V} (hv : VB 1048576 v) (ht : totV v ≤ 1048576) : AC Tryz.prog 47 [.d (encD D), .d (encV v)] none (fun r' _ => r' = prRz (prR D ((D.length : Int) - 1) v)) := by
  have HP := printVI_c hD hM ((D.length : Int) - 1) hv ht
  generalize prR D ((D.length : Int) - 1) v = q at HP
  obtain ⟨n, bs, vs⟩ := v
  rw [encV_mk, encVs_eq] at HP ⊢
  refine calls_body Tryz.func47 rfl Tryz.call47 Tryz.ntmps47 (by simp) (by simp [ArgsOk]) (by simp [Rz.nkL, Rz.nk]) fun en hsz hks hk0 => ?_; refine enS ?_
  (repeat (first | refine walkS ?_ | (refine callPre ?_; (first | refine callN_funS rfl (rootI_c hD hM) ?_ | refine callN_funS rfl (HP) ?_)) | (refine callPreL ?_; (first | refine callL_funS rfl (rootI_c hD hM) ?_ | refine callL_funS rfl (HP) ?_))))
  (refine aw_ret ?_; (simp only [Fin, Tryz.results47]; refine finS ?_); exact ⟨_, _, .inl (toZ_tup (toZL_cons (toZ_own (by simp [lk, St.mem])) (toZL_cons toZ_d toZL_nil))), by simp, rfl⟩)
end
end Go.Proofs.YtmdohnoimianbaaGreatDoor.Eng
