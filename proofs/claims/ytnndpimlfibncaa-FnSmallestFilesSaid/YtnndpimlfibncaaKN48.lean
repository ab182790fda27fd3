/-
  The printer: items.
-/
import Derived.Test.YtnndpimlfibncaaKN41
import Derived.Test.YtnndpimlfibncaaKN47
import Derived.Test.YtnndpimlfibncaaKPure14
set_option linter.unusedSimpArgs false
set_option linter.unusedVariables false
set_option linter.defProp false
set_option maxRecDepth 100000
set_option maxHeartbeats 4000000
namespace Go.Proofs.Ytnndpimlfibncaa.Eng
open Go Go.RowKit

theorem sumR_take {l : List UInt8} {k : Nat} (h : k < l.length) : sumR (l.take (k + 1)) = sumR (l.take k) + (l[k]).toNat := by
  rw [List.take_succ_eq_append_getElem h, sumR_snoc]
theorem sumB_R (l : List UInt8) : sumB l = sumR l % 256 := rfl
private def tyF := And.intro (And.intro (And.intro (And.intro (And.intro (And.intro tb22 te22) (And.intro te24 (And.intro te33 te60))) (And.intro (And.intro te61 tf26_0) (And.intro tf37_0 (And.intro tf37_1 tf37_2)))) (And.intro (And.intro (And.intro tf63_0 tf63_1) (And.intro tf63_2 (And.intro tf63_3 tf63_4))) (And.intro (And.intro tf63_5 tf63_6) (And.intro tf63_7 (And.intro tf83_0 tf83_1))))) (And.intro (And.intro (And.intro (And.intro tk22 tk24) (And.intro tk26 (And.intro tk3 tk33))) (And.intro (And.intro tk37 tk4) (And.intro tk5 (And.intro tk60 tk61)))) (And.intro (And.intro (And.intro tk63 tk81) (And.intro tk83 (And.intro tk85 tk9))) (And.intro (And.intro tp26 tp37) (And.intro tp63 (And.intro tp83 tr22)))))) (And.intro (And.intro (And.intro (And.intro (And.intro tr24 tr26) (And.intro tr3 (And.intro tr33 tr37))) (And.intro (And.intro tr4 tr5) (And.intro tr60 (And.intro tr61 tr63)))) (And.intro (And.intro (And.intro tr81 tr83) (And.intro tr85 (And.intro tr9 tu22))) (And.intro (And.intro tu24 tu3) (And.intro tu33 (And.intro tu4 tu5))))) (And.intro (And.intro (And.intro (And.intro tu60 tu61) (And.intro tu81 (And.intro tu85 tu9))) (And.intro (And.intro tz22 tz24) (And.intro tz26 (And.intro tz3 tz33)))) (And.intro (And.intro (And.intro tz37 tz4) (And.intro tz5 (And.intro tz60 tz61))) (And.intro (And.intro tz63 tz81) (And.intro tz83 (And.intro tz85 tz9))))))
theorem sumIX_c {l : List UInt8} (hl : l.length ≤ 268435456) : AC Try.prog 121 [.d (encB l)] none (fun r' _ => r' = .d (iD (sumB l))) := by
  refine calls_body Try.func121 rfl Try.call121 Try.ntmps121 (by simp) (by simp [ArgsOk]) (by simp [Rz.nkL, Rz.nk]) fun en hsz hks hk0 => ?_; refine enS ?_
  refine walkS ?_
  refine aw_loopS [2, 6, 7] (fun _ _ => []) (fun κ x => [(8, .d (iD (x : Nat))), (3, .d (iD (sumR (l.take x) : Nat)))]) [] (fun _ _ => []) [] (fun _ _ => []) (fun x => x ≤ l.length) (fun x => l.length - x) (0) hks (fun _ => rfl) (Nat.zero_le _) wkS ?_; intro x hx; refine headS ?_
  have hle := sumR_le (l.take x)
  rw [List.length_take, Nat.min_eq_left hx] at hle
  refine walkS ?_
  refine aw_condS rfl (fun hk => ?_) (fun hk => ?_)
  · have hk' : x < l.length := by omega
    have e := sumR_take hk'
    have hc := (l[x]).toNat_lt
    refine walkS ?_
    refine ⟨x + 1, by omega, by omega, ?_⟩
    rw [e]
    exact wkS
  · rw [List.take_of_length_le (by omega)]
    refine walkS ?_
    (refine aw_ret ?_; (simp only [Fin, Try.results121]; refine finS ?_); exact ⟨_, _, .inl ⟨rfl, rfl⟩, List.nodup_nil, by rw [sumB_R]; rfl⟩)
section
variable {M : Nat} {D : List RuleD}
def PrOK (D : List RuleD) (v : V) : Prop := ∀ (i : Nat) (out : List UInt8), i < D.length → validV D i v = true → out.length + capV v ≤ 268435456 → AC Try.prog 73 [.ptr 0 0, .d (iD i), .d (.rp (encVc v))] (some (prn D out)) (fun r' b' => r' = .d (.tup []) ∧ b' = some (prn D (prI D i out v)))
theorem itemsP_c (hD : DB M D) (hM : M ≤ 1048576) (hV : descP D) {i : Nat} {r : RuleD} (hr : D[i]? = some r) {n : Int} {bs : List UInt8} {vs : List V} (hv : VB 1048576 (.mk n bs vs)) (hkid : ∀ k, k < vs.length → ∃ j : Nat, itemK r n k = j ∧ j < D.length) (hval : validVs D r n 0 vs = true) (H : ∀ v ∈ vs, PrOK D v) (out : List UInt8) (ho : out.length + 70 * (vs.length + totVs vs) ≤ 268435456) : AC Try.prog 120 [.ptr 0 0, .d (iD i), .d (.rp (encVc (.mk n bs vs)))] (some (prn D out)) (fun r' b' => r' = .d (.tup []) ∧ b' = some (prn D (prIs D r n 0 out vs))) := by
  have G : GoodR D i r := good_of hV hr
  have hl : vs.length ≤ 1048576 := by unfold VB at hv; exact hv.2.1
  obtain ⟨h5, h7, h8⟩ := good_items G
  have HC : ∀ k : Nat, AC Try.prog 143 [.d (encD D), .d (iD i), .d (.rp (encVc (.mk n bs vs))), .d (iD k)] none (fun r' _ => r' = .d (iD (itemK r n k))) := fun k => child_c hD hM hr _ rfl k h5 h7 h8
  simp only [encVc_mk, encVs_eq] at HC ⊢
  refine calls_body Try.func120 rfl Try.call120 Try.ntmps120 (by simp) (by simp [ArgsOk]) (by simp [Rz.nkL, Rz.nk]) fun en hsz hks hk0 => ?_; refine enS ?_
  refine walkS ?_
  refine aw_loopS [0, 1, 2, 6, 14] (fun κ s' => [(κ, keyB s' 0 1)]) (fun κ x => [(15, .d (iD (x.1 : Nat)))]) [0] (fun κ x => [(0, some [.d (encDs D), .own κ 5 1 (x.2.map fun c => [uD c])])]) [16] (fun κ x => [(κ, some (x.2.length, 5, 1))]) (fun x : Nat × List UInt8 => x.1 ≤ vs.length ∧ prIs D r n 0 out vs = prIs D r n x.1 x.2 (vs.drop x.1) ∧ x.2.length + 70 * ((vs.drop x.1).length + totVs (vs.drop x.1)) ≤ 268435456 ∧ validVs D r n x.1 (vs.drop x.1) = true) (fun x => vs.length - x.1) ((0, out)) hks (fun _ => rfl) ⟨Nat.zero_le _, rfl, ho, hval⟩ wkS ?_; intro x hx; refine headS ?_
  obtain ⟨k, acc⟩ := x
  simp only at hx ⊢
  obtain ⟨hx1, hx2, hx3, hx4⟩ := hx
  refine walkS ?_
  refine aw_condS rfl (fun hk => ?_) (fun hk => ?_)
  · have hk' : k < vs.length := by omega
    have hF := full_c D (es := acc) (by omega)
    (repeat (first | refine walkS ?_ | (refine ow_call1p (k := 0) ?_ (fun x hx => by cases hx <;> (rw [hsz]; decide)) rfl rfl (hF) rfl rfl (by first | rfl | (simp only [List.length_map, List.length_append] <;> rfl)) (by decide) ?_; (first | exact trivial | exact rfl); simp only [St.set, List.map_cons, List.map_nil, List.length_map, List.length_append, Nat.reduceAdd]) | (refine ow_call1pV (k := 0) ?_ (fun x hx => by cases hx <;> (rw [hsz]; decide)) rfl rfl rfl (hF) rfl rfl (by first | rfl | (simp only [List.length_map, List.length_append] <;> rfl)) (by decide) ?_; (first | exact trivial | exact rfl); simp only [St.set, List.map_cons, List.map_nil, List.length_map, List.length_append, Nat.reduceAdd])))
    refine aw_condS rfl (fun hf => ?_) (fun hf => ?_)
    · have hf' : 400 < acc.length := by first | exact hf | simpa using hf
      rw [List.drop_eq_getElem_cons hk', prIs, if_pos hf'] at hx2
      ((try refine aw_ret ?_); (simp only [Fin, Try.results120]; refine finS ?_); exact ⟨_, [], .inl ⟨rfl, rfl⟩, _, (prn D acc), [_], rfl, toZL_p (by simp only [List.length_append, List.length_map] <;> rfl), by simp, ⟨rfl, by rw [hx2]⟩⟩)
    · have hf' : ¬ 400 < acc.length := by first | exact hf | simpa using hf
      obtain ⟨j, hj1, hj2⟩ := hkid k hk'
      rw [List.drop_eq_getElem_cons hk', prIs, if_neg hf', hj1] at hx2
      rw [List.drop_eq_getElem_cons hk', validVs, Bool.and_eq_true, hj1] at hx4
      rw [List.drop_eq_getElem_cons hk', totVs_cons, List.length_cons] at hx3
      have hle := prI_le hV (vs[k]'hk') j acc hj2 hx4.1
      unfold capV at hle
      have HV := H (vs[k]'hk') (List.getElem_mem _) j acc hj2 hx4.1 (by unfold capV; omega)
      have HCk := HC k
      rw [hj1] at HCk
      (repeat (first | refine walkLS ?_ | (refine ow_call1p (k := 0) ?_ (fun x hx => by cases hx <;> (rw [hsz]; decide)) rfl rfl (HV) rfl rfl (by first | rfl | (simp only [List.length_map, List.length_append] <;> rfl)) (by decide) ?_; (first | exact trivial | exact rfl); simp only [St.set, List.map_cons, List.map_nil, List.length_map, List.length_append, Nat.reduceAdd]) | (refine ow_call1pV (k := 0) ?_ (fun x hx => by cases hx <;> (rw [hsz]; decide)) rfl rfl rfl (HV) rfl rfl (by first | rfl | (simp only [List.length_map, List.length_append] <;> rfl)) (by decide) ?_; (first | exact trivial | exact rfl); simp only [St.set, List.map_cons, List.map_nil, List.length_map, List.length_append, Nat.reduceAdd]) | (refine callPre ?_; (first | refine callN_funS rfl (HCk) ?_)) | (refine callPreL ?_; (first | refine callL_funS rfl (HCk) ?_)) | (refine callPreV ?_; (first | refine callN_funS rfl (HCk) ?_))))
      refine ⟨(k + 1, prI D j acc (vs[k]'hk')), ⟨by simp only; omega, hx2, by simp only; omega, hx4.2⟩, by simp only; omega, ?_⟩
      exact wkS
  · rw [List.drop_eq_nil_of_le (by omega), prIs] at hx2
    refine walkS ?_
    ((try refine aw_ret ?_); (simp only [Fin, Try.results120]; refine finS ?_); exact ⟨_, [], .inl ⟨rfl, rfl⟩, _, (prn D acc), [_], rfl, toZL_p (by simp only [List.length_append, List.length_map] <;> rfl), by simp, ⟨rfl, by rw [hx2]⟩⟩)
end
end Go.Proofs.Ytnndpimlfibncaa.Eng
