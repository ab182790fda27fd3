/-
  The printer: items.
-/
import Derived.Test.YtmdohnoimianbaaGreatDoorKN41
import Derived.Test.YtmdohnoimianbaaGreatDoorKN47
import Derived.Test.YtmdohnoimianbaaGreatDoorKPure14
set_option linter.unusedSimpArgs false
set_option linter.unusedVariables false
set_option linter.defProp false
set_option maxRecDepth 100000
set_option maxHeartbeats 4000000
namespace Go.Proofs.YtmdohnoimianbaaGreatDoor.Eng
open Go Go.RowKit

theorem sumR_take {l : List UInt8} {k : Nat} (h : k < l.length) : sumR (l.take (k + 1)) = sumR (l.take k) + (l[k]).toNat := by
  rw [List.take_succ_eq_append_getElem h, sumR_snoc]
theorem sumB_R (l : List UInt8) : sumB l = sumR l % 256 := rfl
private def tyF := And.intro (And.intro (And.intro (And.intro (And.intro (And.intro tb25 te25) (And.intro te27 (And.intro te32 te73))) (And.intro (And.intro te74 tf140_0) (And.intro tf140_1 (And.intro tf29_0 tf29_1)))) (And.intro (And.intro (And.intro tf29_2 tf34_0) (And.intro tf78_0 (And.intro tf78_1 tf78_2))) (And.intro (And.intro tf78_3 tf78_4) (And.intro tf78_5 (And.intro tf78_6 tf78_7))))) (And.intro (And.intro (And.intro (And.intro tk138 tk140) (And.intro tk142 (And.intro tk25 tk27))) (And.intro (And.intro tk29 tk3) (And.intro tk32 (And.intro tk34 tk4)))) (And.intro (And.intro (And.intro tk5 tk73) (And.intro tk74 (And.intro tk78 tk9))) (And.intro (And.intro tp140 tp29) (And.intro tp34 (And.intro tp78 tr138)))))) (And.intro (And.intro (And.intro (And.intro (And.intro tr140 tr142) (And.intro tr25 (And.intro tr27 tr29))) (And.intro (And.intro tr3 tr32) (And.intro tr34 (And.intro tr4 tr5)))) (And.intro (And.intro (And.intro tr73 tr74) (And.intro tr78 (And.intro tr9 tu138))) (And.intro (And.intro tu142 tu25) (And.intro tu27 (And.intro tu3 tu32))))) (And.intro (And.intro (And.intro (And.intro tu4 tu5) (And.intro tu73 (And.intro tu74 tu9))) (And.intro (And.intro tz138 tz140) (And.intro tz142 (And.intro tz25 tz27)))) (And.intro (And.intro (And.intro tz29 tz3) (And.intro tz32 (And.intro tz34 tz4))) (And.intro (And.intro tz5 tz73) (And.intro tz74 (And.intro tz78 tz9))))))
theorem sumIX_c {l : List UInt8} (hl : l.length ≤ 268435456) : AC Tryz.prog 95 [.d (encB l)] none (fun r' _ => r' = .d (iD (sumB l))) := by
  refine calls_body Tryz.func95 rfl Tryz.call95 Tryz.ntmps95 (by simp) (by simp [ArgsOk]) (by simp [Rz.nkL, Rz.nk]) fun en hsz hks hk0 => ?_; refine enS ?_
  refine walkS ?_
  refine aw_loopS [2, 6, 7] (fun _ _ => []) (fun κ x => [(8, .d (iD (x : Nat))), (3, .d (iD (sumR (l.take x) : Nat)))]) [] (fun _ _ => []) [] (fun _ _ => []) (fun x => x ≤ l.length) (fun x => l.length - x) (0) hks (fun _ => rfl) (Nat.zero_le _) wkS ?_; intro x hx; refine headS ?_
  have hle := sumR_le (l.take x)
  rw [List.length_take, Nat.min_eq_left hx] at hle
  refine walkS ?_
  refine aw_condS rfl (fun hk => ?_) (fun hk => ?_)
  · have hk' : x < l.length := by omega
    have e := sumR_take hk'
    have hc := (l[x]).toNat_lt
    refine walkS ?_
    refine ⟨x + 1, by omega, by omega, ?_⟩
    rw [e]
    exact wkS
  · rw [List.take_of_length_le (by omega)]
    refine walkS ?_
    (refine aw_ret ?_; (simp only [Fin, Tryz.results95]; refine finS ?_); exact ⟨_, _, .inl ⟨rfl, rfl⟩, List.nodup_nil, by rw [sumB_R]; rfl⟩)
section
variable {M : Nat} {D : List RuleD}
def PrOK (D : List RuleD) (v : V) : Prop := ∀ (i : Nat) (out : List UInt8), i < D.length → validV D i v = true → out.length + capV v ≤ 268435456 → AC Tryz.prog 104 [.ptr 0 0, .d (iD i), .d (.rp (encVc v))] (some (prn D out)) (fun r' b' => r' = .d (.tup []) ∧ b' = some (prn D (prI D i out v)))
theorem itemsP_c (hD : DB M D) (hM : M ≤ 1048576) (hV : descP D) {i : Nat} {r : RuleD} (hr : D[i]? = some r) {n : Int} {bs : List UInt8} {vs : List V} (hv : VB 1048576 (.mk n bs vs)) (hkid : ∀ k, k < vs.length → ∃ j : Nat, itemK r n k = j ∧ j < D.length) (hval : validVs D r n 0 vs = true) (H : ∀ v ∈ vs, PrOK D v) (out : List UInt8) (ho : out.length + 70 * (vs.length + totVs vs) ≤ 268435456) : AC Tryz.prog 117 [.ptr 0 0, .d (iD i), .d (.rp (encVc (.mk n bs vs)))] (some (prn D out)) (fun r' b' => r' = .d (.tup []) ∧ b' = some (prn D (prIs D r n 0 out vs))) := by
  have G : GoodR D i r := good_of hV hr
  have hl : vs.length ≤ 1048576 := by unfold VB at hv; exact hv.2.1
  obtain ⟨h5, h7, h8⟩ := good_items G
  have HC : ∀ k : Nat, AC Tryz.prog 130 [.d (encD D), .d (iD i), .d (.rp (encVc (.mk n bs vs))), .d (iD k)] none (fun r' _ => r' = .d (iD (itemK r n k))) := fun k => child_c hD hM hr _ rfl k h5 h7 h8
  simp only [encVc_mk, encVs_eq] at HC ⊢
  refine calls_body Tryz.func117 rfl Tryz.call117 Tryz.ntmps117 (by simp) (by simp [ArgsOk]) (by simp [Rz.nkL, Rz.nk]) fun en hsz hks hk0 => ?_; refine enS ?_
  refine walkS ?_
  refine aw_loopS [0, 1, 2, 6, 14] (fun κ s' => [(κ, keyB s' 0 1)]) (fun κ x => [(15, .d (iD (x.1 : Nat)))]) [0] (fun κ x => [(0, some [.d (encDs D), .own κ 5 1 (x.2.map fun c => [uD c])])]) [16] (fun κ x => [(κ, some (x.2.length, 5, 1))]) (fun x : Nat × List UInt8 => x.1 ≤ vs.length ∧ prIs D r n 0 out vs = prIs D r n x.1 x.2 (vs.drop x.1) ∧ x.2.length + 70 * ((vs.drop x.1).length + totVs (vs.drop x.1)) ≤ 268435456 ∧ validVs D r n x.1 (vs.drop x.1) = true) (fun x => vs.length - x.1) ((0, out)) hks (fun _ => rfl) ⟨Nat.zero_le _, rfl, ho, hval⟩ wkS ?_; intro x hx; refine headS ?_
  obtain ⟨k, acc⟩ := x
  simp only at hx ⊢
  obtain ⟨hx1, hx2, hx3, hx4⟩ := hx
  refine walkS ?_
  refine aw_condS rfl (fun hk => ?_) (fun hk => ?_)
  · have hk' : k < vs.length := by omega
    have hF := full_c D (es := acc) (by omega)
    (repeat (first | refine walkS ?_ | (refine ow_call1p (k := 0) ?_ (fun x hx => by cases hx <;> (rw [hsz]; decide)) rfl rfl (hF) rfl rfl (by first | rfl | (simp only [List.length_map, List.length_append] <;> rfl)) (by decide) ?_; (first | exact trivial | exact rfl); simp only [St.set, List.map_cons, List.map_nil, List.length_map, List.length_append, Nat.reduceAdd]) | (refine ow_call1pV (k := 0) ?_ (fun x hx => by cases hx <;> (rw [hsz]; decide)) rfl rfl rfl (hF) rfl rfl (by first | rfl | (simp only [List.length_map, List.length_append] <;> rfl)) (by decide) ?_; (first | exact trivial | exact rfl); simp only [St.set, List.map_cons, List.map_nil, List.length_map, List.length_append, Nat.reduceAdd])))
    refine aw_condS rfl (fun hf => ?_) (fun hf => ?_)
    · have hf' : 400 < acc.length := by first | exact hf | simpa using hf
      rw [List.drop_eq_getElem_cons hk', prIs, if_pos hf'] at hx2
      ((try refine aw_ret ?_); (simp only [Fin, Tryz.results117]; refine finS ?_); exact ⟨_, [], .inl ⟨rfl, rfl⟩, _, (prn D acc), [_], rfl, toZL_p (by simp only [List.length_append, List.length_map] <;> rfl), by simp, ⟨rfl, by rw [hx2]⟩⟩)
    · have hf' : ¬ 400 < acc.length := by first | exact hf | simpa using hf
      obtain ⟨j, hj1, hj2⟩ := hkid k hk'
      rw [List.drop_eq_getElem_cons hk', prIs, if_neg hf', hj1] at hx2
      rw [List.drop_eq_getElem_cons hk', validVs, Bool.and_eq_true, hj1] at hx4
      rw [List.drop_eq_getElem_cons hk', totVs_cons, List.length_cons] at hx3
      have hle := prI_le hV (vs[k]'hk') j acc hj2 hx4.1
      unfold capV at hle
      have HV := H (vs[k]'hk') (List.getElem_mem _) j acc hj2 hx4.1 (by unfold capV; omega)
      have HCk := HC k
      rw [hj1] at HCk
      (repeat (first | refine walkLS ?_ | (refine ow_call1p (k := 0) ?_ (fun x hx => by cases hx <;> (rw [hsz]; decide)) rfl rfl (HV) rfl rfl (by first | rfl | (simp only [List.length_map, List.length_append] <;> rfl)) (by decide) ?_; (first | exact trivial | exact rfl); simp only [St.set, List.map_cons, List.map_nil, List.length_map, List.length_append, Nat.reduceAdd]) | (refine ow_call1pV (k := 0) ?_ (fun x hx => by cases hx <;> (rw [hsz]; decide)) rfl rfl rfl (HV) rfl rfl (by first | rfl | (simp only [List.length_map, List.length_append] <;> rfl)) (by decide) ?_; (first | exact trivial | exact rfl); simp only [St.set, List.map_cons, List.map_nil, List.length_map, List.length_append, Nat.reduceAdd]) | (refine callPre ?_; (first | refine callN_funS rfl (HCk) ?_)) | (refine callPreL ?_; (first | refine callL_funS rfl (HCk) ?_)) | (refine callPreV ?_; (first | refine callN_funS rfl (HCk) ?_))))
      refine ⟨(k + 1, prI D j acc (vs[k]'hk')), ⟨by simp only; omega, hx2, by simp only; omega, hx4.2⟩, by simp only; omega, ?_⟩
      exact wkS
  · rw [List.drop_eq_nil_of_le (by omega), prIs] at hx2
    refine walkS ?_
    ((try refine aw_ret ?_); (simp only [Fin, Tryz.results117]; refine finS ?_); exact ⟨_, [], .inl ⟨rfl, rfl⟩, _, (prn D acc), [_], rfl, toZL_p (by simp only [List.length_append, List.length_map] <;> rfl), by simp, ⟨rfl, by rw [hx2]⟩⟩)
end
end Go.Proofs.YtmdohnoimianbaaGreatDoor.Eng
