/-
  The printer: items.
-/
import Derived.Test.YtmpokibohbhoeaaKN41
import Derived.Test.YtmpokibohbhoeaaKN47
import Derived.Test.YtmpokibohbhoeaaKPure14
set_option linter.unusedSimpArgs false
set_option linter.unusedVariables false
set_option linter.defProp false
namespace Go.Proofs.Ytmpokibohbhoeaa.Eng
open Go Go.RowKit

theorem sumR_take {l : List UInt8} {k : Nat} (h : k < l.length) : sumR (l.take (k + 1)) = sumR (l.take k) + (l[k]).toNat := by
  rw [List.take_succ_eq_append_getElem h, sumR_snoc]
theorem sumB_R (l : List UInt8) : sumB l = sumR l % 256 := rfl
private def tyF := And.intro (And.intro (And.intro (And.intro (And.intro (And.intro tb22 te106) (And.intro te107 (And.intro te22 te24))) (And.intro (And.intro te42 tf109_0) (And.intro tf109_1 (And.intro tf109_2 tf109_3)))) (And.intro (And.intro (And.intro tf109_4 tf109_5) (And.intro tf109_6 (And.intro tf109_7 tf26_0))) (And.intro (And.intro tf44_0 tf44_1) (And.intro tf44_2 (And.intro tf97_0 tf97_1))))) (And.intro (And.intro (And.intro (And.intro tk106 tk107) (And.intro tk109 (And.intro tk22 tk24))) (And.intro (And.intro tk26 tk3) (And.intro tk4 (And.intro tk42 tk44)))) (And.intro (And.intro (And.intro tk5 tk9) (And.intro tk95 (And.intro tk97 tk99))) (And.intro (And.intro tp109 tp26) (And.intro tp44 (And.intro tp97 tr106)))))) (And.intro (And.intro (And.intro (And.intro (And.intro tr107 tr109) (And.intro tr22 (And.intro tr24 tr26))) (And.intro (And.intro tr3 tr4) (And.intro tr42 (And.intro tr44 tr5)))) (And.intro (And.intro (And.intro tr9 tr95) (And.intro tr97 (And.intro tr99 tu106))) (And.intro (And.intro tu107 tu22) (And.intro tu24 (And.intro tu3 tu4))))) (And.intro (And.intro (And.intro (And.intro tu42 tu5) (And.intro tu9 (And.intro tu95 tu99))) (And.intro (And.intro tz106 tz107) (And.intro tz109 (And.intro tz22 tz24)))) (And.intro (And.intro (And.intro tz26 tz3) (And.intro tz4 (And.intro tz42 tz44))) (And.intro (And.intro tz5 tz9) (And.intro tz95 (And.intro tz97 tz99))))))
set_option maxRecDepth 100000 in
set_option maxHeartbeats 1000000 in
theorem sumIX_c {l : List UInt8} (hl : l.length ≤ 268435456) : AC Try.prog 137 [.d (encB l)] none (fun r' _ => r' = .d (iD (sumB l))) := by
  refine calls_body Try.func137 rfl Try.call137 Try.ntmps137 (by simp) (by simp [ArgsOk]) (by simp [Rz.nkL, Rz.nk]) fun en hsz hks hk0 => ?_; simp only [St.init, frOf, Rz.addSL, Rz.addS, Rz.toAL, Rz.toA, Rz.nk, List.zipIdx_cons, List.zipIdx_nil, List.map_cons, List.map_nil, Nat.zero_add, Nat.reduceAdd]
  refine walkS ?_
  refine aw_loopS [2, 6, 7] (fun _ _ => []) (fun κ x => [(8, .d (iD (x : Nat))), (3, .d (iD (sumR (l.take x) : Nat)))]) [] (fun _ _ => []) [] (fun _ _ => []) (fun x => x ≤ l.length) (fun x => l.length - x) (0) hks (fun _ => rfl) (Nat.zero_le _) wkS ?_; intro x hx; simp (decide := true) only [St.head, List.map_cons, List.map_nil, lk, rmv, List.cons_append, List.nil_append, List.append_nil, reduceIte, Nat.reduceAdd]
  have hle := sumR_le (l.take x)
  rw [List.length_take, Nat.min_eq_left hx] at hle
  refine walkS ?_
  refine aw_condS rfl (fun hk => ?_) (fun hk => ?_)
  · have hk' : x < l.length := by omega
    have e := sumR_take hk'
    have hc := (l[x]).toNat_lt
    refine walkS ?_
    refine ⟨x + 1, by omega, by omega, ?_⟩
    rw [e]
    exact wkS
  · rw [List.take_of_length_le (by omega)]
    refine walkS ?_
    (refine aw_ret ?_; (simp only [Fin, Try.results137]; refine finS ?_); exact ⟨_, _, .inl ⟨rfl, rfl⟩, List.nodup_nil, by rw [sumB_R]; rfl⟩)
section
variable {M : Nat} {D : List RuleD}
/-- What it means that a value is printed. -/
def PrOK (D : List RuleD) (v : V) : Prop := ∀ (i : Nat) (out : List UInt8), i < D.length → validV D i v = true → out.length + capV v ≤ 268435456 → AC Try.prog 82 [.ptr 0 0, .d (iD i), .d (.rp (encVc v))] (some (prn D out)) (fun r' b' => r' = .d (.tup []) ∧ b' = some (prn D (prI D i out v)))
set_option maxRecDepth 100000 in
set_option maxHeartbeats 2000000 in
theorem itemsP_c (hD : DB M D) (hM : M ≤ 1048576) (hV : descP D) {i : Nat} {r : RuleD} (hr : D[i]? = some r) {n : Int} {bs : List UInt8} {vs : List V} (hv : VB 1048576 (.mk n bs vs)) (hkid : ∀ k, k < vs.length → ∃ j : Nat, itemK r n k = j ∧ j < D.length) (hval : validVs D r n 0 vs = true) (H : ∀ v ∈ vs, PrOK D v) (out : List UInt8) (ho : out.length + 70 * (vs.length + totVs vs) ≤ 268435456) : AC Try.prog 136 [.ptr 0 0, .d (iD i), .d (.rp (encVc (.mk n bs vs)))] (some (prn D out)) (fun r' b' => r' = .d (.tup []) ∧ b' = some (prn D (prIs D r n 0 out vs))) := by
  have G : GoodR D i r := good_of hV hr
  have hl : vs.length ≤ 1048576 := by unfold VB at hv; exact hv.2.1
  obtain ⟨h5, h7, h8⟩ := good_items G
  have HC : ∀ k : Nat, AC Try.prog 173 [.d (encD D), .d (iD i), .d (.rp (encVc (.mk n bs vs))), .d (iD k)] none (fun r' _ => r' = .d (iD (itemK r n k))) := fun k => child_c hD hM hr _ rfl k h5 h7 h8
  simp only [encVc_mk, encVs_eq] at HC ⊢
  refine calls_body Try.func136 rfl Try.call136 Try.ntmps136 (by simp) (by simp [ArgsOk]) (by simp [Rz.nkL, Rz.nk]) fun en hsz hks hk0 => ?_; simp only [St.init, frOf, Rz.addSL, Rz.addS, Rz.toAL, Rz.toA, Rz.nk, List.zipIdx_cons, List.zipIdx_nil, List.map_cons, List.map_nil, Nat.zero_add, Nat.reduceAdd]
  refine walkS ?_
  refine aw_loopS [0, 1, 2, 6, 14] (fun κ s' => [(κ, keyB s' 0 1)]) (fun κ x => [(15, .d (iD (x.1 : Nat)))]) [0] (fun κ x => [(0, some [.d (encDs D), .own κ 5 1 (x.2.map fun c => [uD c])])]) [16] (fun κ x => [(κ, some (x.2.length, 5, 1))]) (fun x : Nat × List UInt8 => x.1 ≤ vs.length ∧ prIs D r n 0 out vs = prIs D r n x.1 x.2 (vs.drop x.1) ∧ x.2.length + 70 * ((vs.drop x.1).length + totVs (vs.drop x.1)) ≤ 268435456 ∧ validVs D r n x.1 (vs.drop x.1) = true) (fun x => vs.length - x.1) ((0, out)) hks (fun _ => rfl) ⟨Nat.zero_le _, rfl, ho, hval⟩ wkS ?_; intro x hx; simp (decide := true) only [St.head, List.map_cons, List.map_nil, lk, rmv, List.cons_append, List.nil_append, List.append_nil, reduceIte, Nat.reduceAdd]
  obtain ⟨k, acc⟩ := x
  simp only at hx ⊢
  obtain ⟨hx1, hx2, hx3, hx4⟩ := hx
  refine walkS ?_
  refine aw_condS rfl (fun hk => ?_) (fun hk => ?_)
  · have hk' : k < vs.length := by omega
    have hF := full_c D (es := acc) (by omega)
    (repeat (first | refine walkS ?_ | (refine ow_call1p (k := 0) ?_ (fun x hx => by cases hx <;> (rw [hsz]; decide)) rfl rfl (hF) rfl rfl (by first | rfl | (simp only [List.length_map, List.length_append] <;> rfl)) (by decide) ?_; (first | exact trivial | exact rfl); simp only [St.set, List.map_cons, List.map_nil, List.length_map, List.length_append, Nat.reduceAdd]) | (refine ow_call1pV (k := 0) ?_ (fun x hx => by cases hx <;> (rw [hsz]; decide)) rfl rfl rfl (hF) rfl rfl (by first | rfl | (simp only [List.length_map, List.length_append] <;> rfl)) (by decide) ?_; (first | exact trivial | exact rfl); simp only [St.set, List.map_cons, List.map_nil, List.length_map, List.length_append, Nat.reduceAdd])))
    refine aw_condS rfl (fun hf => ?_) (fun hf => ?_)
    · have hf' : 400 < acc.length := by first | exact hf | simpa using hf
      rw [List.drop_eq_getElem_cons hk', prIs, if_pos hf'] at hx2
      ((try refine aw_ret ?_); (simp only [Fin, Try.results136]; refine finS ?_); exact ⟨_, [], .inl ⟨rfl, rfl⟩, _, (prn D acc), [_], rfl, toZL_p (by simp only [List.length_append, List.length_map] <;> rfl), by simp, ⟨rfl, by rw [hx2]⟩⟩)
    · have hf' : ¬ 400 < acc.length := by first | exact hf | simpa using hf
      obtain ⟨j, hj1, hj2⟩ := hkid k hk'
      rw [List.drop_eq_getElem_cons hk', prIs, if_neg hf', hj1] at hx2
      rw [List.drop_eq_getElem_cons hk', validVs, Bool.and_eq_true, hj1] at hx4
      rw [List.drop_eq_getElem_cons hk', totVs_cons, List.length_cons] at hx3
      have hle := prI_le hV (vs[k]'hk') j acc hj2 hx4.1
      unfold capV at hle
      have HV := H (vs[k]'hk') (List.getElem_mem _) j acc hj2 hx4.1 (by unfold capV; omega)
      have HCk := HC k
      rw [hj1] at HCk
      (repeat (first | refine walkLS ?_ | (refine ow_call1p (k := 0) ?_ (fun x hx => by cases hx <;> (rw [hsz]; decide)) rfl rfl (HV) rfl rfl (by first | rfl | (simp only [List.length_map, List.length_append] <;> rfl)) (by decide) ?_; (first | exact trivial | exact rfl); simp only [St.set, List.map_cons, List.map_nil, List.length_map, List.length_append, Nat.reduceAdd]) | (refine ow_call1pV (k := 0) ?_ (fun x hx => by cases hx <;> (rw [hsz]; decide)) rfl rfl rfl (HV) rfl rfl (by first | rfl | (simp only [List.length_map, List.length_append] <;> rfl)) (by decide) ?_; (first | exact trivial | exact rfl); simp only [St.set, List.map_cons, List.map_nil, List.length_map, List.length_append, Nat.reduceAdd]) | (refine callPre ?_; (first | refine callN_funS rfl (HCk) ?_)) | (refine callPreL ?_; (first | refine callL_funS rfl (HCk) ?_)) | (refine callPreV ?_; (first | refine callN_funS rfl (HCk) ?_))))
      refine ⟨(k + 1, prI D j acc (vs[k]'hk')), ⟨by simp only; omega, hx2, by simp only; omega, hx4.2⟩, by simp only; omega, ?_⟩
      exact wkS
  · rw [List.drop_eq_nil_of_le (by omega), prIs] at hx2
    refine walkS ?_
    ((try refine aw_ret ?_); (simp only [Fin, Try.results136]; refine finS ?_); exact ⟨_, [], .inl ⟨rfl, rfl⟩, _, (prn D acc), [_], rfl, toZL_p (by simp only [List.length_append, List.length_map] <;> rfl), by simp, ⟨rfl, by rw [hx2]⟩⟩)
end
end Go.Proofs.Ytmpokibohbhoeaa.Eng
