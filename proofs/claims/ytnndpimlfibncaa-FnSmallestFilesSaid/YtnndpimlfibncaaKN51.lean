/-
  The printer: values.
-/
import Derived.Test.YtnndpimlfibncaaKN48
import Derived.Test.YtnndpimlfibncaaKN49
import Derived.Test.YtnndpimlfibncaaKE4
set_option linter.unusedSimpArgs false
set_option linter.unusedVariables false
set_option linter.defProp false
set_option maxRecDepth 100000
set_option maxHeartbeats 4000000
namespace Go.Proofs.Ytnndpimlfibncaa.Eng
open Go Go.RowKit

private def tyF := And.intro (And.intro (And.intro (And.intro (And.intro (And.intro tb22 te22) (And.intro te24 (And.intro te33 te60))) (And.intro (And.intro te61 tf26_0) (And.intro tf37_0 (And.intro tf37_1 tf37_2)))) (And.intro (And.intro (And.intro tf63_0 tf63_1) (And.intro tf63_2 (And.intro tf63_3 tf63_4))) (And.intro (And.intro tf63_5 tf63_6) (And.intro tf63_7 (And.intro tf83_0 tf83_1))))) (And.intro (And.intro (And.intro (And.intro tk22 tk24) (And.intro tk26 (And.intro tk3 tk33))) (And.intro (And.intro tk37 tk4) (And.intro tk5 (And.intro tk60 tk61)))) (And.intro (And.intro (And.intro tk63 tk81) (And.intro tk83 (And.intro tk85 tk9))) (And.intro (And.intro tp26 tp37) (And.intro tp63 (And.intro tp83 tr22)))))) (And.intro (And.intro (And.intro (And.intro (And.intro tr24 tr26) (And.intro tr3 (And.intro tr33 tr37))) (And.intro (And.intro tr4 tr5) (And.intro tr60 (And.intro tr61 tr63)))) (And.intro (And.intro (And.intro tr81 tr83) (And.intro tr85 (And.intro tr9 tu22))) (And.intro (And.intro tu24 tu3) (And.intro tu33 (And.intro tu4 tu5))))) (And.intro (And.intro (And.intro (And.intro tu60 tu61) (And.intro tu81 (And.intro tu85 tu9))) (And.intro (And.intro tz22 tz24) (And.intro tz26 (And.intro tz3 tz33)))) (And.intro (And.intro (And.intro tz37 tz4) (And.intro tz5 (And.intro tz60 tz61))) (And.intro (And.intro tz63 tz81) (And.intro tz83 (And.intro tz85 tz9))))))
section
variable {M : Nat} {D : List RuleD}
theorem put_n {D : List RuleD} {out o2 b : List UInt8} (h : o2 = out ++ b) (hl : out.length + b.length ≤ 268435456) : AC Try.prog 118 [.ptr 0 0, .d (encB b)] (some (prn D out)) (fun r' b' => r' = .d (.tup []) ∧ b' = some (prn D o2)) := by
  rw [h]
  exact put_c D hl
theorem valueP_step (hD : DB M D) (hM : M ≤ 1048576) (hV : descP D) {n : Int} {bs : List UInt8} {vs : List V} (hv : VB 1048576 (.mk n bs vs)) (H : ∀ v ∈ vs, PrOK D v) : PrOK D (.mk n bs vs) := by
  intro i out hi hval hcap
  obtain ⟨r, hr⟩ : ∃ r, D[i]? = some r := ⟨_, List.getElem?_eq_getElem hi⟩
  have G : GoodR D i r := good_of hV hr
  obtain ⟨kd1, kd2⟩ := G.kd
  have hrb := hD.rule r (List.mem_of_getElem? hr)
  obtain ⟨v1, v2, _⟩ : bs.length ≤ 1048576 ∧ vs.length ≤ 1048576 ∧ VBs 1048576 vs := by unfold VB at hv; exact hv
  rw [validV, ruleD_get hr, Bool.and_eq_true] at hval
  obtain ⟨hO, hvs⟩ := hval
  have hkid : ∀ k (h : k < vs.length), ∃ j : Nat, itemK r n k = j ∧ j < D.length := fun k h => own_kid G hi hO h
  have hhead := headB_len hV hr G hO
  rw [capV_mk] at hcap
  have hpr : prI D i out (.mk n bs vs) = prIs D r n 0 (out ++ headB D r n bs vs.length) vs ++ tailB r ((prIs D r n 0 (out ++ headB D r n bs vs.length) vs).drop (out ++ headB D r n bs vs.length).length) := by rw [prI, ruleD_get hr]
  rw [hpr]
  obtain ⟨o2, ho2⟩ : ∃ o2, o2 = out ++ headB D r n bs vs.length := ⟨_, rfl⟩
  rw [← ho2]
  have hl2 : o2.length ≤ out.length + 68 + 2 * bs.length := by rw [ho2, List.length_append]; omega
  have HI := itemsP_c hD hM hV hr hv hkid hvs H o2 (by omega)
  have hl3 := prIs_le hV r n vs 0 o2 (fun k hk => by rw [Nat.zero_add]; exact hkid k hk) hvs
  have hge := prIs_ge D r n vs 0 o2
  generalize prIs D r n 0 o2 vs = o3 at HI hl3 hge
  rw [encVc_mk, encVs_eq] at HI ⊢
  refine calls_body Try.func73 rfl Try.call73 Try.ntmps73 (by simp) (by simp [ArgsOk]) (by simp [Rz.nkL, Rz.nk]) fun en hsz hks hk0 => ?_; refine enS ?_
  refine walkJS ?_
  refine aw_joinS [1, 2, 3, 6] (fun κ s' => [(κ, keyB s' 0 1)]) (fun _ _ => []) [0] (fun κ _ => [(0, some [.d (encDs D), .own κ 5 1 (o2.map fun c => [uD c])])]) [16] (fun κ _ => [(κ, some (o2.length, 5, 1))]) (fun _ : Unit => True) hks (fun _ => rfl) (fun x hx => ?_) ?_; rotate_left
  · refine walkS ?_
    refine aw_condS rfl (fun n1 => ?_) (fun n1 => ?_)
    · rw [headB_1 n1] at ho2
      rw [ownV_1 n1, decide_eq_true_eq] at hO
      obtain ⟨m, rfl⟩ : ∃ m : Nat, n = m := ⟨n.toNat, by omega⟩
      rw [Int.toNat_natCast] at ho2
      have hil := intB_len r m
      have hs := G.k1 n1
      refine walkS ?_
      (have hsz0 := hsz; refine ow_inlineV ?_ (fun x hx => by cases hx <;> (rw [hsz]; decide)) rfl rfl Try.func117 rfl Try.call117 Try.ntmps117 (by simp) fun en2 hsz => ?_; (first | exact trivial | exact rfl); simp (decide := true) only [frOf, ev, St.f, lk, reduceIte, List.zipIdx_cons, List.zipIdx_nil, List.map_cons, List.map_nil, List.nil_append, List.cons_append, List.append_nil, Nat.zero_add, Nat.reduceAdd])
      (repeat (first | refine walkLS ?_ | (refine ow_call1p (k := 0) ?_ (fun x hx => by cases hx <;> (rw [hsz]; decide)) rfl rfl (put_n ho2 (by omega)) rfl rfl (by first | rfl | (simp only [List.length_map, List.length_append] <;> rfl)) (by decide) ?_; (first | exact trivial | exact rfl); simp only [St.set, List.map_cons, List.map_nil, List.length_map, List.length_append, Nat.reduceAdd]) | (refine ow_call1pV (k := 0) ?_ (fun x hx => by cases hx <;> (rw [hsz]; decide)) rfl rfl rfl (put_n ho2 (by omega)) rfl rfl (by first | rfl | (simp only [List.length_map, List.length_append] <;> rfl)) (by decide) ?_; (first | exact trivial | exact rfl); simp only [St.set, List.map_cons, List.map_nil, List.length_map, List.length_append, Nat.reduceAdd]) | (refine callPre ?_; (first | refine callN_funS rfl (encInt_c (r := r) (n := m) hs (by omega)) ?_)) | (refine callPreL ?_; (first | refine callL_funS rfl (encInt_c (r := r) (n := m) hs (by omega)) ?_)) | (refine callPreV ?_; (first | refine callN_funS rfl (encInt_c (r := r) (n := m) hs (by omega)) ?_))))
      (refine ⟨.inl rfl, ?_⟩; show OWs _ _ _ _ _ (St.set _ (some _) _); simp only [St.set, resOf, mkTup, allD, Option.map_some, Option.map_none, List.map_nil]; have hsz := hsz0)
      refine walkS ?_
      refine ⟨(), trivial, ?_⟩
      exact wkS
    refine walkS ?_
    refine aw_condS rfl (fun n2 => ?_) (fun n2 => ?_)
    · rw [headB_2 n2] at ho2
      have hcl := const_le hV hr n2
      (repeat (first | refine walkS ?_ | (refine ow_call1p (k := 0) ?_ (fun x hx => by cases hx <;> (rw [hsz]; decide)) rfl rfl (put_n ho2 (by omega)) rfl rfl (by first | rfl | (simp only [List.length_map, List.length_append] <;> rfl)) (by decide) ?_; (first | exact trivial | exact rfl); simp only [St.set, List.map_cons, List.map_nil, List.length_map, List.length_append, Nat.reduceAdd]) | (refine ow_call1pV (k := 0) ?_ (fun x hx => by cases hx <;> (rw [hsz]; decide)) rfl rfl rfl (put_n ho2 (by omega)) rfl rfl (by first | rfl | (simp only [List.length_map, List.length_append] <;> rfl)) (by decide) ?_; (first | exact trivial | exact rfl); simp only [St.set, List.map_cons, List.map_nil, List.length_map, List.length_append, Nat.reduceAdd])))
      refine ⟨(), trivial, ?_⟩
      exact wkS
    refine walkS ?_
    refine aw_condS rfl (fun n3 => ?_) (fun n3 => ?_)
    · rw [headB_3 n3] at ho2
      (repeat (first | refine walkLS ?_ | (refine ow_call1p (k := 0) ?_ (fun x hx => by cases hx <;> (rw [hsz]; decide)) rfl rfl (put_n ho2 (by omega)) rfl rfl (by first | rfl | (simp only [List.length_map, List.length_append] <;> rfl)) (by decide) ?_; (first | exact trivial | exact rfl); simp only [St.set, List.map_cons, List.map_nil, List.length_map, List.length_append, Nat.reduceAdd]) | (refine ow_call1pV (k := 0) ?_ (fun x hx => by cases hx <;> (rw [hsz]; decide)) rfl rfl rfl (put_n ho2 (by omega)) rfl rfl (by first | rfl | (simp only [List.length_map, List.length_append] <;> rfl)) (by decide) ?_; (first | exact trivial | exact rfl); simp only [St.set, List.map_cons, List.map_nil, List.length_map, List.length_append, Nat.reduceAdd])))
      refine ⟨(), trivial, ?_⟩
      exact wkS
    refine walkS ?_
    refine aw_condS rfl (fun n4 => ?_) (fun n4 => ?_)
    · rw [headB_4 n4] at ho2
      rw [ownV_4 n4, decide_eq_true_eq] at hO
      obtain ⟨j, q, ej, hj, hq, hqr, hlim⟩ := head_kid G (.inl n4)
      have hk0 : r.kids[0]? = some (j : Int) := by rw [kids0 (by have := (G.k4 n4).1; omega), ej]
      have hil := intB_len q bs.length
      rw [hqr, ← List.append_assoc] at ho2
      obtain ⟨o1, ho1⟩ : ∃ o1, o1 = out ++ intB q bs.length := ⟨_, rfl⟩
      rw [← ho1] at ho2
      have hl1 : o1.length ≤ out.length + 4 := by rw [ho1, List.length_append]; omega
      refine walkLS ?_
      (have hsz0 := hsz; refine ow_inlineV ?_ (fun x hx => by cases hx <;> (rw [hsz]; decide)) rfl rfl Try.func117 rfl Try.call117 Try.ntmps117 (by simp) fun en2 hsz => ?_; (first | exact trivial | exact rfl); simp (decide := true) only [frOf, ev, St.f, lk, reduceIte, List.zipIdx_cons, List.zipIdx_nil, List.map_cons, List.map_nil, List.nil_append, List.cons_append, List.append_nil, Nat.zero_add, Nat.reduceAdd])
      (repeat (first | refine walkLS ?_ | (refine ow_call1p (k := 0) ?_ (fun x hx => by cases hx <;> (rw [hsz]; decide)) rfl rfl (put_n ho1 (by omega)) rfl rfl (by first | rfl | (simp only [List.length_map, List.length_append] <;> rfl)) (by decide) ?_; (first | exact trivial | exact rfl); simp only [St.set, List.map_cons, List.map_nil, List.length_map, List.length_append, Nat.reduceAdd]) | (refine ow_call1pV (k := 0) ?_ (fun x hx => by cases hx <;> (rw [hsz]; decide)) rfl rfl rfl (put_n ho1 (by omega)) rfl rfl (by first | rfl | (simp only [List.length_map, List.length_append] <;> rfl)) (by decide) ?_; (first | exact trivial | exact rfl); simp only [St.set, List.map_cons, List.map_nil, List.length_map, List.length_append, Nat.reduceAdd]) | (refine callPre ?_; (first | refine callN_funS rfl (encInt_c (r := q) (n := bs.length) hq (by omega)) ?_)) | (refine callPreL ?_; (first | refine callL_funS rfl (encInt_c (r := q) (n := bs.length) hq (by omega)) ?_)) | (refine callPreV ?_; (first | refine callN_funS rfl (encInt_c (r := q) (n := bs.length) hq (by omega)) ?_))))
      (refine ⟨.inl rfl, ?_⟩; show OWs _ _ _ _ _ (St.set _ (some _) _); simp only [St.set, resOf, mkTup, allD, Option.map_some, Option.map_none, List.map_nil]; have hsz := hsz0)
      (repeat (first | refine walkLS ?_ | (refine ow_call1p (k := 0) ?_ (fun x hx => by cases hx <;> (rw [hsz]; decide)) rfl rfl (put_n ho2 (by omega)) rfl rfl (by first | rfl | (simp only [List.length_map, List.length_append] <;> rfl)) (by decide) ?_; (first | exact trivial | exact rfl); simp only [St.set, List.map_cons, List.map_nil, List.length_map, List.length_append, Nat.reduceAdd]) | (refine ow_call1pV (k := 0) ?_ (fun x hx => by cases hx <;> (rw [hsz]; decide)) rfl rfl rfl (put_n ho2 (by omega)) rfl rfl (by first | rfl | (simp only [List.length_map, List.length_append] <;> rfl)) (by decide) ?_; (first | exact trivial | exact rfl); simp only [St.set, List.map_cons, List.map_nil, List.length_map, List.length_append, Nat.reduceAdd])))
      refine ⟨(), trivial, ?_⟩
      exact wkS
    refine walkS ?_
    refine aw_condS rfl (fun n5 => ?_) (fun n5 => ?_)
    · rw [headB_5 n5] at ho2
      rw [ownV_5 n5, decide_eq_true_eq] at hO
      obtain ⟨j, q, ej, hj, hq, hqr, hlim⟩ := head_kid G (.inr (.inl n5))
      have hk0 : r.kids[0]? = some (j : Int) := by rw [kids0 (by have := (G.k5 n5).1; omega), ej]
      have hil := intB_len q vs.length
      rw [hqr] at ho2
      refine walkLS ?_
      (have hsz0 := hsz; refine ow_inlineV ?_ (fun x hx => by cases hx <;> (rw [hsz]; decide)) rfl rfl Try.func117 rfl Try.call117 Try.ntmps117 (by simp) fun en2 hsz => ?_; (first | exact trivial | exact rfl); simp (decide := true) only [frOf, ev, St.f, lk, reduceIte, List.zipIdx_cons, List.zipIdx_nil, List.map_cons, List.map_nil, List.nil_append, List.cons_append, List.append_nil, Nat.zero_add, Nat.reduceAdd])
      (repeat (first | refine walkLS ?_ | (refine ow_call1p (k := 0) ?_ (fun x hx => by cases hx <;> (rw [hsz]; decide)) rfl rfl (put_n ho2 (by omega)) rfl rfl (by first | rfl | (simp only [List.length_map, List.length_append] <;> rfl)) (by decide) ?_; (first | exact trivial | exact rfl); simp only [St.set, List.map_cons, List.map_nil, List.length_map, List.length_append, Nat.reduceAdd]) | (refine ow_call1pV (k := 0) ?_ (fun x hx => by cases hx <;> (rw [hsz]; decide)) rfl rfl rfl (put_n ho2 (by omega)) rfl rfl (by first | rfl | (simp only [List.length_map, List.length_append] <;> rfl)) (by decide) ?_; (first | exact trivial | exact rfl); simp only [St.set, List.map_cons, List.map_nil, List.length_map, List.length_append, Nat.reduceAdd]) | (refine callPre ?_; (first | refine callN_funS rfl (encInt_c (r := q) (n := vs.length) hq (by omega)) ?_)) | (refine callPreL ?_; (first | refine callL_funS rfl (encInt_c (r := q) (n := vs.length) hq (by omega)) ?_)) | (refine callPreV ?_; (first | refine callN_funS rfl (encInt_c (r := q) (n := vs.length) hq (by omega)) ?_))))
      (refine ⟨.inl rfl, ?_⟩; show OWs _ _ _ _ _ (St.set _ (some _) _); simp only [St.set, resOf, mkTup, allD, Option.map_some, Option.map_none, List.map_nil]; have hsz := hsz0)
      refine walkS ?_
      refine ⟨(), trivial, ?_⟩
      exact wkS
    refine walkS ?_
    refine aw_condS rfl (fun n7 => ?_) (fun n7 => ?_)
    · rw [headB_7 n7] at ho2
      obtain ⟨j, q, ej, hj, hq, hqr, hlim⟩ := head_kid G (.inr (.inr n7))
      have hn := own_num hV hr G n7 hO
      obtain ⟨m, rfl⟩ : ∃ m : Nat, n = m := ⟨n.toNat, by omega⟩
      rw [Int.toNat_natCast, hqr] at ho2
      have hk0 : r.kids[0]? = some (j : Int) := by rw [kids0 (by have := (G.k7 n7).1; omega), ej]
      have hil := intB_len q m
      refine walkLS ?_
      (have hsz0 := hsz; refine ow_inlineV ?_ (fun x hx => by cases hx <;> (rw [hsz]; decide)) rfl rfl Try.func117 rfl Try.call117 Try.ntmps117 (by simp) fun en2 hsz => ?_; (first | exact trivial | exact rfl); simp (decide := true) only [frOf, ev, St.f, lk, reduceIte, List.zipIdx_cons, List.zipIdx_nil, List.map_cons, List.map_nil, List.nil_append, List.cons_append, List.append_nil, Nat.zero_add, Nat.reduceAdd])
      (repeat (first | refine walkLS ?_ | (refine ow_call1p (k := 0) ?_ (fun x hx => by cases hx <;> (rw [hsz]; decide)) rfl rfl (put_n ho2 (by omega)) rfl rfl (by first | rfl | (simp only [List.length_map, List.length_append] <;> rfl)) (by decide) ?_; (first | exact trivial | exact rfl); simp only [St.set, List.map_cons, List.map_nil, List.length_map, List.length_append, Nat.reduceAdd]) | (refine ow_call1pV (k := 0) ?_ (fun x hx => by cases hx <;> (rw [hsz]; decide)) rfl rfl rfl (put_n ho2 (by omega)) rfl rfl (by first | rfl | (simp only [List.length_map, List.length_append] <;> rfl)) (by decide) ?_; (first | exact trivial | exact rfl); simp only [St.set, List.map_cons, List.map_nil, List.length_map, List.length_append, Nat.reduceAdd]) | (refine callPre ?_; (first | refine callN_funS rfl (encInt_c (r := q) (n := m) hq (by omega)) ?_)) | (refine callPreL ?_; (first | refine callL_funS rfl (encInt_c (r := q) (n := m) hq (by omega)) ?_)) | (refine callPreV ?_; (first | refine callN_funS rfl (encInt_c (r := q) (n := m) hq (by omega)) ?_))))
      (refine ⟨.inl rfl, ?_⟩; show OWs _ _ _ _ _ (St.set _ (some _) _); simp only [St.set, resOf, mkTup, allD, Option.map_some, Option.map_none, List.map_nil]; have hsz := hsz0)
      refine walkS ?_
      refine ⟨(), trivial, ?_⟩
      exact wkS
    refine walkS ?_
    refine aw_condS rfl (fun n8 => ?_) (fun n8 => ?_)
    · rw [headB_8 n8] at ho2
      have hp := put_n (D := D) ho2 (by simp; omega)
      refine walkLS ?_
      simp only [u8_len]
      (repeat (first | refine walkS ?_ | (refine ow_call1p (k := 0) ?_ (fun x hx => by cases hx <;> (rw [hsz]; decide)) rfl rfl (hp) rfl rfl (by first | rfl | (simp only [List.length_map, List.length_append] <;> rfl)) (by decide) ?_; (first | exact trivial | exact rfl); simp only [St.set, List.map_cons, List.map_nil, List.length_map, List.length_append, Nat.reduceAdd]) | (refine ow_call1pV (k := 0) ?_ (fun x hx => by cases hx <;> (rw [hsz]; decide)) rfl rfl rfl (hp) rfl rfl (by first | rfl | (simp only [List.length_map, List.length_append] <;> rfl)) (by decide) ?_; (first | exact trivial | exact rfl); simp only [St.set, List.map_cons, List.map_nil, List.length_map, List.length_append, Nat.reduceAdd])))
      refine ⟨(), trivial, ?_⟩
      exact wkS
    refine walkS ?_
    refine aw_condS rfl (fun n10 => ?_) (fun n10 => ?_)
    · rw [headB_10 n10] at ho2
      obtain ⟨t, ht⟩ : ∃ t, r.bytes = [t] := List.length_eq_one_iff.1 (G.k10 n10)
      have hh : r.bytes.headD 0 = t := by rw [ht]; rfl
      have ht0 : r.bytes[0]? = some t := by rw [ht]; rfl
      have hel := escB_len t bs
      rw [hh] at ho2
      (repeat (first | refine walkLS ?_ | (refine ow_call1p (k := 0) ?_ (fun x hx => by cases hx <;> (rw [hsz]; decide)) rfl rfl (put_n ho2 (by omega)) rfl rfl (by first | rfl | (simp only [List.length_map, List.length_append] <;> rfl)) (by decide) ?_; (first | exact trivial | exact rfl); simp only [St.set, List.map_cons, List.map_nil, List.length_map, List.length_append, Nat.reduceAdd]) | (refine ow_call1pV (k := 0) ?_ (fun x hx => by cases hx <;> (rw [hsz]; decide)) rfl rfl rfl (put_n ho2 (by omega)) rfl rfl (by first | rfl | (simp only [List.length_map, List.length_append] <;> rfl)) (by decide) ?_; (first | exact trivial | exact rfl); simp only [St.set, List.map_cons, List.map_nil, List.length_map, List.length_append, Nat.reduceAdd]) | (refine callPre ?_; (first | refine callN_funS rfl (escI_c (l := bs) (by omega) t) ?_)) | (refine callPreL ?_; (first | refine callL_funS rfl (escI_c (l := bs) (by omega) t) ?_)) | (refine callPreV ?_; (first | refine callN_funS rfl (escI_c (l := bs) (by omega) t) ?_))))
      refine ⟨(), trivial, ?_⟩
      exact wkS
    · rw [headB_no (by omega), List.append_nil] at ho2
      subst ho2
      refine walkS ?_
      refine ⟨(), trivial, ?_⟩
      exact wkS
  refine headS ?_
  (repeat (first | refine walkS ?_ | (refine ow_call1p (k := 0) ?_ (fun x hx => by cases hx <;> (rw [hsz]; decide)) rfl rfl (HI) rfl rfl (by first | rfl | (simp only [List.length_map, List.length_append] <;> rfl)) (by decide) ?_; (first | exact trivial | exact rfl); simp only [St.set, List.map_cons, List.map_nil, List.length_map, List.length_append, Nat.reduceAdd]) | (refine ow_call1pV (k := 0) ?_ (fun x hx => by cases hx <;> (rw [hsz]; decide)) rfl rfl rfl (HI) rfl rfl (by first | rfl | (simp only [List.length_map, List.length_append] <;> rfl)) (by decide) ?_; (first | exact trivial | exact rfl); simp only [St.set, List.map_cons, List.map_nil, List.length_map, List.length_append, Nat.reduceAdd])))
  refine aw_condS rfl (fun n9 => ?_) (fun n9 => ?_)
  · rw [tailB_9 n9]
    have e : List.take (o3.length - o2.length) (List.drop o2.length o3) = List.drop o2.length o3 := List.take_of_length_le (by simp)
    have hp := put_n (D := D) (out := o3) (b := [UInt8.ofNat (sumB (o3.drop o2.length))]) rfl (by simp; omega)
    have hsl : (o3.drop o2.length).length ≤ 268435456 := by rw [List.length_drop]; omega
    refine walkLS ?_
    simp only [← List.map_drop, ← List.map_take, e]
    (repeat (first | refine ctlS ?_ | (refine ol_go ?_ (fun K1 hK1 => ?_); (first | exact trivial | exact rfl); refine evS ?_; (try simp only [u8_len]); refine hK1 _ _ ?_; clear hK1 K1) | (refine ow_go ?_ (fun x hx => by cases hx <;> (rw [hsz]; decide)) (fun K1 hK1 => ?_); (first | exact trivial | exact rfl); refine evS ?_; (try simp only [u8_len]); refine hK1 _ ?_; clear hK1 K1) | refine skipS ?_ | (refine callPre ?_; (first | refine callN_funS rfl (sumIX_c hsl) ?_)) | (refine callPreL ?_; (first | refine callL_funS rfl (sumIX_c hsl) ?_)) | (refine callPreV ?_; (first | refine callN_funS rfl (sumIX_c hsl) ?_))))
    (repeat (first | refine walkS ?_ | (refine ow_call1p (k := 0) ?_ (fun x hx => by cases hx <;> (rw [hsz]; decide)) rfl rfl (hp) rfl rfl (by first | rfl | (simp only [List.length_map, List.length_append] <;> rfl)) (by decide) ?_; (first | exact trivial | exact rfl); simp only [St.set, List.map_cons, List.map_nil, List.length_map, List.length_append, Nat.reduceAdd]) | (refine ow_call1pV (k := 0) ?_ (fun x hx => by cases hx <;> (rw [hsz]; decide)) rfl rfl rfl (hp) rfl rfl (by first | rfl | (simp only [List.length_map, List.length_append] <;> rfl)) (by decide) ?_; (first | exact trivial | exact rfl); simp only [St.set, List.map_cons, List.map_nil, List.length_map, List.length_append, Nat.reduceAdd])))
    ((try refine aw_ret ?_); (simp only [Fin, Try.results73]; refine finS ?_); exact ⟨_, [], .inl ⟨rfl, rfl⟩, _, ([.d (encDs D), .own 5 1 ((o3 ++ [UInt8.ofNat (sumB (o3.drop o2.length))]).map fun c => [uD c])]), [_], rfl, toZL_p (by simp only [List.length_append, List.length_map] <;> rfl), by simp, ⟨rfl, rfl⟩⟩)
  · rw [tailB_no n9, List.append_nil]
    refine walkS ?_
    ((try refine aw_ret ?_); (simp only [Fin, Try.results73]; refine finS ?_); exact ⟨_, [], .inl ⟨rfl, rfl⟩, _, (prn D o3), [_], rfl, toZL_p (by simp only [List.length_append, List.length_map] <;> rfl), by simp, ⟨rfl, rfl⟩⟩)
end
end Go.Proofs.Ytnndpimlfibncaa.Eng
