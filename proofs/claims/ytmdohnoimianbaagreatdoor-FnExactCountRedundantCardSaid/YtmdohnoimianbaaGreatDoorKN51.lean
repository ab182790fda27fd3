/-
  The printer: values.
-/
import Derived.Test.YtmdohnoimianbaaGreatDoorKN48
import Derived.Test.YtmdohnoimianbaaGreatDoorKN49
import Derived.Test.YtmdohnoimianbaaGreatDoorKE4
set_option linter.unusedSimpArgs false
set_option linter.unusedVariables false
set_option linter.defProp false
set_option maxRecDepth 100000
set_option maxHeartbeats 4000000
namespace Go.Proofs.YtmdohnoimianbaaGreatDoor.Eng
open Go Go.RowKit

private def tyF := And.intro (And.intro (And.intro (And.intro (And.intro (And.intro tb25 te25) (And.intro te27 (And.intro te32 te73))) (And.intro (And.intro te74 tf140_0) (And.intro tf140_1 (And.intro tf29_0 tf29_1)))) (And.intro (And.intro (And.intro tf29_2 tf34_0) (And.intro tf78_0 (And.intro tf78_1 tf78_2))) (And.intro (And.intro tf78_3 tf78_4) (And.intro tf78_5 (And.intro tf78_6 tf78_7))))) (And.intro (And.intro (And.intro (And.intro tk138 tk140) (And.intro tk142 (And.intro tk25 tk27))) (And.intro (And.intro tk29 tk3) (And.intro tk32 (And.intro tk34 tk4)))) (And.intro (And.intro (And.intro tk5 tk73) (And.intro tk74 (And.intro tk78 tk9))) (And.intro (And.intro tp140 tp29) (And.intro tp34 (And.intro tp78 tr138)))))) (And.intro (And.intro (And.intro (And.intro (And.intro tr140 tr142) (And.intro tr25 (And.intro tr27 tr29))) (And.intro (And.intro tr3 tr32) (And.intro tr34 (And.intro tr4 tr5)))) (And.intro (And.intro (And.intro tr73 tr74) (And.intro tr78 (And.intro tr9 tu138))) (And.intro (And.intro tu142 tu25) (And.intro tu27 (And.intro tu3 tu32))))) (And.intro (And.intro (And.intro (And.intro tu4 tu5) (And.intro tu73 (And.intro tu74 tu9))) (And.intro (And.intro tz138 tz140) (And.intro tz142 (And.intro tz25 tz27)))) (And.intro (And.intro (And.intro tz29 tz3) (And.intro tz32 (And.intro tz34 tz4))) (And.intro (And.intro tz5 tz73) (And.intro tz74 (And.intro tz78 tz9))))))
theorem numT : True := trivial
section
variable {M : Nat} {D : List RuleD}
theorem put_n {D : List RuleD} {out o2 b : List UInt8} (h : o2 = out ++ b) (hl : out.length + b.length ≤ 268435456) : AC Tryz.prog 114 [.ptr 0 0, .d (encB b)] (some (prn D out)) (fun r' b' => r' = .d (.tup []) ∧ b' = some (prn D o2)) := by
  rw [h]
  exact put_c D hl
theorem valueP_step (hD : DB M D) (hM : M ≤ 1048576) (hV : descP D) {n : Int} {bs : List UInt8} {vs : List V} (hv : VB 1048576 (.mk n bs vs)) (H : ∀ v ∈ vs, PrOK D v) : PrOK D (.mk n bs vs) := by
  intro i out hi hval hcap
  obtain ⟨r, hr⟩ : ∃ r, D[i]? = some r := ⟨_, List.getElem?_eq_getElem hi⟩
  have G : GoodR D i r := good_of hV hr
  obtain ⟨kd1, kd2⟩ := G.kd
  have hrb := hD.rule r (List.mem_of_getElem? hr)
  obtain ⟨v1, v2, _⟩ : bs.length ≤ 1048576 ∧ vs.length ≤ 1048576 ∧ VBs 1048576 vs := by unfold VB at hv; exact hv
  rw [validV, ruleD_get hr, Bool.and_eq_true] at hval
  obtain ⟨hO, hvs⟩ := hval
  have hkid : ∀ k (h : k < vs.length), ∃ j : Nat, itemK r n k = j ∧ j < D.length := fun k h => own_kid G hi hO h
  have hhead := headB_len hV hr G hO
  rw [capV_mk] at hcap
  have hpr : prI D i out (.mk n bs vs) = prIs D r n 0 (out ++ headB D r n bs vs.length) vs ++ tailB r ((prIs D r n 0 (out ++ headB D r n bs vs.length) vs).drop (out ++ headB D r n bs vs.length).length) := by rw [prI, ruleD_get hr]
  rw [hpr]
  obtain ⟨o2, ho2⟩ : ∃ o2, o2 = out ++ headB D r n bs vs.length := ⟨_, rfl⟩
  rw [← ho2]
  have hl2 : o2.length ≤ out.length + 68 + 2 * bs.length := by rw [ho2, List.length_append]; omega
  have HI := itemsP_c hD hM hV hr hv hkid hvs H o2 (by omega)
  have hl3 := prIs_le hV r n vs 0 o2 (fun k hk => by rw [Nat.zero_add]; exact hkid k hk) hvs
  have hge := prIs_ge D r n vs 0 o2
  generalize prIs D r n 0 o2 vs = o3 at HI hl3 hge
  rw [encVc_mk, encVs_eq] at HI ⊢
  refine calls_body Tryz.func104 rfl Tryz.call104 Tryz.ntmps104 (by simp) (by simp [ArgsOk]) (by simp [Rz.nkL, Rz.nk]) fun en hsz hks hk0 => ?_; refine enS ?_
  refine walkJS ?_
  refine aw_joinS [1, 2, 3, 6] (fun κ s' => [(κ, keyB s' 0 1)]) (fun _ _ => []) [0] (fun κ _ => [(0, some [.d (encDs D), .own κ 5 1 (o2.map fun c => [uD c])])]) [16] (fun κ _ => [(κ, some (o2.length, 5, 1))]) (fun _ : Unit => True) hks (fun _ => rfl) (fun x hx => ?_) ?_; rotate_left
  · refine walkS ?_
    refine aw_condS rfl (fun n1 => ?_) (fun n1 => ?_)
    · rw [headB_1 n1] at ho2
      rw [ownV_1 n1, decide_eq_true_eq] at hO
      obtain ⟨m, rfl⟩ : ∃ m : Nat, n = m := ⟨n.toNat, by omega⟩
      rw [Int.toNat_natCast] at ho2
      have hil := intB_len r m
      have hs := G.k1 n1
      refine walkS ?_
      (have hsz0 := hsz; refine ow_inlineV ?_ (fun x hx => by cases hx <;> (rw [hsz]; decide)) rfl rfl Tryz.func113 rfl Tryz.call113 Tryz.ntmps113 (by simp) fun en2 hsz => ?_; (first | exact trivial | exact rfl); simp (decide := true) only [frOf, ev, St.f, lk, reduceIte, List.zipIdx_cons, List.zipIdx_nil, List.map_cons, List.map_nil, List.nil_append, List.cons_append, List.append_nil, Nat.zero_add, Nat.reduceAdd])
      (repeat (first | refine walkLS ?_ | (refine ow_call1p (k := 0) ?_ (fun x hx => by cases hx <;> (rw [hsz]; decide)) rfl rfl (put_n ho2 (by omega)) rfl rfl (by first | rfl | (simp only [List.length_map, List.length_append] <;> rfl)) (by decide) ?_; (first | exact trivial | exact rfl); simp only [St.set, List.map_cons, List.map_nil, List.length_map, List.length_append, Nat.reduceAdd]) | (refine ow_call1pV (k := 0) ?_ (fun x hx => by cases hx <;> (rw [hsz]; decide)) rfl rfl rfl (put_n ho2 (by omega)) rfl rfl (by first | rfl | (simp only [List.length_map, List.length_append] <;> rfl)) (by decide) ?_; (first | exact trivial | exact rfl); simp only [St.set, List.map_cons, List.map_nil, List.length_map, List.length_append, Nat.reduceAdd]) | (refine callPre ?_; (first | refine callN_funS rfl (encInt_c (r := r) (n := m) hs (by omega)) ?_)) | (refine callPreL ?_; (first | refine callL_funS rfl (encInt_c (r := r) (n := m) hs (by omega)) ?_)) | (refine callPreV ?_; (first | refine callN_funS rfl (encInt_c (r := r) (n := m) hs (by omega)) ?_))))
      (refine ⟨.inl rfl, ?_⟩; show OWs _ _ _ _ _ (St.set _ (some _) _); simp only [St.set, resOf, mkTup, allD, Option.map_some, Option.map_none, List.map_nil]; have hsz := hsz0)
      refine walkS ?_
      refine ⟨(), trivial, ?_⟩
      exact wkS
    refine walkS ?_
    refine aw_condS rfl (fun n2 => ?_) (fun n2 => ?_)
    · rw [headB_2 n2] at ho2
      have hcl := const_le hV hr n2
      (repeat (first | refine walkS ?_ | (refine ow_call1p (k := 0) ?_ (fun x hx => by cases hx <;> (rw [hsz]; decide)) rfl rfl (put_n ho2 (by omega)) rfl rfl (by first | rfl | (simp only [List.length_map, List.length_append] <;> rfl)) (by decide) ?_; (first | exact trivial | exact rfl); simp only [St.set, List.map_cons, List.map_nil, List.length_map, List.length_append, Nat.reduceAdd]) | (refine ow_call1pV (k := 0) ?_ (fun x hx => by cases hx <;> (rw [hsz]; decide)) rfl rfl rfl (put_n ho2 (by omega)) rfl rfl (by first | rfl | (simp only [List.length_map, List.length_append] <;> rfl)) (by decide) ?_; (first | exact trivial | exact rfl); simp only [St.set, List.map_cons, List.map_nil, List.length_map, List.length_append, Nat.reduceAdd])))
      refine ⟨(), trivial, ?_⟩
      exact wkS
    refine walkS ?_
    refine aw_condS rfl (fun n3 => ?_) (fun n3 => ?_)
    · rw [headB_3 n3] at ho2
      (repeat (first | refine walkLS ?_ | (refine ow_call1p (k := 0) ?_ (fun x hx => by cases hx <;> (rw [hsz]; decide)) rfl rfl (put_n ho2 (by omega)) rfl rfl (by first | rfl | (simp only [List.length_map, List.length_append] <;> rfl)) (by decide) ?_; (first | exact trivial | exact rfl); simp only [St.set, List.map_cons, List.map_nil, List.length_map, List.length_append, Nat.reduceAdd]) | (refine ow_call1pV (k := 0) ?_ (fun x hx => by cases hx <;> (rw [hsz]; decide)) rfl rfl rfl (put_n ho2 (by omega)) rfl rfl (by first | rfl | (simp only [List.length_map, List.length_append] <;> rfl)) (by decide) ?_; (first | exact trivial | exact rfl); simp only [St.set, List.map_cons, List.map_nil, List.length_map, List.length_append, Nat.reduceAdd])))
      refine ⟨(), trivial, ?_⟩
      exact wkS
    refine walkS ?_
    refine aw_condS rfl (fun n4 => ?_) (fun n4 => ?_)
    · rw [headB_4 n4] at ho2
      rw [ownV_4 n4, decide_eq_true_eq] at hO
      obtain ⟨j, q, ej, hj, hq, hqr, hlim⟩ := head_kid G (.inl n4)
      have hk0 : r.kids[0]? = some (j : Int) := by rw [kids0 (by have := (G.k4 n4).1; omega), ej]
      have hil := intB_len q bs.length
      rw [hqr, ← List.append_assoc] at ho2
      obtain ⟨o1, ho1⟩ : ∃ o1, o1 = out ++ intB q bs.length := ⟨_, rfl⟩
      rw [← ho1] at ho2
      have hl1 : o1.length ≤ out.length + 4 := by rw [ho1, List.length_append]; omega
      refine walkLS ?_
      (have hsz0 := hsz; refine ow_inlineV ?_ (fun x hx => by cases hx <;> (rw [hsz]; decide)) rfl rfl Tryz.func113 rfl Tryz.call113 Tryz.ntmps113 (by simp) fun en2 hsz => ?_; (first | exact trivial | exact rfl); simp (decide := true) only [frOf, ev, St.f, lk, reduceIte, List.zipIdx_cons, List.zipIdx_nil, List.map_cons, List.map_nil, List.nil_append, List.cons_append, List.append_nil, Nat.zero_add, Nat.reduceAdd])
      (repeat (first | refine walkLS ?_ | (refine ow_call1p (k := 0) ?_ (fun x hx => by cases hx <;> (rw [hsz]; decide)) rfl rfl (put_n ho1 (by omega)) rfl rfl (by first | rfl | (simp only [List.length_map, List.length_append] <;> rfl)) (by decide) ?_; (first | exact trivial | exact rfl); simp only [St.set, List.map_cons, List.map_nil, List.length_map, List.length_append, Nat.reduceAdd]) | (refine ow_call1pV (k := 0) ?_ (fun x hx => by cases hx <;> (rw [hsz]; decide)) rfl rfl rfl (put_n ho1 (by omega)) rfl rfl (by first | rfl | (simp only [List.length_map, List.length_append] <;> rfl)) (by decide) ?_; (first | exact trivial | exact rfl); simp only [St.set, List.map_cons, List.map_nil, List.length_map, List.length_append, Nat.reduceAdd]) | (refine callPre ?_; (first | refine callN_funS rfl (encInt_c (r := q) (n := bs.length) hq (by omega)) ?_)) | (refine callPreL ?_; (first | refine callL_funS rfl (encInt_c (r := q) (n := bs.length) hq (by omega)) ?_)) | (refine callPreV ?_; (first | refine callN_funS rfl (encInt_c (r := q) (n := bs.length) hq (by omega)) ?_))))
      (refine ⟨.inl rfl, ?_⟩; show OWs _ _ _ _ _ (St.set _ (some _) _); simp only [St.set, resOf, mkTup, allD, Option.map_some, Option.map_none, List.map_nil]; have hsz := hsz0)
      (repeat (first | refine walkLS ?_ | (refine ow_call1p (k := 0) ?_ (fun x hx => by cases hx <;> (rw [hsz]; decide)) rfl rfl (put_n ho2 (by omega)) rfl rfl (by first | rfl | (simp only [List.length_map, List.length_append] <;> rfl)) (by decide) ?_; (first | exact trivial | exact rfl); simp only [St.set, List.map_cons, List.map_nil, List.length_map, List.length_append, Nat.reduceAdd]) | (refine ow_call1pV (k := 0) ?_ (fun x hx => by cases hx <;> (rw [hsz]; decide)) rfl rfl rfl (put_n ho2 (by omega)) rfl rfl (by first | rfl | (simp only [List.length_map, List.length_append] <;> rfl)) (by decide) ?_; (first | exact trivial | exact rfl); simp only [St.set, List.map_cons, List.map_nil, List.length_map, List.length_append, Nat.reduceAdd])))
      refine ⟨(), trivial, ?_⟩
      exact wkS
    refine walkS ?_
    refine aw_condS rfl (fun n5 => ?_) (fun n5 => ?_)
    · rw [headB_5 n5] at ho2
      rw [ownV_5 n5, decide_eq_true_eq] at hO
      obtain ⟨j, q, ej, hj, hq, hqr, hlim⟩ := head_kid G (.inr (.inl n5))
      have hk0 : r.kids[0]? = some (j : Int) := by rw [kids0 (by have := (G.k5 n5).1; omega), ej]
      have hil := intB_len q vs.length
      rw [hqr] at ho2
      refine walkLS ?_
      (have hsz0 := hsz; refine ow_inlineV ?_ (fun x hx => by cases hx <;> (rw [hsz]; decide)) rfl rfl Tryz.func113 rfl Tryz.call113 Tryz.ntmps113 (by simp) fun en2 hsz => ?_; (first | exact trivial | exact rfl); simp (decide := true) only [frOf, ev, St.f, lk, reduceIte, List.zipIdx_cons, List.zipIdx_nil, List.map_cons, List.map_nil, List.nil_append, List.cons_append, List.append_nil, Nat.zero_add, Nat.reduceAdd])
      (repeat (first | refine walkLS ?_ | (refine ow_call1p (k := 0) ?_ (fun x hx => by cases hx <;> (rw [hsz]; decide)) rfl rfl (put_n ho2 (by omega)) rfl rfl (by first | rfl | (simp only [List.length_map, List.length_append] <;> rfl)) (by decide) ?_; (first | exact trivial | exact rfl); simp only [St.set, List.map_cons, List.map_nil, List.length_map, List.length_append, Nat.reduceAdd]) | (refine ow_call1pV (k := 0) ?_ (fun x hx => by cases hx <;> (rw [hsz]; decide)) rfl rfl rfl (put_n ho2 (by omega)) rfl rfl (by first | rfl | (simp only [List.length_map, List.length_append] <;> rfl)) (by decide) ?_; (first | exact trivial | exact rfl); simp only [St.set, List.map_cons, List.map_nil, List.length_map, List.length_append, Nat.reduceAdd]) | (refine callPre ?_; (first | refine callN_funS rfl (encInt_c (r := q) (n := vs.length) hq (by omega)) ?_)) | (refine callPreL ?_; (first | refine callL_funS rfl (encInt_c (r := q) (n := vs.length) hq (by omega)) ?_)) | (refine callPreV ?_; (first | refine callN_funS rfl (encInt_c (r := q) (n := vs.length) hq (by omega)) ?_))))
      (refine ⟨.inl rfl, ?_⟩; show OWs _ _ _ _ _ (St.set _ (some _) _); simp only [St.set, resOf, mkTup, allD, Option.map_some, Option.map_none, List.map_nil]; have hsz := hsz0)
      refine walkS ?_
      refine ⟨(), trivial, ?_⟩
      exact wkS
    refine walkS ?_
    refine aw_condS rfl (fun n7 => ?_) (fun n7 => ?_)
    · rw [headB_7 n7] at ho2
      obtain ⟨j, q, ej, hj, hq, hqr, hlim⟩ := head_kid G (.inr (.inr n7))
      have hn := own_num hV hr G n7 hO
      obtain ⟨m, rfl⟩ : ∃ m : Nat, n = m := ⟨n.toNat, by omega⟩
      rw [Int.toNat_natCast, hqr] at ho2
      have hk0 : r.kids[0]? = some (j : Int) := by rw [kids0 (by have := (G.k7 n7).1; omega), ej]
      have hil := intB_len q m
      refine walkLS ?_
      (have hsz0 := hsz; refine ow_inlineV ?_ (fun x hx => by cases hx <;> (rw [hsz]; decide)) rfl rfl Tryz.func113 rfl Tryz.call113 Tryz.ntmps113 (by simp) fun en2 hsz => ?_; (first | exact trivial | exact rfl); simp (decide := true) only [frOf, ev, St.f, lk, reduceIte, List.zipIdx_cons, List.zipIdx_nil, List.map_cons, List.map_nil, List.nil_append, List.cons_append, List.append_nil, Nat.zero_add, Nat.reduceAdd])
      (repeat (first | refine walkLS ?_ | (refine ow_call1p (k := 0) ?_ (fun x hx => by cases hx <;> (rw [hsz]; decide)) rfl rfl (put_n ho2 (by omega)) rfl rfl (by first | rfl | (simp only [List.length_map, List.length_append] <;> rfl)) (by decide) ?_; (first | exact trivial | exact rfl); simp only [St.set, List.map_cons, List.map_nil, List.length_map, List.length_append, Nat.reduceAdd]) | (refine ow_call1pV (k := 0) ?_ (fun x hx => by cases hx <;> (rw [hsz]; decide)) rfl rfl rfl (put_n ho2 (by omega)) rfl rfl (by first | rfl | (simp only [List.length_map, List.length_append] <;> rfl)) (by decide) ?_; (first | exact trivial | exact rfl); simp only [St.set, List.map_cons, List.map_nil, List.length_map, List.length_append, Nat.reduceAdd]) | (refine callPre ?_; (first | refine callN_funS rfl (encInt_c (r := q) (n := m) hq (by omega)) ?_)) | (refine callPreL ?_; (first | refine callL_funS rfl (encInt_c (r := q) (n := m) hq (by omega)) ?_)) | (refine callPreV ?_; (first | refine callN_funS rfl (encInt_c (r := q) (n := m) hq (by omega)) ?_))))
      (refine ⟨.inl rfl, ?_⟩; show OWs _ _ _ _ _ (St.set _ (some _) _); simp only [St.set, resOf, mkTup, allD, Option.map_some, Option.map_none, List.map_nil]; have hsz := hsz0)
      refine walkS ?_
      refine ⟨(), trivial, ?_⟩
      exact wkS
    refine walkS ?_
    refine aw_condS rfl (fun n8 => ?_) (fun n8 => ?_)
    · rw [headB_8 n8] at ho2
      have hp := put_n (D := D) ho2 (by simp; omega)
      refine walkLS ?_
      simp only [u8_len]
      (repeat (first | refine walkS ?_ | (refine ow_call1p (k := 0) ?_ (fun x hx => by cases hx <;> (rw [hsz]; decide)) rfl rfl (hp) rfl rfl (by first | rfl | (simp only [List.length_map, List.length_append] <;> rfl)) (by decide) ?_; (first | exact trivial | exact rfl); simp only [St.set, List.map_cons, List.map_nil, List.length_map, List.length_append, Nat.reduceAdd]) | (refine ow_call1pV (k := 0) ?_ (fun x hx => by cases hx <;> (rw [hsz]; decide)) rfl rfl rfl (hp) rfl rfl (by first | rfl | (simp only [List.length_map, List.length_append] <;> rfl)) (by decide) ?_; (first | exact trivial | exact rfl); simp only [St.set, List.map_cons, List.map_nil, List.length_map, List.length_append, Nat.reduceAdd])))
      refine ⟨(), trivial, ?_⟩
      exact wkS
    refine walkS ?_
    refine aw_condS rfl (fun n10 => ?_) (fun n10 => ?_)
    · rw [headB_10 n10] at ho2
      obtain ⟨t, ht⟩ : ∃ t, r.bytes = [t] := List.length_eq_one_iff.1 (G.k10 n10)
      have hh : r.bytes.headD 0 = t := by rw [ht]; rfl
      have ht0 : r.bytes[0]? = some t := by rw [ht]; rfl
      have hel := escB_len t bs
      rw [hh] at ho2
      (repeat (first | refine walkLS ?_ | (refine ow_call1p (k := 0) ?_ (fun x hx => by cases hx <;> (rw [hsz]; decide)) rfl rfl (put_n ho2 (by omega)) rfl rfl (by first | rfl | (simp only [List.length_map, List.length_append] <;> rfl)) (by decide) ?_; (first | exact trivial | exact rfl); simp only [St.set, List.map_cons, List.map_nil, List.length_map, List.length_append, Nat.reduceAdd]) | (refine ow_call1pV (k := 0) ?_ (fun x hx => by cases hx <;> (rw [hsz]; decide)) rfl rfl rfl (put_n ho2 (by omega)) rfl rfl (by first | rfl | (simp only [List.length_map, List.length_append] <;> rfl)) (by decide) ?_; (first | exact trivial | exact rfl); simp only [St.set, List.map_cons, List.map_nil, List.length_map, List.length_append, Nat.reduceAdd]) | (refine callPre ?_; (first | refine callN_funS rfl (escI_c (l := bs) (by omega) t) ?_)) | (refine callPreL ?_; (first | refine callL_funS rfl (escI_c (l := bs) (by omega) t) ?_)) | (refine callPreV ?_; (first | refine callN_funS rfl (escI_c (l := bs) (by omega) t) ?_))))
      refine ⟨(), trivial, ?_⟩
      exact wkS
    · rw [headB_no (by omega), List.append_nil] at ho2
      subst ho2
      refine walkS ?_
      refine ⟨(), trivial, ?_⟩
      exact wkS
  refine headS ?_
  (repeat (first | refine walkS ?_ | (refine ow_call1p (k := 0) ?_ (fun x hx => by cases hx <;> (rw [hsz]; decide)) rfl rfl (HI) rfl rfl (by first | rfl | (simp only [List.length_map, List.length_append] <;> rfl)) (by decide) ?_; (first | exact trivial | exact rfl); simp only [St.set, List.map_cons, List.map_nil, List.length_map, List.length_append, Nat.reduceAdd]) | (refine ow_call1pV (k := 0) ?_ (fun x hx => by cases hx <;> (rw [hsz]; decide)) rfl rfl rfl (HI) rfl rfl (by first | rfl | (simp only [List.length_map, List.length_append] <;> rfl)) (by decide) ?_; (first | exact trivial | exact rfl); simp only [St.set, List.map_cons, List.map_nil, List.length_map, List.length_append, Nat.reduceAdd])))
  refine aw_condS rfl (fun n9 => ?_) (fun n9 => ?_)
  · rw [tailB_9 n9]
    have e : List.take (o3.length - o2.length) (List.drop o2.length o3) = List.drop o2.length o3 := List.take_of_length_le (by simp)
    have hp := put_n (D := D) (out := o3) (b := [UInt8.ofNat (sumB (o3.drop o2.length))]) rfl (by simp; omega)
    have hsl : (o3.drop o2.length).length ≤ 268435456 := by rw [List.length_drop]; omega
    refine walkLS ?_
    simp only [← List.map_drop, ← List.map_take, e]
    (repeat (first | refine ctlS ?_ | (refine ol_go ?_ (fun K1 hK1 => ?_); (first | exact trivial | exact rfl); refine evS ?_; (try simp only [u8_len]); refine hK1 _ _ ?_; clear hK1 K1) | (refine ow_go ?_ (fun x hx => by cases hx <;> (rw [hsz]; decide)) (fun K1 hK1 => ?_); (first | exact trivial | exact rfl); refine evS ?_; (try simp only [u8_len]); refine hK1 _ ?_; clear hK1 K1) | refine skipS ?_ | (refine callPre ?_; (first | refine callN_funS rfl (sumIX_c hsl) ?_)) | (refine callPreL ?_; (first | refine callL_funS rfl (sumIX_c hsl) ?_)) | (refine callPreV ?_; (first | refine callN_funS rfl (sumIX_c hsl) ?_))))
    (repeat (first | refine walkS ?_ | (refine ow_call1p (k := 0) ?_ (fun x hx => by cases hx <;> (rw [hsz]; decide)) rfl rfl (hp) rfl rfl (by first | rfl | (simp only [List.length_map, List.length_append] <;> rfl)) (by decide) ?_; (first | exact trivial | exact rfl); simp only [St.set, List.map_cons, List.map_nil, List.length_map, List.length_append, Nat.reduceAdd]) | (refine ow_call1pV (k := 0) ?_ (fun x hx => by cases hx <;> (rw [hsz]; decide)) rfl rfl rfl (hp) rfl rfl (by first | rfl | (simp only [List.length_map, List.length_append] <;> rfl)) (by decide) ?_; (first | exact trivial | exact rfl); simp only [St.set, List.map_cons, List.map_nil, List.length_map, List.length_append, Nat.reduceAdd])))
    ((try refine aw_ret ?_); (simp only [Fin, Tryz.results104]; refine finS ?_); exact ⟨_, [], .inl ⟨rfl, rfl⟩, _, ([.d (encDs D), .own 5 1 ((o3 ++ [UInt8.ofNat (sumB (o3.drop o2.length))]).map fun c => [uD c])]), [_], rfl, toZL_p (by simp only [List.length_append, List.length_map] <;> rfl), by simp, ⟨rfl, rfl⟩⟩)
  · rw [tailB_no n9, List.append_nil]
    refine walkS ?_
    ((try refine aw_ret ?_); (simp only [Fin, Tryz.results104]; refine finS ?_); exact ⟨_, [], .inl ⟨rfl, rfl⟩, _, (prn D o3), [_], rfl, toZL_p (by simp only [List.length_append, List.length_map] <;> rfl), by simp, ⟨rfl, rfl⟩⟩)
end
end Go.Proofs.YtmdohnoimianbaaGreatDoor.Eng
