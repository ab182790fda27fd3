/-
  The printer: values.
-/
import Derived.Test.YtmpokibohbhoeaaKN48
import Derived.Test.YtmpokibohbhoeaaKN49
import Derived.Test.YtmpokibohbhoeaaKE26
set_option linter.unusedSimpArgs false
set_option linter.unusedVariables false
namespace Go.Proofs.Ytmpokibohbhoeaa.Eng
open Go Go.RowKit

private theorem tyF : ((((((bytesT Try.prog 22 = true ∧ tyElem Try.prog 106 = some 9) ∧ (tyElem Try.prog 107 = some 3 ∧ (tyElem Try.prog 22 = some 5 ∧ tyElem Try.prog 24 = some 109))) ∧ ((tyElem Try.prog 42 = some 44 ∧ tyField Try.prog 109 0 = some (0, 9)) ∧ (tyField Try.prog 109 1 = some (1, 3) ∧ (tyField Try.prog 109 2 = some (2, 3) ∧ tyField Try.prog 109 3 = some (3, 4))))) ∧ (((tyField Try.prog 109 4 = some (4, 22) ∧ tyField Try.prog 109 5 = some (5, 106)) ∧ (tyField Try.prog 109 6 = some (6, 107) ∧ (tyField Try.prog 109 7 = some (7, 107) ∧ tyField Try.prog 26 0 = some (0, 24)))) ∧ ((tyField Try.prog 44 0 = some (0, 3) ∧ tyField Try.prog 44 1 = some (1, 22)) ∧ (tyField Try.prog 44 2 = some (2, 42) ∧ (tyField Try.prog 97 0 = some (0, 26) ∧ tyField Try.prog 97 1 = some (1, 22)))))) ∧ ((((tyK Try.prog 106 = some (false, 1) ∧ tyK Try.prog 107 = some (false, 1)) ∧ (tyK Try.prog 109 = some (true, 8) ∧ (tyK Try.prog 22 = some (false, 1) ∧ tyK Try.prog 24 = some (false, 1)))) ∧ ((tyK Try.prog 26 = some (true, 1) ∧ tyK Try.prog 3 = some (false, 1)) ∧ (tyK Try.prog 4 = some (false, 1) ∧ (tyK Try.prog 42 = some (false, 1) ∧ tyK Try.prog 44 = some (true, 3))))) ∧ (((tyK Try.prog 5 = some (false, 1) ∧ tyK Try.prog 9 = some (false, 1)) ∧ (tyK Try.prog 95 = some (false, 1) ∧ (tyK Try.prog 97 = some (true, 2) ∧ tyK Try.prog 99 = some (false, 1)))) ∧ ((tyPlaces Try.prog 109 = some [(0, 1), (1, 1), (2, 1), (3, 1), (4, 1), (5, 1), (6, 1), (7, 1)] ∧ tyPlaces Try.prog 26 = some [(0, 1)]) ∧ (tyPlaces Try.prog 44 = some [(0, 1), (1, 1), (2, 1)] ∧ (tyPlaces Try.prog 97 = some [(0, 1), (1, 1)] ∧ tyRow Try.prog 106 = some 1)))))) ∧ (((((tyRow Try.prog 107 = some 1 ∧ tyRow Try.prog 109 = some 8) ∧ (tyRow Try.prog 22 = some 1 ∧ (tyRow Try.prog 24 = some 1 ∧ tyRow Try.prog 26 = some 1))) ∧ ((tyRow Try.prog 3 = some 1 ∧ tyRow Try.prog 4 = some 1) ∧ (tyRow Try.prog 42 = some 1 ∧ (tyRow Try.prog 44 = some 3 ∧ tyRow Try.prog 5 = some 1)))) ∧ (((tyRow Try.prog 9 = some 1 ∧ tyRow Try.prog 95 = some 1) ∧ (tyRow Try.prog 97 = some 2 ∧ (tyRow Try.prog 99 = some 1 ∧ Try.prog.underlying 106 = some (TypeDesc.slice 9)))) ∧ ((Try.prog.underlying 107 = some (TypeDesc.slice 3) ∧ Try.prog.underlying 22 = some (TypeDesc.slice 5)) ∧ (Try.prog.underlying 24 = some (TypeDesc.slice 109) ∧ (Try.prog.underlying 3 = some (TypeDesc.int IntKind.i64) ∧ Try.prog.underlying 4 = some (TypeDesc.bool)))))) ∧ ((((Try.prog.underlying 42 = some (TypeDesc.slice 44) ∧ Try.prog.underlying 5 = some (TypeDesc.int IntKind.u8)) ∧ (Try.prog.underlying 9 = some (TypeDesc.string) ∧ (Try.prog.underlying 95 = some (TypeDesc.pointer 97) ∧ Try.prog.underlying 99 = some (TypeDesc.pointer 44)))) ∧ ((tyZero Try.prog 106 = some [Value.slice none 0 0] ∧ tyZero Try.prog 107 = some [Value.slice none 0 0]) ∧ (tyZero Try.prog 109 = some [Value.string ByteArray.empty, Value.int IntKind.i64 0, Value.int IntKind.i64 0, Value.bool false, Value.slice none 0 0, Value.slice none 0 0, Value.slice none 0 0, Value.slice none 0 0] ∧ (tyZero Try.prog 22 = some [Value.slice none 0 0] ∧ tyZero Try.prog 24 = some [Value.slice none 0 0])))) ∧ (((tyZero Try.prog 26 = some [Value.slice none 0 0] ∧ tyZero Try.prog 3 = some [Value.int IntKind.i64 0]) ∧ (tyZero Try.prog 4 = some [Value.bool false] ∧ (tyZero Try.prog 42 = some [Value.slice none 0 0] ∧ tyZero Try.prog 44 = some [Value.int IntKind.i64 0, Value.slice none 0 0, Value.slice none 0 0]))) ∧ ((tyZero Try.prog 5 = some [Value.int IntKind.u8 0] ∧ tyZero Try.prog 9 = some [Value.string ByteArray.empty]) ∧ (tyZero Try.prog 95 = some [Value.pointer none] ∧ (tyZero Try.prog 97 = some [Value.slice none 0 0, Value.slice none 0 0] ∧ tyZero Try.prog 99 = some [Value.pointer none]))))))) := ⟨⟨⟨⟨⟨⟨tb22, te106⟩, ⟨te107, ⟨te22, te24⟩⟩⟩, ⟨⟨te42, tf109_0⟩, ⟨tf109_1, ⟨tf109_2, tf109_3⟩⟩⟩⟩, ⟨⟨⟨tf109_4, tf109_5⟩, ⟨tf109_6, ⟨tf109_7, tf26_0⟩⟩⟩, ⟨⟨tf44_0, tf44_1⟩, ⟨tf44_2, ⟨tf97_0, tf97_1⟩⟩⟩⟩⟩, ⟨⟨⟨⟨tk106, tk107⟩, ⟨tk109, ⟨tk22, tk24⟩⟩⟩, ⟨⟨tk26, tk3⟩, ⟨tk4, ⟨tk42, tk44⟩⟩⟩⟩, ⟨⟨⟨tk5, tk9⟩, ⟨tk95, ⟨tk97, tk99⟩⟩⟩, ⟨⟨tp109, tp26⟩, ⟨tp44, ⟨tp97, tr106⟩⟩⟩⟩⟩⟩, ⟨⟨⟨⟨⟨tr107, tr109⟩, ⟨tr22, ⟨tr24, tr26⟩⟩⟩, ⟨⟨tr3, tr4⟩, ⟨tr42, ⟨tr44, tr5⟩⟩⟩⟩, ⟨⟨⟨tr9, tr95⟩, ⟨tr97, ⟨tr99, tu106⟩⟩⟩, ⟨⟨tu107, tu22⟩, ⟨tu24, ⟨tu3, tu4⟩⟩⟩⟩⟩, ⟨⟨⟨⟨tu42, tu5⟩, ⟨tu9, ⟨tu95, tu99⟩⟩⟩, ⟨⟨tz106, tz107⟩, ⟨tz109, ⟨tz22, tz24⟩⟩⟩⟩, ⟨⟨⟨tz26, tz3⟩, ⟨tz4, ⟨tz42, tz44⟩⟩⟩, ⟨⟨tz5, tz9⟩, ⟨tz95, ⟨tz97, tz99⟩⟩⟩⟩⟩⟩⟩
theorem numT : True := trivial
section
variable {M : Nat} {D : List RuleD}
/-- put, with a name for what is written then. -/
theorem put_n {D : List RuleD} {out o2 b : List UInt8} (h : o2 = out ++ b) (hl : out.length + b.length ≤ 268435456) : AC Try.prog 133 [.ptr 0 0, .d (encB b)] (some (prn D out)) (fun r' b' => r' = .d (.tup []) ∧ b' = some (prn D o2)) := by
  rw [h]
  exact put_c D hl
set_option maxRecDepth 100000 in
set_option maxHeartbeats 4000000 in
theorem valueP_step (hD : DB M D) (hM : M ≤ 1048576) (hV : descP D) {n : Int} {bs : List UInt8} {vs : List V} (hv : VB 1048576 (.mk n bs vs)) (H : ∀ v ∈ vs, PrOK D v) : PrOK D (.mk n bs vs) := by
  intro i out hi hval hcap
  obtain ⟨r, hr⟩ : ∃ r, D[i]? = some r := ⟨_, List.getElem?_eq_getElem hi⟩
  have G : GoodR D i r := good_of hV hr
  obtain ⟨kd1, kd2⟩ := G.kd
  have hrb := hD.rule r (List.mem_of_getElem? hr)
  obtain ⟨v1, v2, _⟩ : bs.length ≤ 1048576 ∧ vs.length ≤ 1048576 ∧ VBs 1048576 vs := by unfold VB at hv; exact hv
  rw [validV, ruleD_get hr, Bool.and_eq_true] at hval
  obtain ⟨hO, hvs⟩ := hval
  have hkid : ∀ k (h : k < vs.length), ∃ j : Nat, itemK r n k = j ∧ j < D.length := fun k h => own_kid G hi hO h
  have hhead := headB_len hV hr G hO
  rw [capV_mk] at hcap
  have hpr : prI D i out (.mk n bs vs) = prIs D r n 0 (out ++ headB D r n bs vs.length) vs ++ tailB r ((prIs D r n 0 (out ++ headB D r n bs vs.length) vs).drop (out ++ headB D r n bs vs.length).length) := by rw [prI, ruleD_get hr]
  rw [hpr]
  obtain ⟨o2, ho2⟩ : ∃ o2, o2 = out ++ headB D r n bs vs.length := ⟨_, rfl⟩
  rw [← ho2]
  have hl2 : o2.length ≤ out.length + 68 + 2 * bs.length := by rw [ho2, List.length_append]; omega
  have HI := itemsP_c hD hM hV hr hv hkid hvs H o2 (by omega)
  have hl3 := prIs_le hV r n vs 0 o2 (fun k hk => by rw [Nat.zero_add]; exact hkid k hk) hvs
  have hge := prIs_ge D r n vs 0 o2
  generalize prIs D r n 0 o2 vs = o3 at HI hl3 hge
  rw [encVc_mk, encVs_eq] at HI ⊢
  refine calls_body Try.func82 rfl Try.call82 Try.ntmps82 (by simp) (by simp [ArgsOk]) (by simp [Rz.nkL, Rz.nk]) fun en hsz hks hk0 => ?_; simp only [St.init, frOf, Rz.addSL, Rz.addS, Rz.toAL, Rz.toA, Rz.nk, List.zipIdx_cons, List.zipIdx_nil, List.map_cons, List.map_nil, Nat.zero_add, Nat.reduceAdd]
  refine walkJS ?_
  refine aw_joinS [1, 2, 3, 6] (fun κ s' => [(κ, keyB s' 0 1)]) (fun _ _ => []) [0] (fun κ _ => [(0, some [.d (encDs D), .own κ 5 1 (o2.map fun c => [uD c])])]) [16] (fun κ _ => [(κ, some (o2.length, 5, 1))]) (fun _ : Unit => True) hks (fun _ => rfl) (fun x hx => ?_) ?_; rotate_left
  · refine walkS ?_
    refine aw_condS rfl (fun n1 => ?_) (fun n1 => ?_)
    · rw [headB_1 n1] at ho2
      rw [ownV_1 n1, decide_eq_true_eq] at hO
      obtain ⟨m, rfl⟩ : ∃ m : Nat, n = m := ⟨n.toNat, by omega⟩
      rw [Int.toNat_natCast] at ho2
      have hil := intB_len r m
      have hs := G.k1 n1
      refine walkS ?_
      (have hsz0 := hsz; refine ow_inlineV ?_ (fun x hx => by cases hx <;> (rw [hsz]; decide)) rfl rfl Try.func132 rfl Try.call132 Try.ntmps132 (by simp) fun en2 hsz => ?_; (first | exact trivial | exact rfl); simp (decide := true) only [frOf, ev, St.f, lk, reduceIte, List.zipIdx_cons, List.zipIdx_nil, List.map_cons, List.map_nil, List.nil_append, List.cons_append, List.append_nil, Nat.zero_add, Nat.reduceAdd])
      (repeat (first | refine walkLS ?_ | (refine ow_call1p (k := 0) ?_ (fun x hx => by cases hx <;> (rw [hsz]; decide)) rfl rfl (put_n ho2 (by omega)) rfl rfl (by first | rfl | (simp only [List.length_map, List.length_append] <;> rfl)) (by decide) ?_; (first | exact trivial | exact rfl); simp only [St.set, List.map_cons, List.map_nil, List.length_map, List.length_append, Nat.reduceAdd]) | (refine ow_call1pV (k := 0) ?_ (fun x hx => by cases hx <;> (rw [hsz]; decide)) rfl rfl rfl (put_n ho2 (by omega)) rfl rfl (by first | rfl | (simp only [List.length_map, List.length_append] <;> rfl)) (by decide) ?_; (first | exact trivial | exact rfl); simp only [St.set, List.map_cons, List.map_nil, List.length_map, List.length_append, Nat.reduceAdd]) | (refine callPre ?_; (first | refine callN_funS rfl (encInt_c (r := r) (n := m) hs (by omega)) ?_)) | (refine callPreL ?_; (first | refine callL_funS rfl (encInt_c (r := r) (n := m) hs (by omega)) ?_)) | (refine callPreV ?_; (first | refine callN_funS rfl (encInt_c (r := r) (n := m) hs (by omega)) ?_))))
      (refine ⟨.inl rfl, ?_⟩; show OWs _ _ _ _ _ (St.set _ (some _) _); simp only [St.set, resOf, mkTup, allD, Option.map_some, Option.map_none, List.map_nil]; have hsz := hsz0)
      refine walkS ?_
      refine ⟨(), trivial, ?_⟩
      exact wkS
    refine walkS ?_
    refine aw_condS rfl (fun n2 => ?_) (fun n2 => ?_)
    · rw [headB_2 n2] at ho2
      have hcl := const_le hV hr n2
      (repeat (first | refine walkS ?_ | (refine ow_call1p (k := 0) ?_ (fun x hx => by cases hx <;> (rw [hsz]; decide)) rfl rfl (put_n ho2 (by omega)) rfl rfl (by first | rfl | (simp only [List.length_map, List.length_append] <;> rfl)) (by decide) ?_; (first | exact trivial | exact rfl); simp only [St.set, List.map_cons, List.map_nil, List.length_map, List.length_append, Nat.reduceAdd]) | (refine ow_call1pV (k := 0) ?_ (fun x hx => by cases hx <;> (rw [hsz]; decide)) rfl rfl rfl (put_n ho2 (by omega)) rfl rfl (by first | rfl | (simp only [List.length_map, List.length_append] <;> rfl)) (by decide) ?_; (first | exact trivial | exact rfl); simp only [St.set, List.map_cons, List.map_nil, List.length_map, List.length_append, Nat.reduceAdd])))
      refine ⟨(), trivial, ?_⟩
      exact wkS
    refine walkS ?_
    refine aw_condS rfl (fun n3 => ?_) (fun n3 => ?_)
    · rw [headB_3 n3] at ho2
      (repeat (first | refine walkLS ?_ | (refine ow_call1p (k := 0) ?_ (fun x hx => by cases hx <;> (rw [hsz]; decide)) rfl rfl (put_n ho2 (by omega)) rfl rfl (by first | rfl | (simp only [List.length_map, List.length_append] <;> rfl)) (by decide) ?_; (first | exact trivial | exact rfl); simp only [St.set, List.map_cons, List.map_nil, List.length_map, List.length_append, Nat.reduceAdd]) | (refine ow_call1pV (k := 0) ?_ (fun x hx => by cases hx <;> (rw [hsz]; decide)) rfl rfl rfl (put_n ho2 (by omega)) rfl rfl (by first | rfl | (simp only [List.length_map, List.length_append] <;> rfl)) (by decide) ?_; (first | exact trivial | exact rfl); simp only [St.set, List.map_cons, List.map_nil, List.length_map, List.length_append, Nat.reduceAdd])))
      refine ⟨(), trivial, ?_⟩
      exact wkS
    refine walkS ?_
    refine aw_condS rfl (fun n4 => ?_) (fun n4 => ?_)
    · rw [headB_4 n4] at ho2
      rw [ownV_4 n4, decide_eq_true_eq] at hO
      obtain ⟨j, q, ej, hj, hq, hqr, hlim⟩ := head_kid G (.inl n4)
      have hk0 : r.kids[0]? = some (j : Int) := by rw [kids0 (by have := (G.k4 n4).1; omega), ej]
      have hil := intB_len q bs.length
      rw [hqr, ← List.append_assoc] at ho2
      obtain ⟨o1, ho1⟩ : ∃ o1, o1 = out ++ intB q bs.length := ⟨_, rfl⟩
      rw [← ho1] at ho2
      have hl1 : o1.length ≤ out.length + 4 := by rw [ho1, List.length_append]; omega
      refine walkLS ?_
      (have hsz0 := hsz; refine ow_inlineV ?_ (fun x hx => by cases hx <;> (rw [hsz]; decide)) rfl rfl Try.func132 rfl Try.call132 Try.ntmps132 (by simp) fun en2 hsz => ?_; (first | exact trivial | exact rfl); simp (decide := true) only [frOf, ev, St.f, lk, reduceIte, List.zipIdx_cons, List.zipIdx_nil, List.map_cons, List.map_nil, List.nil_append, List.cons_append, List.append_nil, Nat.zero_add, Nat.reduceAdd])
      (repeat (first | refine walkLS ?_ | (refine ow_call1p (k := 0) ?_ (fun x hx => by cases hx <;> (rw [hsz]; decide)) rfl rfl (put_n ho1 (by omega)) rfl rfl (by first | rfl | (simp only [List.length_map, List.length_append] <;> rfl)) (by decide) ?_; (first | exact trivial | exact rfl); simp only [St.set, List.map_cons, List.map_nil, List.length_map, List.length_append, Nat.reduceAdd]) | (refine ow_call1pV (k := 0) ?_ (fun x hx => by cases hx <;> (rw [hsz]; decide)) rfl rfl rfl (put_n ho1 (by omega)) rfl rfl (by first | rfl | (simp only [List.length_map, List.length_append] <;> rfl)) (by decide) ?_; (first | exact trivial | exact rfl); simp only [St.set, List.map_cons, List.map_nil, List.length_map, List.length_append, Nat.reduceAdd]) | (refine callPre ?_; (first | refine callN_funS rfl (encInt_c (r := q) (n := bs.length) hq (by omega)) ?_)) | (refine callPreL ?_; (first | refine callL_funS rfl (encInt_c (r := q) (n := bs.length) hq (by omega)) ?_)) | (refine callPreV ?_; (first | refine callN_funS rfl (encInt_c (r := q) (n := bs.length) hq (by omega)) ?_))))
      (refine ⟨.inl rfl, ?_⟩; show OWs _ _ _ _ _ (St.set _ (some _) _); simp only [St.set, resOf, mkTup, allD, Option.map_some, Option.map_none, List.map_nil]; have hsz := hsz0)
      (repeat (first | refine walkLS ?_ | (refine ow_call1p (k := 0) ?_ (fun x hx => by cases hx <;> (rw [hsz]; decide)) rfl rfl (put_n ho2 (by omega)) rfl rfl (by first | rfl | (simp only [List.length_map, List.length_append] <;> rfl)) (by decide) ?_; (first | exact trivial | exact rfl); simp only [St.set, List.map_cons, List.map_nil, List.length_map, List.length_append, Nat.reduceAdd]) | (refine ow_call1pV (k := 0) ?_ (fun x hx => by cases hx <;> (rw [hsz]; decide)) rfl rfl rfl (put_n ho2 (by omega)) rfl rfl (by first | rfl | (simp only [List.length_map, List.length_append] <;> rfl)) (by decide) ?_; (first | exact trivial | exact rfl); simp only [St.set, List.map_cons, List.map_nil, List.length_map, List.length_append, Nat.reduceAdd])))
      refine ⟨(), trivial, ?_⟩
      exact wkS
    refine walkS ?_
    refine aw_condS rfl (fun n5 => ?_) (fun n5 => ?_)
    · rw [headB_5 n5] at ho2
      rw [ownV_5 n5, decide_eq_true_eq] at hO
      obtain ⟨j, q, ej, hj, hq, hqr, hlim⟩ := head_kid G (.inr (.inl n5))
      have hk0 : r.kids[0]? = some (j : Int) := by rw [kids0 (by have := (G.k5 n5).1; omega), ej]
      have hil := intB_len q vs.length
      rw [hqr] at ho2
      refine walkLS ?_
      (have hsz0 := hsz; refine ow_inlineV ?_ (fun x hx => by cases hx <;> (rw [hsz]; decide)) rfl rfl Try.func132 rfl Try.call132 Try.ntmps132 (by simp) fun en2 hsz => ?_; (first | exact trivial | exact rfl); simp (decide := true) only [frOf, ev, St.f, lk, reduceIte, List.zipIdx_cons, List.zipIdx_nil, List.map_cons, List.map_nil, List.nil_append, List.cons_append, List.append_nil, Nat.zero_add, Nat.reduceAdd])
      (repeat (first | refine walkLS ?_ | (refine ow_call1p (k := 0) ?_ (fun x hx => by cases hx <;> (rw [hsz]; decide)) rfl rfl (put_n ho2 (by omega)) rfl rfl (by first | rfl | (simp only [List.length_map, List.length_append] <;> rfl)) (by decide) ?_; (first | exact trivial | exact rfl); simp only [St.set, List.map_cons, List.map_nil, List.length_map, List.length_append, Nat.reduceAdd]) | (refine ow_call1pV (k := 0) ?_ (fun x hx => by cases hx <;> (rw [hsz]; decide)) rfl rfl rfl (put_n ho2 (by omega)) rfl rfl (by first | rfl | (simp only [List.length_map, List.length_append] <;> rfl)) (by decide) ?_; (first | exact trivial | exact rfl); simp only [St.set, List.map_cons, List.map_nil, List.length_map, List.length_append, Nat.reduceAdd]) | (refine callPre ?_; (first | refine callN_funS rfl (encInt_c (r := q) (n := vs.length) hq (by omega)) ?_)) | (refine callPreL ?_; (first | refine callL_funS rfl (encInt_c (r := q) (n := vs.length) hq (by omega)) ?_)) | (refine callPreV ?_; (first | refine callN_funS rfl (encInt_c (r := q) (n := vs.length) hq (by omega)) ?_))))
      (refine ⟨.inl rfl, ?_⟩; show OWs _ _ _ _ _ (St.set _ (some _) _); simp only [St.set, resOf, mkTup, allD, Option.map_some, Option.map_none, List.map_nil]; have hsz := hsz0)
      refine walkS ?_
      refine ⟨(), trivial, ?_⟩
      exact wkS
    refine walkS ?_
    refine aw_condS rfl (fun n7 => ?_) (fun n7 => ?_)
    · rw [headB_7 n7] at ho2
      obtain ⟨j, q, ej, hj, hq, hqr, hlim⟩ := head_kid G (.inr (.inr n7))
      have hn := own_num hV hr G n7 hO
      obtain ⟨m, rfl⟩ : ∃ m : Nat, n = m := ⟨n.toNat, by omega⟩
      rw [Int.toNat_natCast, hqr] at ho2
      have hk0 : r.kids[0]? = some (j : Int) := by rw [kids0 (by have := (G.k7 n7).1; omega), ej]
      have hil := intB_len q m
      refine walkLS ?_
      (have hsz0 := hsz; refine ow_inlineV ?_ (fun x hx => by cases hx <;> (rw [hsz]; decide)) rfl rfl Try.func132 rfl Try.call132 Try.ntmps132 (by simp) fun en2 hsz => ?_; (first | exact trivial | exact rfl); simp (decide := true) only [frOf, ev, St.f, lk, reduceIte, List.zipIdx_cons, List.zipIdx_nil, List.map_cons, List.map_nil, List.nil_append, List.cons_append, List.append_nil, Nat.zero_add, Nat.reduceAdd])
      (repeat (first | refine walkLS ?_ | (refine ow_call1p (k := 0) ?_ (fun x hx => by cases hx <;> (rw [hsz]; decide)) rfl rfl (put_n ho2 (by omega)) rfl rfl (by first | rfl | (simp only [List.length_map, List.length_append] <;> rfl)) (by decide) ?_; (first | exact trivial | exact rfl); simp only [St.set, List.map_cons, List.map_nil, List.length_map, List.length_append, Nat.reduceAdd]) | (refine ow_call1pV (k := 0) ?_ (fun x hx => by cases hx <;> (rw [hsz]; decide)) rfl rfl rfl (put_n ho2 (by omega)) rfl rfl (by first | rfl | (simp only [List.length_map, List.length_append] <;> rfl)) (by decide) ?_; (first | exact trivial | exact rfl); simp only [St.set, List.map_cons, List.map_nil, List.length_map, List.length_append, Nat.reduceAdd]) | (refine callPre ?_; (first | refine callN_funS rfl (encInt_c (r := q) (n := m) hq (by omega)) ?_)) | (refine callPreL ?_; (first | refine callL_funS rfl (encInt_c (r := q) (n := m) hq (by omega)) ?_)) | (refine callPreV ?_; (first | refine callN_funS rfl (encInt_c (r := q) (n := m) hq (by omega)) ?_))))
      (refine ⟨.inl rfl, ?_⟩; show OWs _ _ _ _ _ (St.set _ (some _) _); simp only [St.set, resOf, mkTup, allD, Option.map_some, Option.map_none, List.map_nil]; have hsz := hsz0)
      refine walkS ?_
      refine ⟨(), trivial, ?_⟩
      exact wkS
    refine walkS ?_
    refine aw_condS rfl (fun n8 => ?_) (fun n8 => ?_)
    · rw [headB_8 n8] at ho2
      have hp := put_n (D := D) ho2 (by simp; omega)
      refine walkLS ?_
      simp only [u8_len]
      (repeat (first | refine walkS ?_ | (refine ow_call1p (k := 0) ?_ (fun x hx => by cases hx <;> (rw [hsz]; decide)) rfl rfl (hp) rfl rfl (by first | rfl | (simp only [List.length_map, List.length_append] <;> rfl)) (by decide) ?_; (first | exact trivial | exact rfl); simp only [St.set, List.map_cons, List.map_nil, List.length_map, List.length_append, Nat.reduceAdd]) | (refine ow_call1pV (k := 0) ?_ (fun x hx => by cases hx <;> (rw [hsz]; decide)) rfl rfl rfl (hp) rfl rfl (by first | rfl | (simp only [List.length_map, List.length_append] <;> rfl)) (by decide) ?_; (first | exact trivial | exact rfl); simp only [St.set, List.map_cons, List.map_nil, List.length_map, List.length_append, Nat.reduceAdd])))
      refine ⟨(), trivial, ?_⟩
      exact wkS
    refine walkS ?_
    refine aw_condS rfl (fun n10 => ?_) (fun n10 => ?_)
    · rw [headB_10 n10] at ho2
      obtain ⟨t, ht⟩ : ∃ t, r.bytes = [t] := List.length_eq_one_iff.1 (G.k10 n10)
      have hh : r.bytes.headD 0 = t := by rw [ht]; rfl
      have ht0 : r.bytes[0]? = some t := by rw [ht]; rfl
      have hel := escB_len t bs
      rw [hh] at ho2
      (repeat (first | refine walkLS ?_ | (refine ow_call1p (k := 0) ?_ (fun x hx => by cases hx <;> (rw [hsz]; decide)) rfl rfl (put_n ho2 (by omega)) rfl rfl (by first | rfl | (simp only [List.length_map, List.length_append] <;> rfl)) (by decide) ?_; (first | exact trivial | exact rfl); simp only [St.set, List.map_cons, List.map_nil, List.length_map, List.length_append, Nat.reduceAdd]) | (refine ow_call1pV (k := 0) ?_ (fun x hx => by cases hx <;> (rw [hsz]; decide)) rfl rfl rfl (put_n ho2 (by omega)) rfl rfl (by first | rfl | (simp only [List.length_map, List.length_append] <;> rfl)) (by decide) ?_; (first | exact trivial | exact rfl); simp only [St.set, List.map_cons, List.map_nil, List.length_map, List.length_append, Nat.reduceAdd]) | (refine callPre ?_; (first | refine callN_funS rfl (escI_c (l := bs) (by omega) t) ?_)) | (refine callPreL ?_; (first | refine callL_funS rfl (escI_c (l := bs) (by omega) t) ?_)) | (refine callPreV ?_; (first | refine callN_funS rfl (escI_c (l := bs) (by omega) t) ?_))))
      refine ⟨(), trivial, ?_⟩
      exact wkS
    · rw [headB_no (by omega), List.append_nil] at ho2
      subst ho2
      refine walkS ?_
      refine ⟨(), trivial, ?_⟩
      exact wkS
  simp (decide := true) only [St.head, List.map_cons, List.map_nil, lk, rmv, List.cons_append, List.nil_append, List.append_nil, reduceIte, Nat.reduceAdd]
  (repeat (first | refine walkS ?_ | (refine ow_call1p (k := 0) ?_ (fun x hx => by cases hx <;> (rw [hsz]; decide)) rfl rfl (HI) rfl rfl (by first | rfl | (simp only [List.length_map, List.length_append] <;> rfl)) (by decide) ?_; (first | exact trivial | exact rfl); simp only [St.set, List.map_cons, List.map_nil, List.length_map, List.length_append, Nat.reduceAdd]) | (refine ow_call1pV (k := 0) ?_ (fun x hx => by cases hx <;> (rw [hsz]; decide)) rfl rfl rfl (HI) rfl rfl (by first | rfl | (simp only [List.length_map, List.length_append] <;> rfl)) (by decide) ?_; (first | exact trivial | exact rfl); simp only [St.set, List.map_cons, List.map_nil, List.length_map, List.length_append, Nat.reduceAdd])))
  refine aw_condS rfl (fun n9 => ?_) (fun n9 => ?_)
  · rw [tailB_9 n9]
    have e : List.take (o3.length - o2.length) (List.drop o2.length o3) = List.drop o2.length o3 := List.take_of_length_le (by simp)
    have hp := put_n (D := D) (out := o3) (b := [UInt8.ofNat (sumB (o3.drop o2.length))]) rfl (by simp; omega)
    have hsl : (o3.drop o2.length).length ≤ 268435456 := by rw [List.length_drop]; omega
    refine walkLS ?_
    simp only [← List.map_drop, ← List.map_take, e]
    (repeat (first | refine aw_seq ?_ | refine aw_region ?_ | refine aw_block ?_ | (refine aw_exit ?_; (try simp (decide := true) only [reduceIte])) | (refine aw_skip ?_; try dsimp only) | (refine aw_any (by kernel_rfl) (by kernel_rfl) (by simp only [hsz]; kernel_rfl) ?_) | (refine ow_nil ?_; try dsimp only) | (refine ol_go ?_ (fun K1 hK1 => ?_); (first | exact trivial | exact rfl); refine evS ?_; (try simp only [u8_len]); refine hK1 _ _ ?_; clear hK1 K1) | (refine ol_skip rfl rfl ?_ ?_; (focus (intro hne; cases hne; done)); simp only [St.set]) | (refine ol_nil ⟨by kernel_rfl, ?_⟩; try dsimp only) | (refine ow_go ?_ (fun x hx => by cases hx <;> (rw [hsz]; decide)) (fun K1 hK1 => ?_); (first | exact trivial | exact rfl); refine evS ?_; (try simp only [u8_len]); refine hK1 _ ?_; clear hK1 K1) | (refine ow_skip rfl rfl ?_ (fun x hx => by cases hx <;> (rw [hsz]; decide)) ?_; (focus (intro hne; cases hne; done)); simp only [St.set]) | (refine callPre ?_; (first | refine callN_funS rfl (sumIX_c hsl) ?_)) | (refine callPreL ?_; (first | refine callL_funS rfl (sumIX_c hsl) ?_)) | (refine callPreV ?_; (first | refine callN_funS rfl (sumIX_c hsl) ?_))))
    (repeat (first | refine walkS ?_ | (refine ow_call1p (k := 0) ?_ (fun x hx => by cases hx <;> (rw [hsz]; decide)) rfl rfl (hp) rfl rfl (by first | rfl | (simp only [List.length_map, List.length_append] <;> rfl)) (by decide) ?_; (first | exact trivial | exact rfl); simp only [St.set, List.map_cons, List.map_nil, List.length_map, List.length_append, Nat.reduceAdd]) | (refine ow_call1pV (k := 0) ?_ (fun x hx => by cases hx <;> (rw [hsz]; decide)) rfl rfl rfl (hp) rfl rfl (by first | rfl | (simp only [List.length_map, List.length_append] <;> rfl)) (by decide) ?_; (first | exact trivial | exact rfl); simp only [St.set, List.map_cons, List.map_nil, List.length_map, List.length_append, Nat.reduceAdd])))
    ((try refine aw_ret ?_); (simp only [Fin, Try.results82]; refine finS ?_); exact ⟨_, [], .inl ⟨rfl, rfl⟩, _, ([.d (encDs D), .own 5 1 ((o3 ++ [UInt8.ofNat (sumB (o3.drop o2.length))]).map fun c => [uD c])]), [_], rfl, toZL_p (by simp only [List.length_append, List.length_map] <;> rfl), by simp, ⟨rfl, rfl⟩⟩)
  · rw [tailB_no n9, List.append_nil]
    refine walkS ?_
    ((try refine aw_ret ?_); (simp only [Fin, Try.results82]; refine finS ?_); exact ⟨_, [], .inl ⟨rfl, rfl⟩, _, (prn D o3), [_], rfl, toZL_p (by simp only [List.length_append, List.length_map] <;> rfl), by simp, ⟨rfl, rfl⟩⟩)
end
end Go.Proofs.Ytmpokibohbhoeaa.Eng
