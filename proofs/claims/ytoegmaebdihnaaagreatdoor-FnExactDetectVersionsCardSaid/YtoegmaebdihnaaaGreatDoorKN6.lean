/-
  The kinds of rules that the reference reads by their items.
-/
import Derived.Test.YtoegmaebdihnaaaGreatDoorKN5
set_option linter.unusedSimpArgs false
set_option linter.unusedVariables false
namespace Go.Proofs.YtoegmaebdihnaaaGreatDoor.Eng
open Go Go.RowKit

abbrev GoodR := @Go.Proofs.YtoegmaebdihnaaaGreatDoor.Good
section
variable {M : Nat} {D : List RuleD} {b : List UInt8}
theorem kid_int {i : Int} (h : 0 ≤ limD D i) : ∃ (j : Nat) (q : RuleD), i = j ∧ D[j]? = some q ∧ (1 ≤ q.size ∧ q.size ≤ 4) ∧ ruleD D i = q := by
  obtain ⟨q, h1, _, h3⟩ := limD_rule h
  have h1' := h1
  unfold ruleAt at h1
  split at h1
  · rename_i h0
    exact ⟨i.toNat, q, by omega, h1, h3, ruleD_of h1'⟩
  · cases h1
theorem l11Items_1 {f : Nat} (H : ReadOK D b f) {r : RuleD} (hr : RB M r) (hM : M ≤ 1048576) (number : Int) (h5 : r.kind = 5 → 2 ≤ r.kids.length) (h7 : r.kind = 7 → r.kids.length = r.tags.length + 1) (h8 : r.kind = 8 ∨ r.kind = 9 → 1 ≤ r.kids.length)
    {x : Nat} (hx : itemK r number 0 = (x : Int) ∧ x < f ∧ x < D.length) (p : Nat) (hp : p ≤ b.length) : AC Tryz.prog 104 [.d (encD D), .d (encR r), .d (iD number), .d (iD 1), .d (encB b), .d (iD p)] none (fun r' _ => r' = rdR (mkItems 0 (rdItems (rd D b f) [x] p))) :=
  l11Items_c H hr hM number h5 h7 h8 [x] (by simp) (fun i hi => by
    have : i = 0 := by simpa using hi
    subst this
    exact hx) p hp

private theorem tyF : ((((((bytesT Tryz.prog 25 = true ∧ tyElem Tryz.prog 104 = some 9) ∧ (tyElem Tryz.prog 25 = some 5 ∧ tyElem Tryz.prog 28 = some 107)) ∧ ((tyElem Tryz.prog 39 = some 41 ∧ tyElem Tryz.prog 54 = some 3) ∧ (tyField Tryz.prog 107 0 = some (0, 9) ∧ tyField Tryz.prog 107 1 = some (1, 3)))) ∧ (((tyField Tryz.prog 107 2 = some (2, 3) ∧ tyField Tryz.prog 107 3 = some (3, 4)) ∧ (tyField Tryz.prog 107 4 = some (4, 25) ∧ tyField Tryz.prog 107 5 = some (5, 104))) ∧ ((tyField Tryz.prog 107 6 = some (6, 54) ∧ tyField Tryz.prog 107 7 = some (7, 54)) ∧ (tyField Tryz.prog 30 0 = some (0, 28) ∧ tyField Tryz.prog 41 0 = some (0, 3))))) ∧ ((((tyField Tryz.prog 41 1 = some (1, 25) ∧ tyField Tryz.prog 41 2 = some (2, 39)) ∧ (tyK Tryz.prog 104 = some (false, 1) ∧ tyK Tryz.prog 107 = some (true, 8))) ∧ ((tyK Tryz.prog 25 = some (false, 1) ∧ tyK Tryz.prog 28 = some (false, 1)) ∧ (tyK Tryz.prog 3 = some (false, 1) ∧ tyK Tryz.prog 30 = some (true, 1)))) ∧ (((tyK Tryz.prog 39 = some (false, 1) ∧ tyK Tryz.prog 4 = some (false, 1)) ∧ (tyK Tryz.prog 41 = some (true, 3) ∧ tyK Tryz.prog 5 = some (false, 1))) ∧ ((tyK Tryz.prog 54 = some (false, 1) ∧ tyK Tryz.prog 9 = some (false, 1)) ∧ (tyPlaces Tryz.prog 107 = some [(0, 1), (1, 1), (2, 1), (3, 1), (4, 1), (5, 1), (6, 1), (7, 1)] ∧ (tyPlaces Tryz.prog 30 = some [(0, 1)] ∧ tyPlaces Tryz.prog 41 = some [(0, 1), (1, 1), (2, 1)])))))) ∧ (((((tyRow Tryz.prog 104 = some 1 ∧ tyRow Tryz.prog 107 = some 8) ∧ (tyRow Tryz.prog 25 = some 1 ∧ tyRow Tryz.prog 28 = some 1)) ∧ ((tyRow Tryz.prog 3 = some 1 ∧ tyRow Tryz.prog 30 = some 1) ∧ (tyRow Tryz.prog 39 = some 1 ∧ tyRow Tryz.prog 4 = some 1))) ∧ (((tyRow Tryz.prog 41 = some 3 ∧ tyRow Tryz.prog 5 = some 1) ∧ (tyRow Tryz.prog 54 = some 1 ∧ tyRow Tryz.prog 9 = some 1)) ∧ ((Tryz.prog.underlying 104 = some (TypeDesc.slice 9) ∧ Tryz.prog.underlying 25 = some (TypeDesc.slice 5)) ∧ (Tryz.prog.underlying 28 = some (TypeDesc.slice 107) ∧ Tryz.prog.underlying 3 = some (TypeDesc.int IntKind.i64))))) ∧ ((((Tryz.prog.underlying 39 = some (TypeDesc.slice 41) ∧ Tryz.prog.underlying 4 = some (TypeDesc.bool)) ∧ (Tryz.prog.underlying 5 = some (TypeDesc.int IntKind.u8) ∧ Tryz.prog.underlying 54 = some (TypeDesc.slice 3))) ∧ ((Tryz.prog.underlying 9 = some (TypeDesc.string) ∧ tyZero Tryz.prog 104 = some [Value.slice none 0 0]) ∧ (tyZero Tryz.prog 107 = some [Value.string ByteArray.empty, Value.int IntKind.i64 0, Value.int IntKind.i64 0, Value.bool false, Value.slice none 0 0, Value.slice none 0 0, Value.slice none 0 0, Value.slice none 0 0] ∧ tyZero Tryz.prog 25 = some [Value.slice none 0 0]))) ∧ (((tyZero Tryz.prog 28 = some [Value.slice none 0 0] ∧ tyZero Tryz.prog 3 = some [Value.int IntKind.i64 0]) ∧ (tyZero Tryz.prog 30 = some [Value.slice none 0 0] ∧ tyZero Tryz.prog 39 = some [Value.slice none 0 0])) ∧ ((tyZero Tryz.prog 4 = some [Value.bool false] ∧ tyZero Tryz.prog 41 = some [Value.int IntKind.i64 0, Value.slice none 0 0, Value.slice none 0 0]) ∧ (tyZero Tryz.prog 5 = some [Value.int IntKind.u8 0] ∧ (tyZero Tryz.prog 54 = some [Value.slice none 0 0] ∧ tyZero Tryz.prog 9 = some [Value.string ByteArray.empty]))))))) := ⟨⟨⟨⟨⟨⟨tb25, te104⟩, ⟨te25, te28⟩⟩, ⟨⟨te39, te54⟩, ⟨tf107_0, tf107_1⟩⟩⟩, ⟨⟨⟨tf107_2, tf107_3⟩, ⟨tf107_4, tf107_5⟩⟩, ⟨⟨tf107_6, tf107_7⟩, ⟨tf30_0, tf41_0⟩⟩⟩⟩, ⟨⟨⟨⟨tf41_1, tf41_2⟩, ⟨tk104, tk107⟩⟩, ⟨⟨tk25, tk28⟩, ⟨tk3, tk30⟩⟩⟩, ⟨⟨⟨tk39, tk4⟩, ⟨tk41, tk5⟩⟩, ⟨⟨tk54, tk9⟩, ⟨tp107, ⟨tp30, tp41⟩⟩⟩⟩⟩⟩, ⟨⟨⟨⟨⟨tr104, tr107⟩, ⟨tr25, tr28⟩⟩, ⟨⟨tr3, tr30⟩, ⟨tr39, tr4⟩⟩⟩, ⟨⟨⟨tr41, tr5⟩, ⟨tr54, tr9⟩⟩, ⟨⟨tu104, tu25⟩, ⟨tu28, tu3⟩⟩⟩⟩, ⟨⟨⟨⟨tu39, tu4⟩, ⟨tu5, tu54⟩⟩, ⟨⟨tu9, tz104⟩, ⟨tz107, tz25⟩⟩⟩, ⟨⟨⟨tz28, tz3⟩, ⟨tz30, tz39⟩⟩, ⟨⟨tz4, tz41⟩, ⟨tz5, ⟨tz54, tz9⟩⟩⟩⟩⟩⟩⟩
set_option maxRecDepth 100000 in
set_option maxHeartbeats 1000000 in
theorem l11Choice_c (hD : DB M D) (hM : M ≤ 1048576) (hb : b.length ≤ 1048576) {f : Nat} (H : ReadOK D b f) {n : Nat} {r : RuleD} (hr : D[n]? = some r) (hn : n ≤ f) (G : GoodR D n r) (hk : r.kind = 7) (p : Nat) (hp : p ≤ b.length) : AC Tryz.prog 105 [.d (encD D), .d (encR r), .d (encB b), .d (iD p)] none (fun r' _ => r' = rdR (rd D b (f + 1) n p)) := by
  have hrb := hD.rule r (List.mem_of_getElem? hr)
  obtain ⟨g1, g2⟩ := G.k7 hk
  obtain ⟨j, q, ej, hj, hq, hqr⟩ := kid_int g2
  have hkid : r.kids[0]? = some (j : Int) := by rw [kids0 (by omega), ej]
  have hrd := ruleD_get hr
  have hnl : n < D.length := (List.getElem?_eq_some_iff.1 hr).1
  cases hi : intAt q b p with
  | none =>
    refine calls_body Tryz.func105 rfl Tryz.call105 Tryz.ntmps105 (by simp) (by simp [ArgsOk]) (by simp [Rz.nkL, Rz.nk]) fun en hsz hks hk0 => ?_; simp only [St.init, frOf, Rz.addSL, Rz.addS, Rz.toAL, Rz.toA, Rz.nk, List.zipIdx_cons, List.zipIdx_nil, List.map_cons, List.map_nil, Nat.zero_add, Nat.reduceAdd]
    (repeat (first | refine walkS ?_ | (refine callPre ?_; (first | refine callN_funS rfl ((l11Integer_c hD hM hb hj hq p hp).eqv (r1 := .d (.tup [iD 0, iD p, bD false])) (by rw [intR, intRes_none hi]; rfl)) ?_)) | (refine callPreL ?_; (first | refine callL_funS rfl ((l11Integer_c hD hM hb hj hq p hp).eqv (r1 := .d (.tup [iD 0, iD p, bD false])) (by rw [intR, intRes_none hi]; rfl)) ?_))))
    refine aw_condS rfl (fun hc => ?_) (fun hc => ?_)
    · refine walkS ?_
      (refine aw_ret ?_; (simp only [Fin, Tryz.results105]; refine finS ?_); refine ⟨_, [], .inr (.inl ⟨.tup [encV V0, iD (p : Int), iD 1], rfl, rfl, ?_⟩), List.nodup_nil, by rw [rd_7n hrd hk (by rw [hqr]; exact hi)]; rfl⟩; exact wkDS)
    · cases hc
  | some m =>
    obtain ⟨hi1, hi2⟩ := intAt_in hi hp
    cases ht : tagIx r.tags m with
    | none =>
      refine calls_body Tryz.func105 rfl Tryz.call105 Tryz.ntmps105 (by simp) (by simp [ArgsOk]) (by simp [Rz.nkL, Rz.nk]) fun en hsz hks hk0 => ?_; simp only [St.init, frOf, Rz.addSL, Rz.addS, Rz.toAL, Rz.toA, Rz.nk, List.zipIdx_cons, List.zipIdx_nil, List.map_cons, List.map_nil, Nat.zero_add, Nat.reduceAdd]
      (repeat (first | refine walkS ?_ | (refine callPre ?_; (first | refine callN_funS rfl ((l11Integer_c hD hM hb hj hq p hp).eqv (r1 := .d (.tup [iD (m : Nat), iD ((p + q.size.toNat : Nat) : Int), bD true])) (by rw [intR, intRes_some hi])) ?_ | refine callN_funS rfl ((l9Item_c hrb hM (m : Nat) 0 (by omega) (by omega) (by omega)).eqv (r1 := .d (iD (-1))) (by rw [itemK_7n hk ht])) ?_)) | (refine callPreL ?_; (first | refine callL_funS rfl ((l11Integer_c hD hM hb hj hq p hp).eqv (r1 := .d (.tup [iD (m : Nat), iD ((p + q.size.toNat : Nat) : Int), bD true])) (by rw [intR, intRes_some hi])) ?_ | refine callL_funS rfl ((l9Item_c hrb hM (m : Nat) 0 (by omega) (by omega) (by omega)).eqv (r1 := .d (iD (-1))) (by rw [itemK_7n hk ht])) ?_))))
      refine aw_condS rfl (fun hc => ?_) (fun hc => ?_)
      · cases hc
      (repeat (first | refine walkS ?_ | (refine callPre ?_; (first | refine callN_funS rfl ((l9Item_c hrb hM (m : Nat) 0 (by omega) (by omega) (by omega)).eqv (r1 := .d (iD (-1))) (by rw [itemK_7n hk ht])) ?_)) | (refine callPreL ?_; (first | refine callL_funS rfl ((l9Item_c hrb hM (m : Nat) 0 (by omega) (by omega) (by omega)).eqv (r1 := .d (iD (-1))) (by rw [itemK_7n hk ht])) ?_))))
      refine aw_condS rfl (fun hc => ?_) (fun hc => ?_)
      · refine walkS ?_
        (refine aw_ret ?_; (simp only [Fin, Tryz.results105]; refine finS ?_); refine ⟨_, [], .inr (.inl ⟨.tup [encV V0, iD (p : Int), iD 3], rfl, rfl, ?_⟩), List.nodup_nil, by rw [rd_7t hrd hk (by rw [hqr]; exact hi) ht]; rfl⟩; exact wkDS)
      · (first | exact absurd trivial hc | exact absurd rfl hc | (cases hc; done) | omega | exact absurd hc (by decide) | (simp at hc; done))
    | some k =>
      have hkl := tagIx_lt ht
      obtain ⟨x, hx⟩ : ∃ x : Nat, r.kids[k + 1]'(by omega) = (x : Int) := ⟨(r.kids[k + 1]'(by omega)).toNat, by have := (G.kid (k + 1) (by omega)).1; omega⟩
      have hxn : x < n := by have := (G.kid (k + 1) (by omega)).2; omega
      have hxd : (r.kids.getD (k + 1) 0).toNat = x := by rw [List.getD_eq_getElem?_getD, List.getElem?_eq_getElem (by omega), Option.getD_some, hx]; omega
      have hit : itemK r m 0 = (x : Int) := by rw [itemK_7 hk ht (by omega), hx]
      have hfin := rd_7s (f := f) hrd hk (by rw [hqr]; exact hi) ht
      rw [hxd, hqr] at hfin
      have HI := l11Items_1 H hrb hM (m : Nat) (by omega) (by omega) (by omega) ⟨hit, by omega, by omega⟩ (p + q.size.toNat) (by omega)
      generalize rdItems (rd D b f) [x] (p + q.size.toNat) = y at HI hfin
      obtain ⟨vs, q2, c⟩ := y
      by_cases hc0 : c = 0
      · subst hc0
        refine calls_body Tryz.func105 rfl Tryz.call105 Tryz.ntmps105 (by simp) (by simp [ArgsOk]) (by simp [Rz.nkL, Rz.nk]) fun en hsz hks hk0 => ?_; simp only [St.init, frOf, Rz.addSL, Rz.addS, Rz.toAL, Rz.toA, Rz.nk, List.zipIdx_cons, List.zipIdx_nil, List.map_cons, List.map_nil, Nat.zero_add, Nat.reduceAdd]
        (repeat (first | refine walkS ?_ | (refine callPre ?_; (first | refine callN_funS rfl ((l11Integer_c hD hM hb hj hq p hp).eqv (r1 := .d (.tup [iD (m : Nat), iD ((p + q.size.toNat : Nat) : Int), bD true])) (by rw [intR, intRes_some hi])) ?_)) | (refine callPreL ?_; (first | refine callL_funS rfl ((l11Integer_c hD hM hb hj hq p hp).eqv (r1 := .d (.tup [iD (m : Nat), iD ((p + q.size.toNat : Nat) : Int), bD true])) (by rw [intR, intRes_some hi])) ?_))))
        refine aw_condS rfl (fun hc => ?_) (fun hc => ?_)
        · cases hc
        (repeat (first | refine walkS ?_ | (refine callPre ?_; (first | refine callN_funS rfl ((l9Item_c hrb hM (m : Nat) 0 (by omega) (by omega) (by omega)).eqv (r1 := .d (iD (x : Nat))) (by rw [hit])) ?_)) | (refine callPreL ?_; (first | refine callL_funS rfl ((l9Item_c hrb hM (m : Nat) 0 (by omega) (by omega) (by omega)).eqv (r1 := .d (iD (x : Nat))) (by rw [hit])) ?_))))
        refine aw_condS rfl (fun hc => ?_) (fun hc => ?_)
        · omega
        (repeat (first | refine walkS ?_ | (refine callPre ?_; (first | refine callN_funS rfl (HI.eqv (r1 := .d (.tup [encV (.mk 0 [] vs), iD q2, iD 0])) rfl) ?_)) | (refine callPreL ?_; (first | refine callL_funS rfl (HI.eqv (r1 := .d (.tup [encV (.mk 0 [] vs), iD q2, iD 0])) rfl) ?_))))
        refine aw_condS rfl (fun hc => ?_) (fun hc => ?_)
        · refine walkS ?_
          (refine aw_ret ?_; (simp only [Fin, Tryz.results105]; refine finS ?_); refine ⟨_, [], .inr (.inl ⟨.tup [encV (.mk m [] vs), iD (q2 : Int), iD 0], rfl, rfl, ?_⟩), List.nodup_nil, by rw [hfin]; rfl⟩; exact wkDS)
        · exact absurd rfl hc
      · have e0 : mkItems 0 (vs, q2, c) = (V0, q2, c) := by simp [mkItems, hc0]
        have e1 : mkItems m (vs, q2, c) = (V0, q2, c) := by simp [mkItems, hc0]
        refine calls_body Tryz.func105 rfl Tryz.call105 Tryz.ntmps105 (by simp) (by simp [ArgsOk]) (by simp [Rz.nkL, Rz.nk]) fun en hsz hks hk0 => ?_; simp only [St.init, frOf, Rz.addSL, Rz.addS, Rz.toAL, Rz.toA, Rz.nk, List.zipIdx_cons, List.zipIdx_nil, List.map_cons, List.map_nil, Nat.zero_add, Nat.reduceAdd]
        (repeat (first | refine walkS ?_ | (refine callPre ?_; (first | refine callN_funS rfl ((l11Integer_c hD hM hb hj hq p hp).eqv (r1 := .d (.tup [iD (m : Nat), iD ((p + q.size.toNat : Nat) : Int), bD true])) (by rw [intR, intRes_some hi])) ?_)) | (refine callPreL ?_; (first | refine callL_funS rfl ((l11Integer_c hD hM hb hj hq p hp).eqv (r1 := .d (.tup [iD (m : Nat), iD ((p + q.size.toNat : Nat) : Int), bD true])) (by rw [intR, intRes_some hi])) ?_))))
        refine aw_condS rfl (fun hc => ?_) (fun hc => ?_)
        · cases hc
        (repeat (first | refine walkS ?_ | (refine callPre ?_; (first | refine callN_funS rfl ((l9Item_c hrb hM (m : Nat) 0 (by omega) (by omega) (by omega)).eqv (r1 := .d (iD (x : Nat))) (by rw [hit])) ?_)) | (refine callPreL ?_; (first | refine callL_funS rfl ((l9Item_c hrb hM (m : Nat) 0 (by omega) (by omega) (by omega)).eqv (r1 := .d (iD (x : Nat))) (by rw [hit])) ?_))))
        refine aw_condS rfl (fun hc => ?_) (fun hc => ?_)
        · omega
        (repeat (first | refine walkS ?_ | (refine callPre ?_; (first | refine callN_funS rfl (HI.eqv (r1 := .d (.tup [encV V0, iD q2, iD c])) (by rw [e0])) ?_)) | (refine callPreL ?_; (first | refine callL_funS rfl (HI.eqv (r1 := .d (.tup [encV V0, iD q2, iD c])) (by rw [e0])) ?_))))
        refine aw_condS rfl (fun hc => ?_) (fun hc => ?_)
        · omega
        · refine walkS ?_
          (refine aw_ret ?_; (simp only [Fin, Tryz.results105]; refine finS ?_); refine ⟨_, [], .inr (.inl ⟨.tup [encV V0, iD (q2 : Int), iD (c : Int)], rfl, rfl, ?_⟩), List.nodup_nil, by rw [hfin, e1]⟩; exact wkDS)
end
end Go.Proofs.YtoegmaebdihnaaaGreatDoor.Eng
