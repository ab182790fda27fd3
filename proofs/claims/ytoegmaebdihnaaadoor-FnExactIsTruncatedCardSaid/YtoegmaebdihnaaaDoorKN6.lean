/-
  The kinds of rules that the reference reads by their items.
-/
import Derived.Test.YtoegmaebdihnaaaDoorKN5
set_option linter.unusedSimpArgs false
set_option linter.unusedVariables false
namespace Go.Proofs.YtoegmaebdihnaaaDoor.Eng
open Go Go.RowKit

abbrev GoodR := @Go.Proofs.YtoegmaebdihnaaaDoor.Good
section
variable {M : Nat} {D : List RuleD} {b : List UInt8}
theorem kid_int {i : Int} (h : 0 ≤ limD D i) : ∃ (j : Nat) (q : RuleD), i = j ∧ D[j]? = some q ∧ (1 ≤ q.size ∧ q.size ≤ 4) ∧ ruleD D i = q := by
  obtain ⟨q, h1, _, h3⟩ := limD_rule h
  have h1' := h1
  unfold ruleAt at h1
  split at h1
  · rename_i h0
    exact ⟨i.toNat, q, by omega, h1, h3, ruleD_of h1'⟩
  · cases h1
theorem l11Items_1 {f : Nat} (H : ReadOK D b f) {r : RuleD} (hr : RB M r) (hM : M ≤ 1048576) (number : Int) (h5 : r.kind = 5 → 2 ≤ r.kids.length) (h7 : r.kind = 7 → r.kids.length = r.tags.length + 1) (h8 : r.kind = 8 ∨ r.kind = 9 → 1 ≤ r.kids.length)
    {x : Nat} (hx : itemK r number 0 = (x : Int) ∧ x < f ∧ x < D.length) (p : Nat) (hp : p ≤ b.length) : AC Tryd.prog 45 [.d (encD D), .d (encR r), .d (iD number), .d (iD 1), .d (encB b), .d (iD p)] none (fun r' _ => r' = rdR (mkItems 0 (rdItems (rd D b f) [x] p))) :=
  l11Items_c H hr hM number h5 h7 h8 [x] (by simp) (fun i hi => by
    have : i = 0 := by simpa using hi
    subst this
    exact hx) p hp

private theorem tyF : ((((((bytesT Tryd.prog 25 = true ∧ tyElem Tryd.prog 25 = some 5) ∧ (tyElem Tryd.prog 28 = some 55 ∧ tyElem Tryd.prog 46 = some 9)) ∧ ((tyElem Tryd.prog 47 = some 3 ∧ tyElem Tryd.prog 50 = some 52) ∧ (tyField Tryd.prog 30 0 = some (0, 28) ∧ tyField Tryd.prog 52 0 = some (0, 3)))) ∧ (((tyField Tryd.prog 52 1 = some (1, 25) ∧ tyField Tryd.prog 52 2 = some (2, 50)) ∧ (tyField Tryd.prog 55 0 = some (0, 9) ∧ tyField Tryd.prog 55 1 = some (1, 3))) ∧ ((tyField Tryd.prog 55 2 = some (2, 3) ∧ tyField Tryd.prog 55 3 = some (3, 4)) ∧ (tyField Tryd.prog 55 4 = some (4, 25) ∧ tyField Tryd.prog 55 5 = some (5, 46))))) ∧ ((((tyField Tryd.prog 55 6 = some (6, 47) ∧ tyField Tryd.prog 55 7 = some (7, 47)) ∧ (tyK Tryd.prog 25 = some (false, 1) ∧ tyK Tryd.prog 28 = some (false, 1))) ∧ ((tyK Tryd.prog 3 = some (false, 1) ∧ tyK Tryd.prog 30 = some (true, 1)) ∧ (tyK Tryd.prog 4 = some (false, 1) ∧ tyK Tryd.prog 46 = some (false, 1)))) ∧ (((tyK Tryd.prog 47 = some (false, 1) ∧ tyK Tryd.prog 5 = some (false, 1)) ∧ (tyK Tryd.prog 50 = some (false, 1) ∧ tyK Tryd.prog 52 = some (true, 3))) ∧ ((tyK Tryd.prog 55 = some (true, 8) ∧ tyK Tryd.prog 9 = some (false, 1)) ∧ (tyPlaces Tryd.prog 30 = some [(0, 1)] ∧ (tyPlaces Tryd.prog 52 = some [(0, 1), (1, 1), (2, 1)] ∧ tyPlaces Tryd.prog 55 = some [(0, 1), (1, 1), (2, 1), (3, 1), (4, 1), (5, 1), (6, 1), (7, 1)])))))) ∧ (((((tyRow Tryd.prog 25 = some 1 ∧ tyRow Tryd.prog 28 = some 1) ∧ (tyRow Tryd.prog 3 = some 1 ∧ tyRow Tryd.prog 30 = some 1)) ∧ ((tyRow Tryd.prog 4 = some 1 ∧ tyRow Tryd.prog 46 = some 1) ∧ (tyRow Tryd.prog 47 = some 1 ∧ tyRow Tryd.prog 5 = some 1))) ∧ (((tyRow Tryd.prog 50 = some 1 ∧ tyRow Tryd.prog 52 = some 3) ∧ (tyRow Tryd.prog 55 = some 8 ∧ tyRow Tryd.prog 9 = some 1)) ∧ ((Tryd.prog.underlying 25 = some (TypeDesc.slice 5) ∧ Tryd.prog.underlying 28 = some (TypeDesc.slice 55)) ∧ (Tryd.prog.underlying 3 = some (TypeDesc.int IntKind.i64) ∧ Tryd.prog.underlying 4 = some (TypeDesc.bool))))) ∧ ((((Tryd.prog.underlying 46 = some (TypeDesc.slice 9) ∧ Tryd.prog.underlying 47 = some (TypeDesc.slice 3)) ∧ (Tryd.prog.underlying 5 = some (TypeDesc.int IntKind.u8) ∧ Tryd.prog.underlying 50 = some (TypeDesc.slice 52))) ∧ ((Tryd.prog.underlying 9 = some (TypeDesc.string) ∧ tyZero Tryd.prog 25 = some [Value.slice none 0 0]) ∧ (tyZero Tryd.prog 28 = some [Value.slice none 0 0] ∧ tyZero Tryd.prog 3 = some [Value.int IntKind.i64 0]))) ∧ (((tyZero Tryd.prog 30 = some [Value.slice none 0 0] ∧ tyZero Tryd.prog 4 = some [Value.bool false]) ∧ (tyZero Tryd.prog 46 = some [Value.slice none 0 0] ∧ tyZero Tryd.prog 47 = some [Value.slice none 0 0])) ∧ ((tyZero Tryd.prog 5 = some [Value.int IntKind.u8 0] ∧ tyZero Tryd.prog 50 = some [Value.slice none 0 0]) ∧ (tyZero Tryd.prog 52 = some [Value.int IntKind.i64 0, Value.slice none 0 0, Value.slice none 0 0] ∧ (tyZero Tryd.prog 55 = some [Value.string ByteArray.empty, Value.int IntKind.i64 0, Value.int IntKind.i64 0, Value.bool false, Value.slice none 0 0, Value.slice none 0 0, Value.slice none 0 0, Value.slice none 0 0] ∧ tyZero Tryd.prog 9 = some [Value.string ByteArray.empty]))))))) := ⟨⟨⟨⟨⟨⟨tb25, te25⟩, ⟨te28, te46⟩⟩, ⟨⟨te47, te50⟩, ⟨tf30_0, tf52_0⟩⟩⟩, ⟨⟨⟨tf52_1, tf52_2⟩, ⟨tf55_0, tf55_1⟩⟩, ⟨⟨tf55_2, tf55_3⟩, ⟨tf55_4, tf55_5⟩⟩⟩⟩, ⟨⟨⟨⟨tf55_6, tf55_7⟩, ⟨tk25, tk28⟩⟩, ⟨⟨tk3, tk30⟩, ⟨tk4, tk46⟩⟩⟩, ⟨⟨⟨tk47, tk5⟩, ⟨tk50, tk52⟩⟩, ⟨⟨tk55, tk9⟩, ⟨tp30, ⟨tp52, tp55⟩⟩⟩⟩⟩⟩, ⟨⟨⟨⟨⟨tr25, tr28⟩, ⟨tr3, tr30⟩⟩, ⟨⟨tr4, tr46⟩, ⟨tr47, tr5⟩⟩⟩, ⟨⟨⟨tr50, tr52⟩, ⟨tr55, tr9⟩⟩, ⟨⟨tu25, tu28⟩, ⟨tu3, tu4⟩⟩⟩⟩, ⟨⟨⟨⟨tu46, tu47⟩, ⟨tu5, tu50⟩⟩, ⟨⟨tu9, tz25⟩, ⟨tz28, tz3⟩⟩⟩, ⟨⟨⟨tz30, tz4⟩, ⟨tz46, tz47⟩⟩, ⟨⟨tz5, tz50⟩, ⟨tz52, ⟨tz55, tz9⟩⟩⟩⟩⟩⟩⟩
set_option maxRecDepth 100000 in
set_option maxHeartbeats 1000000 in
theorem l11Choice_c (hD : DB M D) (hM : M ≤ 1048576) (hb : b.length ≤ 1048576) {f : Nat} (H : ReadOK D b f) {n : Nat} {r : RuleD} (hr : D[n]? = some r) (hn : n ≤ f) (G : GoodR D n r) (hk : r.kind = 7) (p : Nat) (hp : p ≤ b.length) : AC Tryd.prog 46 [.d (encD D), .d (encR r), .d (encB b), .d (iD p)] none (fun r' _ => r' = rdR (rd D b (f + 1) n p)) := by
  have hrb := hD.rule r (List.mem_of_getElem? hr)
  obtain ⟨g1, g2⟩ := G.k7 hk
  obtain ⟨j, q, ej, hj, hq, hqr⟩ := kid_int g2
  have hkid : r.kids[0]? = some (j : Int) := by rw [kids0 (by omega), ej]
  have hrd := ruleD_get hr
  have hnl : n < D.length := (List.getElem?_eq_some_iff.1 hr).1
  cases hi : intAt q b p with
  | none =>
    refine calls_body Tryd.func46 rfl Tryd.call46 Tryd.ntmps46 (by simp) (by simp [ArgsOk]) (by simp [Rz.nkL, Rz.nk]) fun en hsz hks hk0 => ?_; simp only [St.init, frOf, Rz.addSL, Rz.addS, Rz.toAL, Rz.toA, Rz.nk, List.zipIdx_cons, List.zipIdx_nil, List.map_cons, List.map_nil, Nat.zero_add, Nat.reduceAdd]
    (repeat (first | refine walkS ?_ | (refine callPre ?_; (first | refine callN_funS rfl ((l11Integer_c hD hM hb hj hq p hp).eqv (r1 := .d (.tup [iD 0, iD p, bD false])) (by rw [intR, intRes_none hi]; rfl)) ?_)) | (refine callPreL ?_; (first | refine callL_funS rfl ((l11Integer_c hD hM hb hj hq p hp).eqv (r1 := .d (.tup [iD 0, iD p, bD false])) (by rw [intR, intRes_none hi]; rfl)) ?_))))
    refine aw_condS rfl (fun hc => ?_) (fun hc => ?_)
    · refine walkS ?_
      (refine aw_ret ?_; (simp only [Fin, Tryd.results46]; refine finS ?_); refine ⟨_, [], .inr (.inl ⟨.tup [encV V0, iD (p : Int), iD 1], rfl, rfl, ?_⟩), List.nodup_nil, by rw [rd_7n hrd hk (by rw [hqr]; exact hi)]; rfl⟩; exact wkDS)
    · cases hc
  | some m =>
    obtain ⟨hi1, hi2⟩ := intAt_in hi hp
    cases ht : tagIx r.tags m with
    | none =>
      refine calls_body Tryd.func46 rfl Tryd.call46 Tryd.ntmps46 (by simp) (by simp [ArgsOk]) (by simp [Rz.nkL, Rz.nk]) fun en hsz hks hk0 => ?_; simp only [St.init, frOf, Rz.addSL, Rz.addS, Rz.toAL, Rz.toA, Rz.nk, List.zipIdx_cons, List.zipIdx_nil, List.map_cons, List.map_nil, Nat.zero_add, Nat.reduceAdd]
      (repeat (first | refine walkS ?_ | (refine callPre ?_; (first | refine callN_funS rfl ((l11Integer_c hD hM hb hj hq p hp).eqv (r1 := .d (.tup [iD (m : Nat), iD ((p + q.size.toNat : Nat) : Int), bD true])) (by rw [intR, intRes_some hi])) ?_ | refine callN_funS rfl ((l9Item_c hrb hM (m : Nat) 0 (by omega) (by omega) (by omega)).eqv (r1 := .d (iD (-1))) (by rw [itemK_7n hk ht])) ?_)) | (refine callPreL ?_; (first | refine callL_funS rfl ((l11Integer_c hD hM hb hj hq p hp).eqv (r1 := .d (.tup [iD (m : Nat), iD ((p + q.size.toNat : Nat) : Int), bD true])) (by rw [intR, intRes_some hi])) ?_ | refine callL_funS rfl ((l9Item_c hrb hM (m : Nat) 0 (by omega) (by omega) (by omega)).eqv (r1 := .d (iD (-1))) (by rw [itemK_7n hk ht])) ?_))))
      refine aw_condS rfl (fun hc => ?_) (fun hc => ?_)
      · cases hc
      (repeat (first | refine walkS ?_ | (refine callPre ?_; (first | refine callN_funS rfl ((l9Item_c hrb hM (m : Nat) 0 (by omega) (by omega) (by omega)).eqv (r1 := .d (iD (-1))) (by rw [itemK_7n hk ht])) ?_)) | (refine callPreL ?_; (first | refine callL_funS rfl ((l9Item_c hrb hM (m : Nat) 0 (by omega) (by omega) (by omega)).eqv (r1 := .d (iD (-1))) (by rw [itemK_7n hk ht])) ?_))))
      refine aw_condS rfl (fun hc => ?_) (fun hc => ?_)
      · refine walkS ?_
        (refine aw_ret ?_; (simp only [Fin, Tryd.results46]; refine finS ?_); refine ⟨_, [], .inr (.inl ⟨.tup [encV V0, iD (p : Int), iD 3], rfl, rfl, ?_⟩), List.nodup_nil, by rw [rd_7t hrd hk (by rw [hqr]; exact hi) ht]; rfl⟩; exact wkDS)
      · (first | exact absurd trivial hc | exact absurd rfl hc | (cases hc; done) | omega | exact absurd hc (by decide) | (simp at hc; done))
    | some k =>
      have hkl := tagIx_lt ht
      obtain ⟨x, hx⟩ : ∃ x : Nat, r.kids[k + 1]'(by omega) = (x : Int) := ⟨(r.kids[k + 1]'(by omega)).toNat, by have := (G.kid (k + 1) (by omega)).1; omega⟩
      have hxn : x < n := by have := (G.kid (k + 1) (by omega)).2; omega
      have hxd : (r.kids.getD (k + 1) 0).toNat = x := by rw [List.getD_eq_getElem?_getD, List.getElem?_eq_getElem (by omega), Option.getD_some, hx]; omega
      have hit : itemK r m 0 = (x : Int) := by rw [itemK_7 hk ht (by omega), hx]
      have hfin := rd_7s (f := f) hrd hk (by rw [hqr]; exact hi) ht
      rw [hxd, hqr] at hfin
      have HI := l11Items_1 H hrb hM (m : Nat) (by omega) (by omega) (by omega) ⟨hit, by omega, by omega⟩ (p + q.size.toNat) (by omega)
      generalize rdItems (rd D b f) [x] (p + q.size.toNat) = y at HI hfin
      obtain ⟨vs, q2, c⟩ := y
      by_cases hc0 : c = 0
      · subst hc0
        refine calls_body Tryd.func46 rfl Tryd.call46 Tryd.ntmps46 (by simp) (by simp [ArgsOk]) (by simp [Rz.nkL, Rz.nk]) fun en hsz hks hk0 => ?_; simp only [St.init, frOf, Rz.addSL, Rz.addS, Rz.toAL, Rz.toA, Rz.nk, List.zipIdx_cons, List.zipIdx_nil, List.map_cons, List.map_nil, Nat.zero_add, Nat.reduceAdd]
        (repeat (first | refine walkS ?_ | (refine callPre ?_; (first | refine callN_funS rfl ((l11Integer_c hD hM hb hj hq p hp).eqv (r1 := .d (.tup [iD (m : Nat), iD ((p + q.size.toNat : Nat) : Int), bD true])) (by rw [intR, intRes_some hi])) ?_)) | (refine callPreL ?_; (first | refine callL_funS rfl ((l11Integer_c hD hM hb hj hq p hp).eqv (r1 := .d (.tup [iD (m : Nat), iD ((p + q.size.toNat : Nat) : Int), bD true])) (by rw [intR, intRes_some hi])) ?_))))
        refine aw_condS rfl (fun hc => ?_) (fun hc => ?_)
        · cases hc
        (repeat (first | refine walkS ?_ | (refine callPre ?_; (first | refine callN_funS rfl ((l9Item_c hrb hM (m : Nat) 0 (by omega) (by omega) (by omega)).eqv (r1 := .d (iD (x : Nat))) (by rw [hit])) ?_)) | (refine callPreL ?_; (first | refine callL_funS rfl ((l9Item_c hrb hM (m : Nat) 0 (by omega) (by omega) (by omega)).eqv (r1 := .d (iD (x : Nat))) (by rw [hit])) ?_))))
        refine aw_condS rfl (fun hc => ?_) (fun hc => ?_)
        · omega
        (repeat (first | refine walkS ?_ | (refine callPre ?_; (first | refine callN_funS rfl (HI.eqv (r1 := .d (.tup [encV (.mk 0 [] vs), iD q2, iD 0])) rfl) ?_)) | (refine callPreL ?_; (first | refine callL_funS rfl (HI.eqv (r1 := .d (.tup [encV (.mk 0 [] vs), iD q2, iD 0])) rfl) ?_))))
        refine aw_condS rfl (fun hc => ?_) (fun hc => ?_)
        · refine walkS ?_
          (refine aw_ret ?_; (simp only [Fin, Tryd.results46]; refine finS ?_); refine ⟨_, [], .inr (.inl ⟨.tup [encV (.mk m [] vs), iD (q2 : Int), iD 0], rfl, rfl, ?_⟩), List.nodup_nil, by rw [hfin]; rfl⟩; exact wkDS)
        · exact absurd rfl hc
      · have e0 : mkItems 0 (vs, q2, c) = (V0, q2, c) := by simp [mkItems, hc0]
        have e1 : mkItems m (vs, q2, c) = (V0, q2, c) := by simp [mkItems, hc0]
        refine calls_body Tryd.func46 rfl Tryd.call46 Tryd.ntmps46 (by simp) (by simp [ArgsOk]) (by simp [Rz.nkL, Rz.nk]) fun en hsz hks hk0 => ?_; simp only [St.init, frOf, Rz.addSL, Rz.addS, Rz.toAL, Rz.toA, Rz.nk, List.zipIdx_cons, List.zipIdx_nil, List.map_cons, List.map_nil, Nat.zero_add, Nat.reduceAdd]
        (repeat (first | refine walkS ?_ | (refine callPre ?_; (first | refine callN_funS rfl ((l11Integer_c hD hM hb hj hq p hp).eqv (r1 := .d (.tup [iD (m : Nat), iD ((p + q.size.toNat : Nat) : Int), bD true])) (by rw [intR, intRes_some hi])) ?_)) | (refine callPreL ?_; (first | refine callL_funS rfl ((l11Integer_c hD hM hb hj hq p hp).eqv (r1 := .d (.tup [iD (m : Nat), iD ((p + q.size.toNat : Nat) : Int), bD true])) (by rw [intR, intRes_some hi])) ?_))))
        refine aw_condS rfl (fun hc => ?_) (fun hc => ?_)
        · cases hc
        (repeat (first | refine walkS ?_ | (refine callPre ?_; (first | refine callN_funS rfl ((l9Item_c hrb hM (m : Nat) 0 (by omega) (by omega) (by omega)).eqv (r1 := .d (iD (x : Nat))) (by rw [hit])) ?_)) | (refine callPreL ?_; (first | refine callL_funS rfl ((l9Item_c hrb hM (m : Nat) 0 (by omega) (by omega) (by omega)).eqv (r1 := .d (iD (x : Nat))) (by rw [hit])) ?_))))
        refine aw_condS rfl (fun hc => ?_) (fun hc => ?_)
        · omega
        (repeat (first | refine walkS ?_ | (refine callPre ?_; (first | refine callN_funS rfl (HI.eqv (r1 := .d (.tup [encV V0, iD q2, iD c])) (by rw [e0])) ?_)) | (refine callPreL ?_; (first | refine callL_funS rfl (HI.eqv (r1 := .d (.tup [encV V0, iD q2, iD c])) (by rw [e0])) ?_))))
        refine aw_condS rfl (fun hc => ?_) (fun hc => ?_)
        · omega
        · refine walkS ?_
          (refine aw_ret ?_; (simp only [Fin, Tryd.results46]; refine finS ?_); refine ⟨_, [], .inr (.inl ⟨.tup [encV V0, iD (q2 : Int), iD (c : Int)], rfl, rfl, ?_⟩), List.nodup_nil, by rw [hfin, e1]⟩; exact wkDS)
end
end Go.Proofs.YtoegmaebdihnaaaDoor.Eng
