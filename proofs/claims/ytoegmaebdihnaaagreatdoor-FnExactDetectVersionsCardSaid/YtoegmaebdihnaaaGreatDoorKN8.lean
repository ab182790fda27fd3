/-
  The reference's reader.
-/
import Derived.Test.YtoegmaebdihnaaaGreatDoorKN7
set_option linter.unusedSimpArgs false
set_option linter.unusedVariables false
namespace Go.Proofs.YtoegmaebdihnaaaGreatDoor.Eng
open Go Go.RowKit

section
variable {M : Nat} {D : List RuleD} {b : List UInt8}
theorem head_get {l : List UInt8} (h : l.length = 1) : l[0]? = some (l.headD 0) := by
  match l, h with
  | [x], _ => rfl
theorem seq_ks {n f : Nat} {r : RuleD} (G : GoodR D n r) (hk : r.kind = 6) (hn : n ≤ f) (hnl : n < D.length) : ∀ i (hi : i < (r.kids.map Int.toNat).length), itemK r 0 i = (((r.kids.map Int.toNat)[i] : Nat) : Int) ∧ (r.kids.map Int.toNat)[i] < f ∧ (r.kids.map Int.toNat)[i] < D.length := fun i hi => by
  have hi' : i < r.kids.length := by simpa using hi
  have := G.kid i hi'
  rw [itemK_6 hk hi', List.getElem_map]
  omega

private theorem tyF : ((((((bytesT Tryz.prog 25 = true ∧ tyElem Tryz.prog 104 = some 9) ∧ (tyElem Tryz.prog 25 = some 5 ∧ tyElem Tryz.prog 28 = some 107)) ∧ ((tyElem Tryz.prog 39 = some 41 ∧ tyElem Tryz.prog 54 = some 3) ∧ (tyField Tryz.prog 107 0 = some (0, 9) ∧ tyField Tryz.prog 107 1 = some (1, 3)))) ∧ (((tyField Tryz.prog 107 2 = some (2, 3) ∧ tyField Tryz.prog 107 3 = some (3, 4)) ∧ (tyField Tryz.prog 107 4 = some (4, 25) ∧ tyField Tryz.prog 107 5 = some (5, 104))) ∧ ((tyField Tryz.prog 107 6 = some (6, 54) ∧ tyField Tryz.prog 107 7 = some (7, 54)) ∧ (tyField Tryz.prog 30 0 = some (0, 28) ∧ tyField Tryz.prog 41 0 = some (0, 3))))) ∧ ((((tyField Tryz.prog 41 1 = some (1, 25) ∧ tyField Tryz.prog 41 2 = some (2, 39)) ∧ (tyK Tryz.prog 104 = some (false, 1) ∧ tyK Tryz.prog 107 = some (true, 8))) ∧ ((tyK Tryz.prog 25 = some (false, 1) ∧ tyK Tryz.prog 28 = some (false, 1)) ∧ (tyK Tryz.prog 3 = some (false, 1) ∧ tyK Tryz.prog 30 = some (true, 1)))) ∧ (((tyK Tryz.prog 39 = some (false, 1) ∧ tyK Tryz.prog 4 = some (false, 1)) ∧ (tyK Tryz.prog 41 = some (true, 3) ∧ tyK Tryz.prog 5 = some (false, 1))) ∧ ((tyK Tryz.prog 54 = some (false, 1) ∧ tyK Tryz.prog 9 = some (false, 1)) ∧ (tyPlaces Tryz.prog 107 = some [(0, 1), (1, 1), (2, 1), (3, 1), (4, 1), (5, 1), (6, 1), (7, 1)] ∧ (tyPlaces Tryz.prog 30 = some [(0, 1)] ∧ tyPlaces Tryz.prog 41 = some [(0, 1), (1, 1), (2, 1)])))))) ∧ (((((tyRow Tryz.prog 104 = some 1 ∧ tyRow Tryz.prog 107 = some 8) ∧ (tyRow Tryz.prog 25 = some 1 ∧ tyRow Tryz.prog 28 = some 1)) ∧ ((tyRow Tryz.prog 3 = some 1 ∧ tyRow Tryz.prog 30 = some 1) ∧ (tyRow Tryz.prog 39 = some 1 ∧ tyRow Tryz.prog 4 = some 1))) ∧ (((tyRow Tryz.prog 41 = some 3 ∧ tyRow Tryz.prog 5 = some 1) ∧ (tyRow Tryz.prog 54 = some 1 ∧ tyRow Tryz.prog 9 = some 1)) ∧ ((Tryz.prog.underlying 104 = some (TypeDesc.slice 9) ∧ Tryz.prog.underlying 25 = some (TypeDesc.slice 5)) ∧ (Tryz.prog.underlying 28 = some (TypeDesc.slice 107) ∧ Tryz.prog.underlying 3 = some (TypeDesc.int IntKind.i64))))) ∧ ((((Tryz.prog.underlying 39 = some (TypeDesc.slice 41) ∧ Tryz.prog.underlying 4 = some (TypeDesc.bool)) ∧ (Tryz.prog.underlying 5 = some (TypeDesc.int IntKind.u8) ∧ Tryz.prog.underlying 54 = some (TypeDesc.slice 3))) ∧ ((Tryz.prog.underlying 9 = some (TypeDesc.string) ∧ tyZero Tryz.prog 104 = some [Value.slice none 0 0]) ∧ (tyZero Tryz.prog 107 = some [Value.string ByteArray.empty, Value.int IntKind.i64 0, Value.int IntKind.i64 0, Value.bool false, Value.slice none 0 0, Value.slice none 0 0, Value.slice none 0 0, Value.slice none 0 0] ∧ tyZero Tryz.prog 25 = some [Value.slice none 0 0]))) ∧ (((tyZero Tryz.prog 28 = some [Value.slice none 0 0] ∧ tyZero Tryz.prog 3 = some [Value.int IntKind.i64 0]) ∧ (tyZero Tryz.prog 30 = some [Value.slice none 0 0] ∧ tyZero Tryz.prog 39 = some [Value.slice none 0 0])) ∧ ((tyZero Tryz.prog 4 = some [Value.bool false] ∧ tyZero Tryz.prog 41 = some [Value.int IntKind.i64 0, Value.slice none 0 0, Value.slice none 0 0]) ∧ (tyZero Tryz.prog 5 = some [Value.int IntKind.u8 0] ∧ (tyZero Tryz.prog 54 = some [Value.slice none 0 0] ∧ tyZero Tryz.prog 9 = some [Value.string ByteArray.empty]))))))) := ⟨⟨⟨⟨⟨⟨tb25, te104⟩, ⟨te25, te28⟩⟩, ⟨⟨te39, te54⟩, ⟨tf107_0, tf107_1⟩⟩⟩, ⟨⟨⟨tf107_2, tf107_3⟩, ⟨tf107_4, tf107_5⟩⟩, ⟨⟨tf107_6, tf107_7⟩, ⟨tf30_0, tf41_0⟩⟩⟩⟩, ⟨⟨⟨⟨tf41_1, tf41_2⟩, ⟨tk104, tk107⟩⟩, ⟨⟨tk25, tk28⟩, ⟨tk3, tk30⟩⟩⟩, ⟨⟨⟨tk39, tk4⟩, ⟨tk41, tk5⟩⟩, ⟨⟨tk54, tk9⟩, ⟨tp107, ⟨tp30, tp41⟩⟩⟩⟩⟩⟩, ⟨⟨⟨⟨⟨tr104, tr107⟩, ⟨tr25, tr28⟩⟩, ⟨⟨tr3, tr30⟩, ⟨tr39, tr4⟩⟩⟩, ⟨⟨⟨tr41, tr5⟩, ⟨tr54, tr9⟩⟩, ⟨⟨tu104, tu25⟩, ⟨tu28, tu3⟩⟩⟩⟩, ⟨⟨⟨⟨tu39, tu4⟩, ⟨tu5, tu54⟩⟩, ⟨⟨tu9, tz104⟩, ⟨tz107, tz25⟩⟩⟩, ⟨⟨⟨tz28, tz3⟩, ⟨tz30, tz39⟩⟩, ⟨⟨tz4, tz41⟩, ⟨tz5, ⟨tz54, tz9⟩⟩⟩⟩⟩⟩⟩
set_option maxRecDepth 100000 in
set_option maxHeartbeats 4000000 in
theorem l11Read_step (hD : DB M D) (hM : M ≤ 1048576) (hb : b.length ≤ 1048576) (hV : descP D) {f : Nat} (H : ReadOK D b f) : ReadOK D b (f + 1) := fun n p hnf hnl hp => by
  obtain ⟨r, hr⟩ : ∃ r, D[n]? = some r := ⟨_, List.getElem?_eq_getElem hnl⟩
  have G : GoodR D n r := good_of hV hr
  have hrb := hD.rule r (List.mem_of_getElem? hr)
  have hrd := ruleD_get hr
  have hn : n ≤ f := by omega
  have hlk := hrb.lk
  obtain ⟨kd1, kd2⟩ := G.kd
  refine calls_body Tryz.func70 rfl Tryz.call70 Tryz.ntmps70 (by simp) (by simp [ArgsOk]) (by simp [Rz.nkL, Rz.nk]) fun en hsz hks hk0 => ?_; simp only [St.init, frOf, Rz.addSL, Rz.addS, Rz.toAL, Rz.toA, Rz.nk, List.zipIdx_cons, List.zipIdx_nil, List.map_cons, List.map_nil, Nat.zero_add, Nat.reduceAdd]
  refine walkS ?_
  refine aw_condS rfl (fun n1 => ?_) (fun n1 => ?_)
  · cases hi : intAt r b p with
    | none =>
      (repeat (first | refine walkS ?_ | (refine callPre ?_; (first | refine callN_funS rfl ((l11Integer_c hD hM hb hr (G.k1 n1) p hp).eqv (r1 := .d (.tup [iD 0, iD p, bD false])) (by rw [intR, intRes_none hi]; rfl)) ?_)) | (refine callPreL ?_; (first | refine callL_funS rfl ((l11Integer_c hD hM hb hr (G.k1 n1) p hp).eqv (r1 := .d (.tup [iD 0, iD p, bD false])) (by rw [intR, intRes_none hi]; rfl)) ?_))))
      refine aw_condS rfl (fun hc => ?_) (fun hc => ?_)
      · refine walkS ?_
        (refine aw_ret ?_; (simp only [Fin, Tryz.results70]; refine finS ?_); refine ⟨_, [], .inr (.inl ⟨.tup [encV V0, iD (p : Int), iD 1], rfl, rfl, ?_⟩), List.nodup_nil, by rw [rd_1n hrd n1 hi]; rfl⟩; exact wkDS)
      · cases hc
    | some m =>
      (repeat (first | refine walkS ?_ | (refine callPre ?_; (first | refine callN_funS rfl ((l11Integer_c hD hM hb hr (G.k1 n1) p hp).eqv (r1 := .d (.tup [iD (m : Nat), iD ((p + r.size.toNat : Nat) : Int), bD true])) (by rw [intR, intRes_some hi])) ?_)) | (refine callPreL ?_; (first | refine callL_funS rfl ((l11Integer_c hD hM hb hr (G.k1 n1) p hp).eqv (r1 := .d (.tup [iD (m : Nat), iD ((p + r.size.toNat : Nat) : Int), bD true])) (by rw [intR, intRes_some hi])) ?_))))
      refine aw_condS rfl (fun hc => ?_) (fun hc => ?_)
      · cases hc
      · refine walkS ?_
        (refine aw_ret ?_; (simp only [Fin, Tryz.results70]; refine finS ?_); refine ⟨_, [], .inr (.inl ⟨.tup [encV (.mk m [] []), iD ((p + r.size.toNat : Nat) : Int), iD 0], rfl, rfl, ?_⟩), List.nodup_nil, by rw [rd_1s hrd n1 hi]; rfl⟩; exact wkDS)
  refine walkS ?_
  refine aw_condS rfl (fun n2 => ?_) (fun n2 => ?_)
  · (repeat (first | refine walkS ?_ | (refine callPre ?_; (first | refine callN_funS rfl (l11Const_c hrb hM hb p hp) ?_)) | (refine callPreL ?_; (first | refine callL_funS rfl (l11Const_c hrb hM hb p hp) ?_))))
    (refine aw_ret ?_; (simp only [Fin, Tryz.results70]; refine finS ?_); exact ⟨_, _, .inl ⟨rfl, rfl⟩, List.nodup_nil, by rw [rd_2 hrd n2]⟩)
  refine walkS ?_
  refine aw_condS rfl (fun n3 => ?_) (fun n3 => ?_)
  · have hk3 := G.k3 n3
    have HB := l11Bytes_c hb p hp r.size.toNat (by omega)
    rw [Int.toNat_of_nonneg (by omega)] at HB
    (repeat (first | refine walkS ?_ | (refine callPre ?_; (first | refine callN_funS rfl (HB) ?_)) | (refine callPreL ?_; (first | refine callL_funS rfl (HB) ?_))))
    (refine aw_ret ?_; (simp only [Fin, Tryz.results70]; refine finS ?_); exact ⟨_, _, .inl ⟨rfl, rfl⟩, List.nodup_nil, by rw [rd_3 hrd n3]⟩)
  refine walkS ?_
  refine aw_condS rfl (fun n10 => ?_) (fun n10 => ?_)
  · have hh := head_get (G.k10 n10)
    cases ht : readTerm b p (r.bytes.headD 0) with
    | none =>
      (repeat (first | refine walkS ?_ | (refine callPre ?_; (first | refine callN_funS rfl ((rtS_c hb p hp (r.bytes.headD 0)).eqv (r1 := .d (.tup [encB [], iD p, bD false])) (by rw [rtR, rdT, ht])) ?_)) | (refine callPreL ?_; (first | refine callL_funS rfl ((rtS_c hb p hp (r.bytes.headD 0)).eqv (r1 := .d (.tup [encB [], iD p, bD false])) (by rw [rtR, rdT, ht])) ?_))))
      refine aw_condS rfl (fun hc => ?_) (fun hc => ?_)
      · refine walkS ?_
        (refine aw_ret ?_; (simp only [Fin, Tryz.results70]; refine finS ?_); refine ⟨_, [], .inr (.inl ⟨.tup [encV V0, iD (p : Int), iD 1], rfl, rfl, ?_⟩), List.nodup_nil, by rw [rd_10n hrd n10 ht]; rfl⟩; exact wkDS)
      · cases hc
    | some y =>
      (repeat (first | refine walkS ?_ | (refine callPre ?_; (first | refine callN_funS rfl ((rtS_c hb p hp (r.bytes.headD 0)).eqv (r1 := .d (.tup [encB y.1, iD (y.2 : Nat), bD true])) (by rw [rtR, rdT, ht])) ?_)) | (refine callPreL ?_; (first | refine callL_funS rfl ((rtS_c hb p hp (r.bytes.headD 0)).eqv (r1 := .d (.tup [encB y.1, iD (y.2 : Nat), bD true])) (by rw [rtR, rdT, ht])) ?_))))
      refine aw_condS rfl (fun hc => ?_) (fun hc => ?_)
      · cases hc
      · refine walkS ?_
        (refine aw_ret ?_; (simp only [Fin, Tryz.results70]; refine finS ?_); refine ⟨_, [], .inr (.inl ⟨.tup [encV (.mk 0 y.1 []), iD (y.2 : Nat), iD 0], rfl, rfl, ?_⟩), List.nodup_nil, by rw [rd_10s hrd n10 ht]; rfl⟩; exact wkDS)
  refine walkS ?_
  refine aw_condS rfl (fun n6 => ?_) (fun n6 => ?_)
  · have HI := l11Items_c H hrb hM 0 (by omega) (by omega) (by omega) (r.kids.map Int.toNat) (by simp; omega) (seq_ks G n6 hn hnl) p hp
    rw [List.length_map] at HI
    (repeat (first | refine walkS ?_ | (refine callPre ?_; (first | refine callN_funS rfl (HI) ?_)) | (refine callPreL ?_; (first | refine callL_funS rfl (HI) ?_))))
    (refine aw_ret ?_; (simp only [Fin, Tryz.results70]; refine finS ?_); exact ⟨_, _, .inl ⟨rfl, rfl⟩, List.nodup_nil, by rw [rd_6 hrd n6]⟩)
  refine walkS ?_
  refine aw_condS rfl (fun n7 => ?_) (fun n7 => ?_)
  · (repeat (first | refine walkS ?_ | (refine callPre ?_; (first | refine callN_funS rfl (l11Choice_c hD hM hb H hr hn G n7 p hp) ?_)) | (refine callPreL ?_; (first | refine callL_funS rfl (l11Choice_c hD hM hb H hr hn G n7 p hp) ?_))))
    (refine aw_ret ?_; (simp only [Fin, Tryz.results70]; refine finS ?_); exact ⟨_, _, .inl ⟨rfl, rfl⟩, List.nodup_nil, rfl⟩)
  refine walkS ?_
  refine aw_condS rfl (fun n8 => ?_) (fun n8 => ?_)
  · (repeat (first | refine walkS ?_ | (refine callPre ?_; (first | refine callN_funS rfl (l11Option_c hD hM hb H hr hn G n8 p hp) ?_)) | (refine callPreL ?_; (first | refine callL_funS rfl (l11Option_c hD hM hb H hr hn G n8 p hp) ?_))))
    (refine aw_ret ?_; (simp only [Fin, Tryz.results70]; refine finS ?_); exact ⟨_, _, .inl ⟨rfl, rfl⟩, List.nodup_nil, rfl⟩)
  refine walkS ?_
  refine aw_condS rfl (fun n9 => ?_) (fun n9 => ?_)
  · (repeat (first | refine walkS ?_ | (refine callPre ?_; (first | refine callN_funS rfl (l11Checked_c hD hM hb H hr hn G n9 p hp) ?_)) | (refine callPreL ?_; (first | refine callL_funS rfl (l11Checked_c hD hM hb H hr hn G n9 p hp) ?_))))
    (refine aw_ret ?_; (simp only [Fin, Tryz.results70]; refine finS ?_); exact ⟨_, _, .inl ⟨rfl, rfl⟩, List.nodup_nil, rfl⟩)
  have h45 : r.kind = 4 ∨ r.kind = 5 := by omega
  have hl0 : 0 ≤ limD D (kid0 r) := by
    rcases h45 with h | h
    · have := (G.k4 h).2; omega
    · have := (G.k5 h).2; omega
  have hkl : 0 < r.kids.length := by
    rcases h45 with h | h
    · have := (G.k4 h).1; omega
    · have := (G.k5 h).1; omega
  obtain ⟨j, q, ej, hj, hq, hqr⟩ := kid_int hl0
  have hkid : r.kids[0]? = some (j : Int) := by rw [kids0 hkl, ej]
  cases hi : intAt q b p with
  | none =>
    have hfin := rd_45n (f := f) hrd h45 (by rw [hqr]; exact hi)
    (repeat (first | refine walkS ?_ | (refine callPre ?_; (first | refine callN_funS rfl ((l11Integer_c hD hM hb hj hq p hp).eqv (r1 := .d (.tup [iD 0, iD p, bD false])) (by rw [intR, intRes_none hi]; rfl)) ?_)) | (refine callPreL ?_; (first | refine callL_funS rfl ((l11Integer_c hD hM hb hj hq p hp).eqv (r1 := .d (.tup [iD 0, iD p, bD false])) (by rw [intR, intRes_none hi]; rfl)) ?_))))
    refine aw_condS rfl (fun hc => ?_) (fun hc => ?_)
    · refine walkS ?_
      (refine aw_ret ?_; (simp only [Fin, Tryz.results70]; refine finS ?_); refine ⟨_, [], .inr (.inl ⟨.tup [encV V0, iD (p : Int), iD 1], rfl, rfl, ?_⟩), List.nodup_nil, by rw [hfin]; rfl⟩; exact wkDS)
    · cases hc
  | some m =>
    obtain ⟨hi1, hi2⟩ := intAt_in hi hp
    (repeat (first | refine walkS ?_ | (refine callPre ?_; (first | refine callN_funS rfl ((l11Integer_c hD hM hb hj hq p hp).eqv (r1 := .d (.tup [iD (m : Nat), iD ((p + q.size.toNat : Nat) : Int), bD true])) (by rw [intR, intRes_some hi])) ?_)) | (refine callPreL ?_; (first | refine callL_funS rfl ((l11Integer_c hD hM hb hj hq p hp).eqv (r1 := .d (.tup [iD (m : Nat), iD ((p + q.size.toNat : Nat) : Int), bD true])) (by rw [intR, intRes_some hi])) ?_))))
    refine aw_condS rfl (fun hc => ?_) (fun hc => ?_)
    · cases hc
    refine walkS ?_
    refine aw_condS rfl (fun n4 => ?_) (fun n4 => ?_)
    · have hfin := rd_4s (f := f) hrd n4 (by rw [hqr]; exact hi)
      rw [hqr] at hfin
      (repeat (first | refine walkS ?_ | (refine callPre ?_; (first | refine callN_funS rfl (l11Bytes_c hb (p + q.size.toNat) (by omega) m (by omega)) ?_)) | (refine callPreL ?_; (first | refine callL_funS rfl (l11Bytes_c hb (p + q.size.toNat) (by omega) m (by omega)) ?_))))
      (refine aw_ret ?_; (simp only [Fin, Tryz.results70]; refine finS ?_); exact ⟨_, _, .inl ⟨rfl, rfl⟩, List.nodup_nil, by rw [hfin]⟩)
    refine walkS ?_
    refine aw_condS rfl (fun n40 => ?_) (fun n40 => ?_)
    · have hfin := rd_5c (f := f) hrd (by omega) (by rw [hqr]; exact hi) (by omega)
      refine walkS ?_
      (refine aw_ret ?_; (simp only [Fin, Tryz.results70]; refine finS ?_); refine ⟨_, [], .inr (.inl ⟨.tup [encV V0, iD (p : Int), iD 6], rfl, rfl, ?_⟩), List.nodup_nil, by rw [hfin]; rfl⟩; exact wkDS)
    · have k5 : r.kind = 5 := by omega
      have g5 := (G.k5 k5).1
      have hfin := rd_5s (f := f) hrd k5 (by rw [hqr]; exact hi) (by omega)
      rw [hqr] at hfin
      obtain ⟨x, hx⟩ : ∃ x : Nat, kid1 r = (x : Int) ∧ x < n := by
        have h1 := kids1 (r := r) (by omega)
        have h2 := G.kid 1 (by omega)
        rw [List.getElem?_eq_getElem (by omega)] at h1
        have h3 := Option.some.inj h1
        exact ⟨(kid1 r).toNat, by omega, by omega⟩
      rw [show (kid1 r).toNat = x by omega] at hfin
      have HI := l11Items_n H hrb hM 0 (by omega) (by omega) (by omega) m (by omega) (fun i => (itemK_5 (i := i) (n := 0) k5).trans hx.1) ⟨by omega, by omega⟩ (p + q.size.toNat) (by omega)
      (repeat (first | refine walkS ?_ | (refine callPre ?_; (first | refine callN_funS rfl (HI) ?_)) | (refine callPreL ?_; (first | refine callL_funS rfl (HI) ?_))))
      (refine aw_ret ?_; (simp only [Fin, Tryz.results70]; refine finS ?_); exact ⟨_, _, .inl ⟨rfl, rfl⟩, List.nodup_nil, by rw [hfin]⟩)
theorem l11Read_all (hD : DB M D) (hM : M ≤ 1048576) (hb : b.length ≤ 1048576) (hV : descP D) : ∀ f, ReadOK D b f
  | 0 => fun n p h => by omega
  | f + 1 => l11Read_step hD hM hb hV (l11Read_all hD hM hb hV f)
end
end Go.Proofs.YtoegmaebdihnaaaGreatDoor.Eng
