/-
  The program's reader: a value of a rule.
-/
import Derived.Test.YtoegmaebdihnaaaGreatDoorKN27
import Derived.Test.YtoegmaebdihnaaaGreatDoorKN30
import Derived.Test.YtoegmaebdihnaaaGreatDoorKN31
set_option linter.unusedSimpArgs false
set_option linter.unusedVariables false
namespace Go.Proofs.YtoegmaebdihnaaaGreatDoor.Eng
open Go Go.RowKit

section
variable {M : Nat} {D : List RuleD} {b : List UInt8}
private theorem tyF : ((((((bytesT Tryz.prog 25 = true ∧ tyElem Tryz.prog 104 = some 9) ∧ (tyElem Tryz.prog 25 = some 5 ∧ (tyElem Tryz.prog 28 = some 107 ∧ tyElem Tryz.prog 39 = some 41))) ∧ ((tyElem Tryz.prog 54 = some 3 ∧ tyField Tryz.prog 107 0 = some (0, 9)) ∧ (tyField Tryz.prog 107 1 = some (1, 3) ∧ (tyField Tryz.prog 107 2 = some (2, 3) ∧ tyField Tryz.prog 107 3 = some (3, 4))))) ∧ (((tyField Tryz.prog 107 4 = some (4, 25) ∧ tyField Tryz.prog 107 5 = some (5, 104)) ∧ (tyField Tryz.prog 107 6 = some (6, 54) ∧ (tyField Tryz.prog 107 7 = some (7, 54) ∧ tyField Tryz.prog 30 0 = some (0, 28)))) ∧ ((tyField Tryz.prog 41 0 = some (0, 3) ∧ tyField Tryz.prog 41 1 = some (1, 25)) ∧ (tyField Tryz.prog 41 2 = some (2, 39) ∧ (tyField Tryz.prog 81 0 = some (0, 30) ∧ tyField Tryz.prog 81 1 = some (1, 25)))))) ∧ ((((tyK Tryz.prog 104 = some (false, 1) ∧ tyK Tryz.prog 107 = some (true, 8)) ∧ (tyK Tryz.prog 25 = some (false, 1) ∧ (tyK Tryz.prog 28 = some (false, 1) ∧ tyK Tryz.prog 3 = some (false, 1)))) ∧ ((tyK Tryz.prog 30 = some (true, 1) ∧ tyK Tryz.prog 39 = some (false, 1)) ∧ (tyK Tryz.prog 4 = some (false, 1) ∧ (tyK Tryz.prog 41 = some (true, 3) ∧ tyK Tryz.prog 5 = some (false, 1))))) ∧ (((tyK Tryz.prog 54 = some (false, 1) ∧ tyK Tryz.prog 79 = some (false, 1)) ∧ (tyK Tryz.prog 81 = some (true, 2) ∧ (tyK Tryz.prog 83 = some (false, 1) ∧ tyK Tryz.prog 9 = some (false, 1)))) ∧ ((tyPlaces Tryz.prog 107 = some [(0, 1), (1, 1), (2, 1), (3, 1), (4, 1), (5, 1), (6, 1), (7, 1)] ∧ tyPlaces Tryz.prog 30 = some [(0, 1)]) ∧ (tyPlaces Tryz.prog 41 = some [(0, 1), (1, 1), (2, 1)] ∧ (tyPlaces Tryz.prog 81 = some [(0, 1), (1, 1)] ∧ tyRow Tryz.prog 104 = some 1)))))) ∧ (((((tyRow Tryz.prog 107 = some 8 ∧ tyRow Tryz.prog 25 = some 1) ∧ (tyRow Tryz.prog 28 = some 1 ∧ (tyRow Tryz.prog 3 = some 1 ∧ tyRow Tryz.prog 30 = some 1))) ∧ ((tyRow Tryz.prog 39 = some 1 ∧ tyRow Tryz.prog 4 = some 1) ∧ (tyRow Tryz.prog 41 = some 3 ∧ (tyRow Tryz.prog 5 = some 1 ∧ tyRow Tryz.prog 54 = some 1)))) ∧ (((tyRow Tryz.prog 79 = some 1 ∧ tyRow Tryz.prog 81 = some 2) ∧ (tyRow Tryz.prog 83 = some 1 ∧ (tyRow Tryz.prog 9 = some 1 ∧ Tryz.prog.underlying 104 = some (TypeDesc.slice 9)))) ∧ ((Tryz.prog.underlying 25 = some (TypeDesc.slice 5) ∧ Tryz.prog.underlying 28 = some (TypeDesc.slice 107)) ∧ (Tryz.prog.underlying 3 = some (TypeDesc.int IntKind.i64) ∧ (Tryz.prog.underlying 39 = some (TypeDesc.slice 41) ∧ Tryz.prog.underlying 4 = some (TypeDesc.bool)))))) ∧ ((((Tryz.prog.underlying 5 = some (TypeDesc.int IntKind.u8) ∧ Tryz.prog.underlying 54 = some (TypeDesc.slice 3)) ∧ (Tryz.prog.underlying 79 = some (TypeDesc.pointer 81) ∧ (Tryz.prog.underlying 83 = some (TypeDesc.interface #[("Error", 222)]) ∧ Tryz.prog.underlying 9 = some (TypeDesc.string)))) ∧ ((tyZero Tryz.prog 104 = some [Value.slice none 0 0] ∧ tyZero Tryz.prog 107 = some [Value.string ByteArray.empty, Value.int IntKind.i64 0, Value.int IntKind.i64 0, Value.bool false, Value.slice none 0 0, Value.slice none 0 0, Value.slice none 0 0, Value.slice none 0 0]) ∧ (tyZero Tryz.prog 25 = some [Value.slice none 0 0] ∧ (tyZero Tryz.prog 28 = some [Value.slice none 0 0] ∧ tyZero Tryz.prog 3 = some [Value.int IntKind.i64 0])))) ∧ (((tyZero Tryz.prog 30 = some [Value.slice none 0 0] ∧ tyZero Tryz.prog 39 = some [Value.slice none 0 0]) ∧ (tyZero Tryz.prog 4 = some [Value.bool false] ∧ (tyZero Tryz.prog 41 = some [Value.int IntKind.i64 0, Value.slice none 0 0, Value.slice none 0 0] ∧ tyZero Tryz.prog 5 = some [Value.int IntKind.u8 0]))) ∧ ((tyZero Tryz.prog 54 = some [Value.slice none 0 0] ∧ tyZero Tryz.prog 79 = some [Value.pointer none]) ∧ (tyZero Tryz.prog 81 = some [Value.slice none 0 0, Value.slice none 0 0] ∧ (tyZero Tryz.prog 83 = some [Value.nilIface] ∧ tyZero Tryz.prog 9 = some [Value.string ByteArray.empty]))))))) := ⟨⟨⟨⟨⟨⟨tb25, te104⟩, ⟨te25, ⟨te28, te39⟩⟩⟩, ⟨⟨te54, tf107_0⟩, ⟨tf107_1, ⟨tf107_2, tf107_3⟩⟩⟩⟩, ⟨⟨⟨tf107_4, tf107_5⟩, ⟨tf107_6, ⟨tf107_7, tf30_0⟩⟩⟩, ⟨⟨tf41_0, tf41_1⟩, ⟨tf41_2, ⟨tf81_0, tf81_1⟩⟩⟩⟩⟩, ⟨⟨⟨⟨tk104, tk107⟩, ⟨tk25, ⟨tk28, tk3⟩⟩⟩, ⟨⟨tk30, tk39⟩, ⟨tk4, ⟨tk41, tk5⟩⟩⟩⟩, ⟨⟨⟨tk54, tk79⟩, ⟨tk81, ⟨tk83, tk9⟩⟩⟩, ⟨⟨tp107, tp30⟩, ⟨tp41, ⟨tp81, tr104⟩⟩⟩⟩⟩⟩, ⟨⟨⟨⟨⟨tr107, tr25⟩, ⟨tr28, ⟨tr3, tr30⟩⟩⟩, ⟨⟨tr39, tr4⟩, ⟨tr41, ⟨tr5, tr54⟩⟩⟩⟩, ⟨⟨⟨tr79, tr81⟩, ⟨tr83, ⟨tr9, tu104⟩⟩⟩, ⟨⟨tu25, tu28⟩, ⟨tu3, ⟨tu39, tu4⟩⟩⟩⟩⟩, ⟨⟨⟨⟨tu5, tu54⟩, ⟨tu79, ⟨tu83, tu9⟩⟩⟩, ⟨⟨tz104, tz107⟩, ⟨tz25, ⟨tz28, tz3⟩⟩⟩⟩, ⟨⟨⟨tz30, tz39⟩, ⟨tz4, ⟨tz41, tz5⟩⟩⟩, ⟨⟨tz54, tz79⟩, ⟨tz81, ⟨tz83, tz9⟩⟩⟩⟩⟩⟩⟩
set_option maxRecDepth 100000 in
set_option maxHeartbeats 4000000 in
theorem valueI_step (hD : DB M D) (hM : M ≤ 1048576) (hb : b.length ≤ 1048576) (hV : descP D) {f : Nat} (H : RdOK D b f) : RdOK D b (f + 1) := fun n p hnf hnl hp => by
  obtain ⟨r, hr⟩ : ∃ r, D[n]? = some r := ⟨_, List.getElem?_eq_getElem hnl⟩
  have G : GoodR D n r := good_of hV hr
  have hrb := hD.rule r (List.mem_of_getElem? hr)
  have hrd := ruleD_get hr
  have hn : n ≤ f := by omega
  have hlk := hrb.lk
  obtain ⟨kd1, kd2⟩ := G.kd
  have hex : ∃ m : Nat, ((rd D b (f + 1) n p).2.2 = 0 → m = (rd D b (f + 1) n p).2.1) ∧ ((r.kind = 1 ∨ r.kind = 3 ∨ r.kind = 4 ∨ r.kind = 10) → m = (rd D b (f + 1) n p).2.1) ∧ (r.kind = 2 → m = if (rd D b (f + 1) n p).2.2 = 0 then (rd D b (f + 1) n p).2.1 else p) ∧
      (r.kind = 5 → AC Tryz.prog 113 [.d (frD D b), .d (encR r), .d (iD p)] none fun r' _ => r' = rdE m (rd D b (f + 1) n p)) ∧
      (r.kind = 6 → AC Tryz.prog 114 [.d (frD D b), .d (V0d 0), .d (encI r.kids), .d (iD p)] none fun r' _ => r' = rdE m (rd D b (f + 1) n p)) ∧
      (r.kind = 7 → AC Tryz.prog 115 [.d (frD D b), .d (encR r), .d (iD p)] none fun r' _ => r' = rdE m (rd D b (f + 1) n p)) ∧
      (r.kind = 8 → AC Tryz.prog 116 [.d (frD D b), .d (encR r), .d (iD p)] none fun r' _ => r' = rdE m (rd D b (f + 1) n p)) ∧
      (r.kind = 9 → AC Tryz.prog 117 [.d (frD D b), .d (encR r), .d (iD p)] none fun r' _ => r' = rdE m (rd D b (f + 1) n p)) := by
    by_cases h5 : r.kind = 5
    · obtain ⟨m, e1, e2⟩ := arrayI_c hD hM hb H hr hn G h5 p hp
      exact ⟨m, e1, by omega, by omega, fun _ => e2, by omega, by omega, by omega, by omega⟩
    by_cases h6 : r.kind = 6
    · have e2 := itemsI_k H 0 r.kids (by omega) (fun i hi => by have := G.kid i hi; omega) p hp
      have e1 := atItems_mk (f := rd D b f) (ks := r.kids.map Int.toNat) (n := 0) (p := p)
      rw [← rd_6 hrd h6] at e1 e2
      exact ⟨_, e1, by omega, by omega, by omega, fun _ => e2, by omega, by omega, by omega⟩
    by_cases h7 : r.kind = 7
    · obtain ⟨m, e1, e2⟩ := choiceI_c hD hM hb H hr hn G h7 p hp
      exact ⟨m, e1, by omega, by omega, by omega, by omega, fun _ => e2, by omega, by omega⟩
    by_cases h8 : r.kind = 8
    · obtain ⟨m, e1, e2⟩ := optionI_c hD hM hb H hr hn G h8 p hp
      exact ⟨m, e1, by omega, by omega, by omega, by omega, by omega, fun _ => e2, by omega⟩
    by_cases h9 : r.kind = 9
    · obtain ⟨m, e1, e2⟩ := checkedI_c hD hM hb H hr hn G h9 p hp
      exact ⟨m, e1, by omega, by omega, by omega, by omega, by omega, by omega, fun _ => e2⟩
    by_cases h2 : r.kind = 2
    · refine ⟨if (rd D b (f + 1) n p).2.2 = 0 then (rd D b (f + 1) n p).2.1 else p, fun h => if_pos h, by omega, fun _ => rfl, by omega, by omega, by omega, by omega, by omega⟩
    · exact ⟨(rd D b (f + 1) n p).2.1, fun _ => rfl, fun _ => rfl, by omega, by omega, by omega, by omega, by omega, by omega⟩
  obtain ⟨m, e1, e13, e2, a5, a6, a7, a8, a9⟩ := hex
  refine ⟨m, e1, ?_⟩
  clear e1
  refine calls_body Tryz.func72 rfl Tryz.call72 Tryz.ntmps72 (by simp) (by simp [ArgsOk]) (by simp [Rz.nkL, Rz.nk]) fun en hsz hks hk0 => ?_; simp only [St.init, frOf, Rz.addSL, Rz.addS, Rz.toAL, Rz.toA, Rz.nk, List.zipIdx_cons, List.zipIdx_nil, List.map_cons, List.map_nil, Nat.zero_add, Nat.reduceAdd]
  refine walkS ?_
  refine aw_condS rfl (fun n1 => ?_) (fun n1 => ?_)
  · have HN := integerI_c hD hM hb hr (G.k1 n1) p hp
    obtain rfl := e13 (.inl n1)
    clear e13 e2 a5 a6 a7 a8 a9
    cases hi : intAt r b p with
    | none =>
      rw [hi] at HN
      rw [rd_1n hrd n1 hi]
      (repeat (first | refine walkS ?_ | (refine callPre ?_; (first | refine callN_funS rfl (HN) ?_)) | (refine callPreL ?_; (first | refine callL_funS rfl (HN) ?_))))
      (refine aw_ret ?_; (simp only [Fin, Tryz.results72]; refine finS ?_); refine ⟨_, [], .inr (.inl ⟨.tup [encV V0, iD (p : Nat), erD p 1], rfl, rfl, ?_⟩), List.nodup_nil, rfl⟩; exact wkDS)
    | some k =>
      rw [hi] at HN
      rw [rd_1s hrd n1 hi]
      (repeat (first | refine walkS ?_ | (refine callPre ?_; (first | refine callN_funS rfl (HN) ?_)) | (refine callPreL ?_; (first | refine callL_funS rfl (HN) ?_))))
      (refine aw_ret ?_; (simp only [Fin, Tryz.results72]; refine finS ?_); refine ⟨_, [], .inr (.inl ⟨.tup [encV (.mk k [] []), iD ((p + r.size.toNat : Nat) : Int), nilE], rfl, rfl, ?_⟩), List.nodup_nil, rfl⟩; exact wkDS)
  refine walkS ?_
  refine aw_condS rfl (fun n2 => ?_) (fun n2 => ?_)
  · have HC := constantI_c (D := D) hrb hM hb p hp
    have e := e2 n2
    rw [rd_2 hrd n2] at e ⊢
    clear e13 e2 a5 a6 a7 a8 a9
    rw [← e] at HC
    generalize constAt b p 0 r.bytes = z at *
    obtain ⟨q, c⟩ := z
    (repeat (first | refine walkS ?_ | (refine callPre ?_; (first | refine callN_funS rfl (HC) ?_)) | (refine callPreL ?_; (first | refine callL_funS rfl (HC) ?_))))
    (refine aw_ret ?_; (simp only [Fin, Tryz.results72]; refine finS ?_); refine ⟨_, [], .inr (.inl ⟨.tup [encV V0, iD (m : Nat), eD q c], rfl, rfl, ?_⟩), List.nodup_nil, rfl⟩; exact wkDS)
  refine walkS ?_
  refine aw_condS rfl (fun n3 => ?_) (fun n3 => ?_)
  · have hk3 := G.k3 n3
    have HB := contentI_c (D := D) hb p hp r.size.toNat (by omega)
    rw [Int.toNat_of_nonneg (by omega)] at HB
    obtain rfl := e13 (.inr (.inl n3))
    rw [rd_3 hrd n3]
    clear e13 e2 a5 a6 a7 a8 a9
    (repeat (first | refine walkS ?_ | (refine callPre ?_; (first | refine callN_funS rfl (HB) ?_)) | (refine callPreL ?_; (first | refine callL_funS rfl (HB) ?_))))
    (refine aw_ret ?_; (simp only [Fin, Tryz.results72]; refine finS ?_); refine ⟨_, [], .inr (.inl ⟨.tup [encV (bytesAt b p r.size.toNat).1, iD (bytesAt b p r.size.toNat).2.1, eD (bytesAt b p r.size.toNat).2.1 (bytesAt b p r.size.toNat).2.2], rfl, rfl, ?_⟩), List.nodup_nil, rfl⟩; exact wkDS)
  refine walkS ?_
  refine aw_condS rfl (fun n4 => ?_) (fun n4 => ?_)
  · obtain ⟨g1, g2⟩ := G.k4 n4
    obtain ⟨j, q, ej, hj, hq, hqr⟩ := kid_int (by omega : 0 ≤ limD D (kid0 r))
    have hkid : r.kids[0]? = some (j : Int) := by rw [kids0 (by omega), ej]
    have HN := integerI_c hD hM hb hj hq p hp
    obtain rfl := e13 (.inr (.inr (.inl n4)))
    clear e13 e2 a5 a6 a7 a8 a9
    cases hi : intAt q b p with
    | none =>
      rw [hi] at HN
      rw [rd_45n hrd (.inl n4) (by rw [hqr]; exact hi)]
      (repeat (first | refine walkS ?_ | (refine callPre ?_; (first | refine callN_funS rfl (HN) ?_)) | (refine callPreL ?_; (first | refine callL_funS rfl (HN) ?_))))
      refine aw_condS rfl (fun hc => ?_) (fun hc => ?_)
      · refine walkS ?_
        (refine aw_ret ?_; (simp only [Fin, Tryz.results72]; refine finS ?_); refine ⟨_, [], .inr (.inl ⟨.tup [encV V0, iD (p : Nat), erD p 1], rfl, rfl, ?_⟩), List.nodup_nil, rfl⟩; exact wkDS)
      · (first | exact absurd trivial hc | exact absurd rfl hc | (cases hc; done) | omega | exact absurd hc (by decide) | (simp at hc; done))
    | some k =>
      rw [hi] at HN
      obtain ⟨hi1, hi2⟩ := intAt_in hi hp
      have hfin := rd_4s (f := f) hrd n4 (by rw [hqr]; exact hi)
      rw [hqr] at hfin
      rw [hfin]
      have HB := contentI_c (D := D) hb (p + q.size.toNat) hi1 k (by omega)
      generalize bytesAt b (p + q.size.toNat) k = y at *
      (repeat (first | refine walkS ?_ | (refine callPre ?_; (first | refine callN_funS rfl (HN) ?_)) | (refine callPreL ?_; (first | refine callL_funS rfl (HN) ?_))))
      refine aw_condS rfl (fun hc => ?_) (fun hc => ?_)
      · (first | exact absurd trivial hc | exact absurd rfl hc | (cases hc; done) | omega | exact absurd hc (by decide) | (simp at hc; done))
      (repeat (first | refine walkS ?_ | (refine callPre ?_; (first | refine callN_funS rfl (HB) ?_)) | (refine callPreL ?_; (first | refine callL_funS rfl (HB) ?_))))
      (refine aw_ret ?_; (simp only [Fin, Tryz.results72]; refine finS ?_); refine ⟨_, [], .inr (.inl ⟨.tup [encV y.1, iD y.2.1, eD y.2.1 y.2.2], rfl, rfl, ?_⟩), List.nodup_nil, rfl⟩; exact wkDS)
  refine walkS ?_
  refine aw_condS rfl (fun n5 => ?_) (fun n5 => ?_)
  · have HA := a5 n5
    generalize rd D b (f + 1) n p = y at *
    clear e13 e2 a5 a6 a7 a8 a9
    (repeat (first | refine walkS ?_ | (refine callPre ?_; (first | refine callN_funS rfl (HA) ?_)) | (refine callPreL ?_; (first | refine callL_funS rfl (HA) ?_))))
    (refine aw_ret ?_; (simp only [Fin, Tryz.results72]; refine finS ?_); refine ⟨_, [], .inr (.inl ⟨.tup [encV y.1, iD m, eD y.2.1 y.2.2], rfl, rfl, ?_⟩), List.nodup_nil, rfl⟩; exact wkDS)
  refine walkS ?_
  refine aw_condS rfl (fun n6 => ?_) (fun n6 => ?_)
  · have HA := a6 n6
    generalize rd D b (f + 1) n p = y at *
    clear e13 e2 a5 a6 a7 a8 a9
    (repeat (first | refine walkS ?_ | (refine callPre ?_; (first | refine callN_funS rfl (HA) ?_)) | (refine callPreL ?_; (first | refine callL_funS rfl (HA) ?_))))
    (refine aw_ret ?_; (simp only [Fin, Tryz.results72]; refine finS ?_); refine ⟨_, [], .inr (.inl ⟨.tup [encV y.1, iD m, eD y.2.1 y.2.2], rfl, rfl, ?_⟩), List.nodup_nil, rfl⟩; exact wkDS)
  refine walkS ?_
  refine aw_condS rfl (fun n7 => ?_) (fun n7 => ?_)
  · have HA := a7 n7
    generalize rd D b (f + 1) n p = y at *
    clear e13 e2 a5 a6 a7 a8 a9
    (repeat (first | refine walkS ?_ | (refine callPre ?_; (first | refine callN_funS rfl (HA) ?_)) | (refine callPreL ?_; (first | refine callL_funS rfl (HA) ?_))))
    (refine aw_ret ?_; (simp only [Fin, Tryz.results72]; refine finS ?_); refine ⟨_, [], .inr (.inl ⟨.tup [encV y.1, iD m, eD y.2.1 y.2.2], rfl, rfl, ?_⟩), List.nodup_nil, rfl⟩; exact wkDS)
  refine walkS ?_
  refine aw_condS rfl (fun n8 => ?_) (fun n8 => ?_)
  · have HA := a8 n8
    generalize rd D b (f + 1) n p = y at *
    clear e13 e2 a5 a6 a7 a8 a9
    (repeat (first | refine walkS ?_ | (refine callPre ?_; (first | refine callN_funS rfl (HA) ?_)) | (refine callPreL ?_; (first | refine callL_funS rfl (HA) ?_))))
    (refine aw_ret ?_; (simp only [Fin, Tryz.results72]; refine finS ?_); refine ⟨_, [], .inr (.inl ⟨.tup [encV y.1, iD m, eD y.2.1 y.2.2], rfl, rfl, ?_⟩), List.nodup_nil, rfl⟩; exact wkDS)
  refine walkS ?_
  refine aw_condS rfl (fun n9 => ?_) (fun n9 => ?_)
  · have HA := a9 n9
    generalize rd D b (f + 1) n p = y at *
    clear e13 e2 a5 a6 a7 a8 a9
    (repeat (first | refine walkS ?_ | (refine callPre ?_; (first | refine callN_funS rfl (HA) ?_)) | (refine callPreL ?_; (first | refine callL_funS rfl (HA) ?_))))
    (refine aw_ret ?_; (simp only [Fin, Tryz.results72]; refine finS ?_); refine ⟨_, [], .inr (.inl ⟨.tup [encV y.1, iD m, eD y.2.1 y.2.2], rfl, rfl, ?_⟩), List.nodup_nil, rfl⟩; exact wkDS)
  have n10 : r.kind = 10 := by omega
  have hh := head_get (G.k10 n10)
  obtain rfl := e13 (.inr (.inr (.inr n10)))
  clear e13 e2 a5 a6 a7 a8 a9
  cases ht : readTerm b p (r.bytes.headD 0) with
  | none =>
    rw [rd_10n hrd n10 ht]
    (repeat (first | refine walkS ?_ | (refine callPre ?_; (first | refine callN_funS rfl ((rtI_c hb p hp (r.bytes.headD 0)).eqv (r1 := .d (.tup [encB [], iD p, bD false])) (by rw [rtR, rdT, ht])) ?_)) | (refine callPreL ?_; (first | refine callL_funS rfl ((rtI_c hb p hp (r.bytes.headD 0)).eqv (r1 := .d (.tup [encB [], iD p, bD false])) (by rw [rtR, rdT, ht])) ?_))))
    refine aw_condS rfl (fun hc => ?_) (fun hc => ?_)
    · (repeat (first | refine walkS ?_ | (refine callPre ?_; (first | refine callN_funS rfl (fail_c p 1) ?_)) | (refine callPreL ?_; (first | refine callL_funS rfl (fail_c p 1) ?_))))
      (refine aw_ret ?_; (simp only [Fin, Tryz.results72]; refine finS ?_); refine ⟨_, [], .inr (.inl ⟨.tup [encV V0, iD (p : Nat), erD p 1], rfl, rfl, ?_⟩), List.nodup_nil, rfl⟩; exact wkDS)
    · (first | exact absurd trivial hc | exact absurd rfl hc | (cases hc; done) | omega | exact absurd hc (by decide) | (simp at hc; done))
  | some y =>
    rw [rd_10s hrd n10 ht]
    (repeat (first | refine walkS ?_ | (refine callPre ?_; (first | refine callN_funS rfl ((rtI_c hb p hp (r.bytes.headD 0)).eqv (r1 := .d (.tup [encB y.1, iD (y.2 : Nat), bD true])) (by rw [rtR, rdT, ht])) ?_)) | (refine callPreL ?_; (first | refine callL_funS rfl ((rtI_c hb p hp (r.bytes.headD 0)).eqv (r1 := .d (.tup [encB y.1, iD (y.2 : Nat), bD true])) (by rw [rtR, rdT, ht])) ?_))))
    refine aw_condS rfl (fun hc => ?_) (fun hc => ?_)
    · (first | exact absurd trivial hc | exact absurd rfl hc | (cases hc; done) | omega | exact absurd hc (by decide) | (simp at hc; done))
    · refine walkS ?_
      (refine aw_ret ?_; (simp only [Fin, Tryz.results72]; refine finS ?_); refine ⟨_, [], .inr (.inl ⟨.tup [encV (.mk 0 y.1 []), iD (y.2 : Nat), nilE], rfl, rfl, ?_⟩), List.nodup_nil, rfl⟩; exact wkDS)
theorem valueI_all (hD : DB M D) (hM : M ≤ 1048576) (hb : b.length ≤ 1048576) (hV : descP D) : ∀ f, RdOK D b f
  | 0 => fun n p h => by omega
  | f + 1 => valueI_step hD hM hb hV (valueI_all hD hM hb hV f)
end
end Go.Proofs.YtoegmaebdihnaaaGreatDoor.Eng
