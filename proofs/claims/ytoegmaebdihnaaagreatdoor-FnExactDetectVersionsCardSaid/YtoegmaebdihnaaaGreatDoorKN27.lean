/-
  The program's reader: choices.
-/
import Derived.Test.YtoegmaebdihnaaaGreatDoorKN26
set_option linter.unusedSimpArgs false
set_option linter.unusedVariables false
namespace Go.Proofs.YtoegmaebdihnaaaGreatDoor.Eng
open Go Go.RowKit

section
variable {M : Nat} {D : List RuleD} {b : List UInt8}
private theorem tyF : ((((((bytesT Tryz.prog 25 = true ∧ tyElem Tryz.prog 104 = some 9) ∧ (tyElem Tryz.prog 25 = some 5 ∧ tyElem Tryz.prog 39 = some 41)) ∧ ((tyElem Tryz.prog 54 = some 3 ∧ tyField Tryz.prog 107 0 = some (0, 9)) ∧ (tyField Tryz.prog 107 1 = some (1, 3) ∧ tyField Tryz.prog 107 2 = some (2, 3)))) ∧ (((tyField Tryz.prog 107 3 = some (3, 4) ∧ tyField Tryz.prog 107 4 = some (4, 25)) ∧ (tyField Tryz.prog 107 5 = some (5, 104) ∧ tyField Tryz.prog 107 6 = some (6, 54))) ∧ ((tyField Tryz.prog 107 7 = some (7, 54) ∧ tyField Tryz.prog 41 0 = some (0, 3)) ∧ (tyField Tryz.prog 41 1 = some (1, 25) ∧ tyField Tryz.prog 41 2 = some (2, 39))))) ∧ ((((tyK Tryz.prog 104 = some (false, 1) ∧ tyK Tryz.prog 107 = some (true, 8)) ∧ (tyK Tryz.prog 25 = some (false, 1) ∧ tyK Tryz.prog 3 = some (false, 1))) ∧ ((tyK Tryz.prog 39 = some (false, 1) ∧ tyK Tryz.prog 4 = some (false, 1)) ∧ (tyK Tryz.prog 41 = some (true, 3) ∧ tyK Tryz.prog 5 = some (false, 1)))) ∧ (((tyK Tryz.prog 54 = some (false, 1) ∧ tyK Tryz.prog 79 = some (false, 1)) ∧ (tyK Tryz.prog 83 = some (false, 1) ∧ tyK Tryz.prog 9 = some (false, 1))) ∧ ((tyPlaces Tryz.prog 107 = some [(0, 1), (1, 1), (2, 1), (3, 1), (4, 1), (5, 1), (6, 1), (7, 1)] ∧ tyPlaces Tryz.prog 41 = some [(0, 1), (1, 1), (2, 1)]) ∧ (tyRow Tryz.prog 104 = some 1 ∧ tyRow Tryz.prog 107 = some 8))))) ∧ (((((tyRow Tryz.prog 25 = some 1 ∧ tyRow Tryz.prog 3 = some 1) ∧ (tyRow Tryz.prog 39 = some 1 ∧ tyRow Tryz.prog 4 = some 1)) ∧ ((tyRow Tryz.prog 41 = some 3 ∧ tyRow Tryz.prog 5 = some 1) ∧ (tyRow Tryz.prog 54 = some 1 ∧ tyRow Tryz.prog 79 = some 1))) ∧ (((tyRow Tryz.prog 83 = some 1 ∧ tyRow Tryz.prog 9 = some 1) ∧ (Tryz.prog.underlying 104 = some (TypeDesc.slice 9) ∧ Tryz.prog.underlying 25 = some (TypeDesc.slice 5))) ∧ ((Tryz.prog.underlying 3 = some (TypeDesc.int IntKind.i64) ∧ Tryz.prog.underlying 39 = some (TypeDesc.slice 41)) ∧ (Tryz.prog.underlying 4 = some (TypeDesc.bool) ∧ Tryz.prog.underlying 5 = some (TypeDesc.int IntKind.u8))))) ∧ ((((Tryz.prog.underlying 54 = some (TypeDesc.slice 3) ∧ Tryz.prog.underlying 79 = some (TypeDesc.pointer 81)) ∧ (Tryz.prog.underlying 83 = some (TypeDesc.interface #[("Error", 222)]) ∧ Tryz.prog.underlying 9 = some (TypeDesc.string))) ∧ ((tyZero Tryz.prog 104 = some [Value.slice none 0 0] ∧ tyZero Tryz.prog 107 = some [Value.string ByteArray.empty, Value.int IntKind.i64 0, Value.int IntKind.i64 0, Value.bool false, Value.slice none 0 0, Value.slice none 0 0, Value.slice none 0 0, Value.slice none 0 0]) ∧ (tyZero Tryz.prog 25 = some [Value.slice none 0 0] ∧ tyZero Tryz.prog 3 = some [Value.int IntKind.i64 0]))) ∧ (((tyZero Tryz.prog 39 = some [Value.slice none 0 0] ∧ tyZero Tryz.prog 4 = some [Value.bool false]) ∧ (tyZero Tryz.prog 41 = some [Value.int IntKind.i64 0, Value.slice none 0 0, Value.slice none 0 0] ∧ tyZero Tryz.prog 5 = some [Value.int IntKind.u8 0])) ∧ ((tyZero Tryz.prog 54 = some [Value.slice none 0 0] ∧ tyZero Tryz.prog 79 = some [Value.pointer none]) ∧ (tyZero Tryz.prog 83 = some [Value.nilIface] ∧ tyZero Tryz.prog 9 = some [Value.string ByteArray.empty])))))) := ⟨⟨⟨⟨⟨⟨tb25, te104⟩, ⟨te25, te39⟩⟩, ⟨⟨te54, tf107_0⟩, ⟨tf107_1, tf107_2⟩⟩⟩, ⟨⟨⟨tf107_3, tf107_4⟩, ⟨tf107_5, tf107_6⟩⟩, ⟨⟨tf107_7, tf41_0⟩, ⟨tf41_1, tf41_2⟩⟩⟩⟩, ⟨⟨⟨⟨tk104, tk107⟩, ⟨tk25, tk3⟩⟩, ⟨⟨tk39, tk4⟩, ⟨tk41, tk5⟩⟩⟩, ⟨⟨⟨tk54, tk79⟩, ⟨tk83, tk9⟩⟩, ⟨⟨tp107, tp41⟩, ⟨tr104, tr107⟩⟩⟩⟩⟩, ⟨⟨⟨⟨⟨tr25, tr3⟩, ⟨tr39, tr4⟩⟩, ⟨⟨tr41, tr5⟩, ⟨tr54, tr79⟩⟩⟩, ⟨⟨⟨tr83, tr9⟩, ⟨tu104, tu25⟩⟩, ⟨⟨tu3, tu39⟩, ⟨tu4, tu5⟩⟩⟩⟩, ⟨⟨⟨⟨tu54, tu79⟩, ⟨tu83, tu9⟩⟩, ⟨⟨tz104, tz107⟩, ⟨tz25, tz3⟩⟩⟩, ⟨⟨⟨tz39, tz4⟩, ⟨tz41, tz5⟩⟩, ⟨⟨tz54, tz79⟩, ⟨tz83, tz9⟩⟩⟩⟩⟩⟩
set_option maxRecDepth 100000 in
set_option maxHeartbeats 1000000 in
theorem choiceI_c (hD : DB M D) (hM : M ≤ 1048576) (hb : b.length ≤ 1048576) {f : Nat} (H : RdOK D b f) {n : Nat} {r : RuleD} (hr : D[n]? = some r) (hn : n ≤ f) (G : GoodR D n r) (hk : r.kind = 7) (p : Nat) (hp : p ≤ b.length) : RdC D b 115 [.d (frD D b), .d (encR r), .d (iD p)] (rd D b (f + 1) n p) := by
  have hrb := hD.rule r (List.mem_of_getElem? hr)
  have hlt := hrb.lt
  obtain ⟨g1, g2⟩ := G.k7 hk
  obtain ⟨j, q, ej, hj, hq, hqr⟩ := kid_int g2
  have hkid : r.kids[0]? = some (j : Int) := by rw [kids0 (by omega), ej]
  have hrd := ruleD_get hr
  have hnl : n < D.length := (List.getElem?_eq_some_iff.1 hr).1
  have HN := integerI_c hD hM hb hj hq p hp
  cases hi : intAt q b p with
  | none =>
    rw [hi] at HN
    rw [rd_7n hrd hk (by rw [hqr]; exact hi)]
    refine ⟨p, fun h => (by cases h), ?_⟩
    refine calls_body Tryz.func115 rfl Tryz.call115 Tryz.ntmps115 (by simp) (by simp [ArgsOk]) (by simp [Rz.nkL, Rz.nk]) fun en hsz hks hk0 => ?_; simp only [St.init, frOf, Rz.addSL, Rz.addS, Rz.toAL, Rz.toA, Rz.nk, List.zipIdx_cons, List.zipIdx_nil, List.map_cons, List.map_nil, Nat.zero_add, Nat.reduceAdd]
    (repeat (first | refine walkS ?_ | (refine callPre ?_; (first | refine callN_funS rfl (HN) ?_)) | (refine callPreL ?_; (first | refine callL_funS rfl (HN) ?_))))
    refine aw_condS rfl (fun hc => ?_) (fun hc => ?_)
    · refine walkS ?_
      (refine aw_ret ?_; (simp only [Fin, Tryz.results115]; refine finS ?_); refine ⟨_, [], .inr (.inl ⟨.tup [encV V0, iD (p : Nat), erD p 1], rfl, rfl, ?_⟩), List.nodup_nil, rfl⟩; exact wkDS)
    · (first | exact absurd trivial hc | exact absurd rfl hc | (cases hc; done) | omega | exact absurd hc (by decide) | (simp at hc; done))
  | some m =>
    rw [hi] at HN
    obtain ⟨hi1, hi2⟩ := intAt_in hi hp
    have hnone : tagIx r.tags m = none → rd D b (f + 1) n p = (V0, p, 3) := fun ht => rd_7t hrd hk (by rw [hqr]; exact hi) ht
    have hsome : ∀ k, tagIx r.tags m = some k → rd D b (f + 1) n p = mkItems m (rdItems (rd D b f) [(r.kids.getD (k + 1) 0).toNat] (p + q.size.toNat)) := fun k ht => by rw [rd_7s hrd hk (by rw [hqr]; exact hi) ht, hqr]
    have hkids : ∀ k (h : k < r.tags.length), ((r.kids.drop (k + 1)).take (k + 2 - (k + 1))) = [r.kids[k + 1]'(by omega)] := fun k h => by
      rw [List.drop_eq_getElem_cons (by omega), show k + 2 - (k + 1) = 1 by omega]; rfl
    have HI : ∀ k (h : k < r.tags.length), AC Tryz.prog 114 [.d (frD D b), .d (V0d m), .d (encI [r.kids[k + 1]'(by omega)]), .d (iD (p + q.size.toNat : Nat))] none (fun r' _ => r' = rdE (atItems (rd D b f) [(r.kids.getD (k + 1) 0).toNat] (p + q.size.toNat)) (mkItems m (rdItems (rd D b f) [(r.kids.getD (k + 1) 0).toNat] (p + q.size.toNat)))) := fun k h => by
      have h1 := G.kid (k + 1) (by omega)
      have := itemsI_k H (m : Int) [r.kids[k + 1]'(by omega)] (by simp) (fun i hi => by
        have : i = 0 := by simpa using hi
        subst this
        simp only [List.getElem_cons_zero]
        omega) (p + q.size.toNat) hi1
      rw [show r.kids.getD (k + 1) 0 = r.kids[k + 1]'(by omega) by rw [List.getD_eq_getElem?_getD, List.getElem?_eq_getElem (by omega), Option.getD_some]]
      exact this
    have hex : ∃ am : Nat, ((rd D b (f + 1) n p).2.2 = 0 → am = (rd D b (f + 1) n p).2.1) ∧ (tagIx r.tags m = none → am = p) ∧ ∀ k, tagIx r.tags m = some k → am = atItems (rd D b f) [(r.kids.getD (k + 1) 0).toNat] (p + q.size.toNat) := by
      cases ht : tagIx r.tags m with
      | none => exact ⟨p, fun h => (by rw [hnone ht] at h; cases h), fun _ => rfl, fun k h => (by cases h)⟩
      | some k => exact ⟨atItems (rd D b f) [(r.kids.getD (k + 1) 0).toNat] (p + q.size.toNat), fun h => (by rw [hsome k ht] at h; rw [hsome k ht]; exact atItems_mk h), fun h => (by cases h), fun k' h => (by cases h; rfl)⟩
    obtain ⟨am, e1, e2, e3⟩ := hex
    refine ⟨am, e1, ?_⟩
    refine calls_body Tryz.func115 rfl Tryz.call115 Tryz.ntmps115 (by simp) (by simp [ArgsOk]) (by simp [Rz.nkL, Rz.nk]) fun en hsz hks hk0 => ?_; simp only [St.init, frOf, Rz.addSL, Rz.addS, Rz.toAL, Rz.toA, Rz.nk, List.zipIdx_cons, List.zipIdx_nil, List.map_cons, List.map_nil, Nat.zero_add, Nat.reduceAdd]
    (repeat (first | refine walkS ?_ | (refine callPre ?_; (first | refine callN_funS rfl (HN) ?_)) | (refine callPreL ?_; (first | refine callL_funS rfl (HN) ?_))))
    refine aw_condS rfl (fun hc => ?_) (fun hc => ?_)
    · (first | exact absurd trivial hc | exact absurd rfl hc | (cases hc; done) | omega | exact absurd hc (by decide) | (simp at hc; done))
    refine walkS ?_
    refine aw_loopS [0, 2, 4, 6, 7, 8, 9, 10, 31, 32] (fun _ _ => []) (fun _ k => [(33, .d (iD (k : Nat)))]) [] (fun _ _ => []) [] (fun _ _ => []) (fun k => k ≤ r.tags.length ∧ ∀ j (hj : j < r.tags.length), j < k → r.tags[j] ≠ (m : Int)) (fun k => r.tags.length - k) (0) hks (fun _ => rfl) ⟨Nat.zero_le _, fun _ _ h => absurd h (Nat.not_lt_zero _)⟩ wkS ?_; intro x hx; simp (decide := true) only [St.head, List.map_cons, List.map_nil, lk, rmv, List.cons_append, List.nil_append, List.append_nil, reduceIte, Nat.reduceAdd]
    obtain ⟨hx1, hx2⟩ := hx
    refine walkS ?_
    refine aw_condS rfl (fun hk1 => ?_) (fun hk1 => ?_)
    · refine walkS ?_
      refine aw_condS rfl (fun he => ?_) (fun he => ?_)
      · have ht : tagIx r.tags m = some x := tagIx_hit (by omega) he (fun j hj h => hx2 j hj h)
        rw [hsome x ht, e3 x ht]
        have HIx := HI x (by omega)
        generalize atItems (rd D b f) [(r.kids.getD (x + 1) 0).toNat] (p + q.size.toNat) = am' at *
        generalize mkItems m (rdItems (rd D b f) [(r.kids.getD (x + 1) 0).toNat] (p + q.size.toNat)) = y at *
        have hkx := hkids x (by omega)
        have e5 : ((x : Int) + 2).toNat = x + 2 := by omega
        (repeat (first | refine aw_seq ?_ | refine aw_region ?_ | refine aw_block ?_ | (refine aw_exit ?_; (try simp (decide := true) only [reduceIte])) | (refine aw_skip ?_; try dsimp only) | (refine aw_any (by kernel_rfl) (by kernel_rfl) (by simp only [hsz]; kernel_rfl) ?_) | (refine ow_nil ?_; try dsimp only) | (refine ol_go ?_ (fun K1 hK1 => ?_); (first | exact trivial | exact rfl); refine evS ?_; (try rw [e5, hkx]); refine hK1 _ _ ?_; clear hK1 K1) | (refine ol_skip rfl rfl ?_ ?_; (focus (intro hne; cases hne; done)); simp only [St.set]) | (refine ol_nil ⟨by kernel_rfl, ?_⟩; try dsimp only) | (refine ow_go ?_ (fun x hx => by cases hx <;> (rw [hsz]; decide)) (fun K1 hK1 => ?_); (first | exact trivial | exact rfl); refine evS ?_; (try rw [e5, hkx]); refine hK1 _ ?_; clear hK1 K1) | (refine ow_skip rfl rfl ?_ (fun x hx => by cases hx <;> (rw [hsz]; decide)) ?_; (focus (intro hne; cases hne; done)); simp only [St.set]) | (refine callPre ?_; (first | refine callN_funS rfl (HIx) ?_)) | (refine callPreL ?_; (first | refine callL_funS rfl (HIx) ?_))))
        (refine aw_ret ?_; (simp only [Fin, Tryz.results115]; refine finS ?_); refine ⟨_, [], .inr (.inl ⟨.tup [encV y.1, iD am', eD y.2.1 y.2.2], rfl, rfl, ?_⟩), List.nodup_nil, rfl⟩; exact wkDS)
      · refine walkS ?_
        refine ⟨x + 1, ⟨by omega, upto_succ (fun h => he) hx2⟩, by omega, ?_⟩
        exact wkS
    · have ht : tagIx r.tags m = none := tagIx_none (k := x) (by omega) (fun j hj h => hx2 j hj (by omega))
      rw [hnone ht, e2 ht]
      (repeat (first | refine walkS ?_ | (refine callPre ?_; (first | refine callN_funS rfl (fail_c p 3) ?_)) | (refine callPreL ?_; (first | refine callL_funS rfl (fail_c p 3) ?_))))
      (refine aw_ret ?_; (simp only [Fin, Tryz.results115]; refine finS ?_); refine ⟨_, [], .inr (.inl ⟨.tup [encV V0, iD (p : Nat), erD p 3], rfl, rfl, ?_⟩), List.nodup_nil, rfl⟩; exact wkDS)

end
end Go.Proofs.YtoegmaebdihnaaaGreatDoor.Eng
