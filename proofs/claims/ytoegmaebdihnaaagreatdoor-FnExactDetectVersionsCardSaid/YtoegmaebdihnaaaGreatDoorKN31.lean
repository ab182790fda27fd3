/-
  The program's reader: what is checked.
-/
import Derived.Test.YtoegmaebdihnaaaGreatDoorKN26
set_option linter.unusedSimpArgs false
set_option linter.unusedVariables false
namespace Go.Proofs.YtoegmaebdihnaaaGreatDoor.Eng
open Go Go.RowKit

section
variable {M : Nat} {D : List RuleD} {b : List UInt8}
private theorem tyF : ((((((bytesT Tryz.prog 25 = true ∧ tyElem Tryz.prog 104 = some 9) ∧ (tyElem Tryz.prog 25 = some 5 ∧ (tyElem Tryz.prog 28 = some 107 ∧ tyElem Tryz.prog 39 = some 41))) ∧ ((tyElem Tryz.prog 54 = some 3 ∧ tyField Tryz.prog 107 0 = some (0, 9)) ∧ (tyField Tryz.prog 107 1 = some (1, 3) ∧ (tyField Tryz.prog 107 2 = some (2, 3) ∧ tyField Tryz.prog 107 3 = some (3, 4))))) ∧ (((tyField Tryz.prog 107 4 = some (4, 25) ∧ tyField Tryz.prog 107 5 = some (5, 104)) ∧ (tyField Tryz.prog 107 6 = some (6, 54) ∧ (tyField Tryz.prog 107 7 = some (7, 54) ∧ tyField Tryz.prog 30 0 = some (0, 28)))) ∧ ((tyField Tryz.prog 41 0 = some (0, 3) ∧ tyField Tryz.prog 41 1 = some (1, 25)) ∧ (tyField Tryz.prog 41 2 = some (2, 39) ∧ (tyField Tryz.prog 81 0 = some (0, 30) ∧ tyField Tryz.prog 81 1 = some (1, 25)))))) ∧ ((((tyK Tryz.prog 104 = some (false, 1) ∧ tyK Tryz.prog 107 = some (true, 8)) ∧ (tyK Tryz.prog 25 = some (false, 1) ∧ (tyK Tryz.prog 28 = some (false, 1) ∧ tyK Tryz.prog 3 = some (false, 1)))) ∧ ((tyK Tryz.prog 30 = some (true, 1) ∧ tyK Tryz.prog 39 = some (false, 1)) ∧ (tyK Tryz.prog 4 = some (false, 1) ∧ (tyK Tryz.prog 41 = some (true, 3) ∧ tyK Tryz.prog 5 = some (false, 1))))) ∧ (((tyK Tryz.prog 54 = some (false, 1) ∧ tyK Tryz.prog 79 = some (false, 1)) ∧ (tyK Tryz.prog 81 = some (true, 2) ∧ (tyK Tryz.prog 83 = some (false, 1) ∧ tyK Tryz.prog 9 = some (false, 1)))) ∧ ((tyPlaces Tryz.prog 107 = some [(0, 1), (1, 1), (2, 1), (3, 1), (4, 1), (5, 1), (6, 1), (7, 1)] ∧ tyPlaces Tryz.prog 30 = some [(0, 1)]) ∧ (tyPlaces Tryz.prog 41 = some [(0, 1), (1, 1), (2, 1)] ∧ (tyPlaces Tryz.prog 81 = some [(0, 1), (1, 1)] ∧ tyRow Tryz.prog 104 = some 1)))))) ∧ (((((tyRow Tryz.prog 107 = some 8 ∧ tyRow Tryz.prog 25 = some 1) ∧ (tyRow Tryz.prog 28 = some 1 ∧ (tyRow Tryz.prog 3 = some 1 ∧ tyRow Tryz.prog 30 = some 1))) ∧ ((tyRow Tryz.prog 39 = some 1 ∧ tyRow Tryz.prog 4 = some 1) ∧ (tyRow Tryz.prog 41 = some 3 ∧ (tyRow Tryz.prog 5 = some 1 ∧ tyRow Tryz.prog 54 = some 1)))) ∧ (((tyRow Tryz.prog 79 = some 1 ∧ tyRow Tryz.prog 81 = some 2) ∧ (tyRow Tryz.prog 83 = some 1 ∧ (tyRow Tryz.prog 9 = some 1 ∧ Tryz.prog.underlying 104 = some (TypeDesc.slice 9)))) ∧ ((Tryz.prog.underlying 25 = some (TypeDesc.slice 5) ∧ Tryz.prog.underlying 28 = some (TypeDesc.slice 107)) ∧ (Tryz.prog.underlying 3 = some (TypeDesc.int IntKind.i64) ∧ (Tryz.prog.underlying 39 = some (TypeDesc.slice 41) ∧ Tryz.prog.underlying 4 = some (TypeDesc.bool)))))) ∧ ((((Tryz.prog.underlying 5 = some (TypeDesc.int IntKind.u8) ∧ Tryz.prog.underlying 54 = some (TypeDesc.slice 3)) ∧ (Tryz.prog.underlying 79 = some (TypeDesc.pointer 81) ∧ (Tryz.prog.underlying 83 = some (TypeDesc.interface #[("Error", 222)]) ∧ Tryz.prog.underlying 9 = some (TypeDesc.string)))) ∧ ((tyZero Tryz.prog 104 = some [Value.slice none 0 0] ∧ tyZero Tryz.prog 107 = some [Value.string ByteArray.empty, Value.int IntKind.i64 0, Value.int IntKind.i64 0, Value.bool false, Value.slice none 0 0, Value.slice none 0 0, Value.slice none 0 0, Value.slice none 0 0]) ∧ (tyZero Tryz.prog 25 = some [Value.slice none 0 0] ∧ (tyZero Tryz.prog 28 = some [Value.slice none 0 0] ∧ tyZero Tryz.prog 3 = some [Value.int IntKind.i64 0])))) ∧ (((tyZero Tryz.prog 30 = some [Value.slice none 0 0] ∧ tyZero Tryz.prog 39 = some [Value.slice none 0 0]) ∧ (tyZero Tryz.prog 4 = some [Value.bool false] ∧ (tyZero Tryz.prog 41 = some [Value.int IntKind.i64 0, Value.slice none 0 0, Value.slice none 0 0] ∧ tyZero Tryz.prog 5 = some [Value.int IntKind.u8 0]))) ∧ ((tyZero Tryz.prog 54 = some [Value.slice none 0 0] ∧ tyZero Tryz.prog 79 = some [Value.pointer none]) ∧ (tyZero Tryz.prog 81 = some [Value.slice none 0 0, Value.slice none 0 0] ∧ (tyZero Tryz.prog 83 = some [Value.nilIface] ∧ tyZero Tryz.prog 9 = some [Value.string ByteArray.empty]))))))) := ⟨⟨⟨⟨⟨⟨tb25, te104⟩, ⟨te25, ⟨te28, te39⟩⟩⟩, ⟨⟨te54, tf107_0⟩, ⟨tf107_1, ⟨tf107_2, tf107_3⟩⟩⟩⟩, ⟨⟨⟨tf107_4, tf107_5⟩, ⟨tf107_6, ⟨tf107_7, tf30_0⟩⟩⟩, ⟨⟨tf41_0, tf41_1⟩, ⟨tf41_2, ⟨tf81_0, tf81_1⟩⟩⟩⟩⟩, ⟨⟨⟨⟨tk104, tk107⟩, ⟨tk25, ⟨tk28, tk3⟩⟩⟩, ⟨⟨tk30, tk39⟩, ⟨tk4, ⟨tk41, tk5⟩⟩⟩⟩, ⟨⟨⟨tk54, tk79⟩, ⟨tk81, ⟨tk83, tk9⟩⟩⟩, ⟨⟨tp107, tp30⟩, ⟨tp41, ⟨tp81, tr104⟩⟩⟩⟩⟩⟩, ⟨⟨⟨⟨⟨tr107, tr25⟩, ⟨tr28, ⟨tr3, tr30⟩⟩⟩, ⟨⟨tr39, tr4⟩, ⟨tr41, ⟨tr5, tr54⟩⟩⟩⟩, ⟨⟨⟨tr79, tr81⟩, ⟨tr83, ⟨tr9, tu104⟩⟩⟩, ⟨⟨tu25, tu28⟩, ⟨tu3, ⟨tu39, tu4⟩⟩⟩⟩⟩, ⟨⟨⟨⟨tu5, tu54⟩, ⟨tu79, ⟨tu83, tu9⟩⟩⟩, ⟨⟨tz104, tz107⟩, ⟨tz25, ⟨tz28, tz3⟩⟩⟩⟩, ⟨⟨⟨tz30, tz39⟩, ⟨tz4, ⟨tz41, tz5⟩⟩⟩, ⟨⟨tz54, tz79⟩, ⟨tz81, ⟨tz83, tz9⟩⟩⟩⟩⟩⟩⟩
set_option maxRecDepth 100000 in
set_option maxHeartbeats 1000000 in
theorem checkedI_c (hD : DB M D) (hM : M ≤ 1048576) (hb : b.length ≤ 1048576) {f : Nat} (H : RdOK D b f) {n : Nat} {r : RuleD} (hr : D[n]? = some r) (hn : n ≤ f) (G : GoodR D n r) (hk : r.kind = 9) (p : Nat) (hp : p ≤ b.length) : RdC D b 117 [.d (frD D b), .d (encR r), .d (iD p)] (rd D b (f + 1) n p) := by
  have hrb := hD.rule r (List.mem_of_getElem? hr)
  have g1 := G.k9 hk
  have hrd := ruleD_get hr
  have hnl : n < D.length := (List.getElem?_eq_some_iff.1 hr).1
  have HI := itemsI_k H 0 r.kids (by omega) (fun i hi => by have := G.kid i hi; omega) p hp
  have e : r.kids.map Int.toNat = [(kid0 r).toNat] := by
    match hq : r.kids, g1 with
    | [y], _ => simp [kid0, hq]
  rw [e] at HI
  have hin := mkItems_in (n := 0) (rdItems_in (fun k p hp => rd_in D b f k p hp) [(kid0 r).toNat] p hp)
  have ham := atItems_mk (f := rd D b f) (ks := [(kid0 r).toNat]) (n := 0) (p := p)
  generalize atItems (rd D b f) [(kid0 r).toNat] p = am at *
  cases hm : mkItems 0 (rdItems (rd D b f) [(kid0 r).toNat] p) with
  | mk v y =>
    obtain ⟨q, c⟩ := y
    rw [hm] at HI hin ham
    obtain ⟨hin1, hin2⟩ := hin
    simp only at hin1 hin2 ham
    by_cases hc0 : c = 0
    · subst hc0
      obtain rfl := ham rfl
      rw [rdE_0] at HI
      have HT := take_c (D := D) hb am hin2 1 ⟨by omega, by omega⟩
      cases hq : b[am]? with
      | none =>
        have hpl : b.length ≤ am := List.getElem?_eq_none_iff.1 hq
        rw [rd_9n hrd hk hm hq]
        rw [if_pos (by omega)] at HT
        refine ⟨p, fun h => (by cases h), ?_⟩
        refine calls_body Tryz.func117 rfl Tryz.call117 Tryz.ntmps117 (by simp) (by simp [ArgsOk]) (by simp [Rz.nkL, Rz.nk]) fun en hsz hks hk0 => ?_; simp only [St.init, frOf, Rz.addSL, Rz.addS, Rz.toAL, Rz.toA, Rz.nk, List.zipIdx_cons, List.zipIdx_nil, List.map_cons, List.map_nil, Nat.zero_add, Nat.reduceAdd]
        (repeat (first | refine walkS ?_ | (refine callPre ?_; (first | refine callN_funS rfl (HI) ?_)) | (refine callPreL ?_; (first | refine callL_funS rfl (HI) ?_))))
        refine aw_condS rfl (fun hc => ?_) (fun hc => ?_)
        · (first | exact absurd trivial hc | exact absurd rfl hc | (cases hc; done) | omega | exact absurd hc (by decide) | (simp at hc; done))
        (repeat (first | refine walkS ?_ | (refine callPre ?_; (first | refine callN_funS rfl (HT) ?_)) | (refine callPreL ?_; (first | refine callL_funS rfl (HT) ?_))))
        refine aw_condS rfl (fun hc => ?_) (fun hc => ?_)
        · refine walkS ?_
          (refine aw_ret ?_; (simp only [Fin, Tryz.results117]; refine finS ?_); refine ⟨_, [], .inr (.inl ⟨.tup [encV V0, iD (p : Nat), erD am 1], rfl, rfl, ?_⟩), List.nodup_nil, rfl⟩; exact wkDS)
        · (first | exact absurd trivial hc | exact absurd rfl hc | (cases hc; done) | omega | exact absurd hc (by decide) | (simp at hc; done))
      | some s =>
        have hpl := get_lt hq
        have hle := u8le s
        rw [if_neg (by omega)] at HT
        have hi : (List.take (Int.toNat 1) (List.drop am b))[0]? = some s := by rw [List.getElem?_take_of_lt (by decide), List.getElem?_drop, Nat.add_zero, hq]
        by_cases hs : s.toNat = sumB ((b.drop p).take (am - p))
        · rw [rd_9s hrd hk hm hq hs]
          refine ⟨am + 1, fun _ => rfl, ?_⟩
          refine calls_body Tryz.func117 rfl Tryz.call117 Tryz.ntmps117 (by simp) (by simp [ArgsOk]) (by simp [Rz.nkL, Rz.nk]) fun en hsz hks hk0 => ?_; simp only [St.init, frOf, Rz.addSL, Rz.addS, Rz.toAL, Rz.toA, Rz.nk, List.zipIdx_cons, List.zipIdx_nil, List.map_cons, List.map_nil, Nat.zero_add, Nat.reduceAdd]
          (repeat (first | refine walkS ?_ | (refine callPre ?_; (first | refine callN_funS rfl (HI) ?_)) | (refine callPreL ?_; (first | refine callL_funS rfl (HI) ?_))))
          refine aw_condS rfl (fun hc => ?_) (fun hc => ?_)
          · (first | exact absurd trivial hc | exact absurd rfl hc | (cases hc; done) | omega | exact absurd hc (by decide) | (simp at hc; done))
          (repeat (first | refine walkS ?_ | (refine callPre ?_; (first | refine callN_funS rfl (HT) ?_)) | (refine callPreL ?_; (first | refine callL_funS rfl (HT) ?_))))
          refine aw_condS rfl (fun hc => ?_) (fun hc => ?_)
          · (first | exact absurd trivial hc | exact absurd rfl hc | (cases hc; done) | omega | exact absurd hc (by decide) | (simp at hc; done))
          (repeat (first | refine walkS ?_ | (refine callPre ?_; (first | refine callN_funS rfl ((sumI_c (l := List.take (am - p) (List.drop p b)) (by simp; omega))) ?_)) | (refine callPreL ?_; (first | refine callL_funS rfl ((sumI_c (l := List.take (am - p) (List.drop p b)) (by simp; omega))) ?_))))
          refine aw_condS rfl (fun hc => ?_) (fun hc => ?_)
          · omega
          · refine walkS ?_
            (refine aw_ret ?_; (simp only [Fin, Tryz.results117]; refine finS ?_); refine ⟨_, [], .inr (.inl ⟨.tup [encV v, iD ((am : Int) + 1), nilE], rfl, rfl, ?_⟩), List.nodup_nil, rfl⟩; exact wkDS)
        · rw [rd_9f hrd hk hm hq hs]
          refine ⟨p, fun h => (by cases h), ?_⟩
          refine calls_body Tryz.func117 rfl Tryz.call117 Tryz.ntmps117 (by simp) (by simp [ArgsOk]) (by simp [Rz.nkL, Rz.nk]) fun en hsz hks hk0 => ?_; simp only [St.init, frOf, Rz.addSL, Rz.addS, Rz.toAL, Rz.toA, Rz.nk, List.zipIdx_cons, List.zipIdx_nil, List.map_cons, List.map_nil, Nat.zero_add, Nat.reduceAdd]
          (repeat (first | refine walkS ?_ | (refine callPre ?_; (first | refine callN_funS rfl (HI) ?_)) | (refine callPreL ?_; (first | refine callL_funS rfl (HI) ?_))))
          refine aw_condS rfl (fun hc => ?_) (fun hc => ?_)
          · (first | exact absurd trivial hc | exact absurd rfl hc | (cases hc; done) | omega | exact absurd hc (by decide) | (simp at hc; done))
          (repeat (first | refine walkS ?_ | (refine callPre ?_; (first | refine callN_funS rfl (HT) ?_)) | (refine callPreL ?_; (first | refine callL_funS rfl (HT) ?_))))
          refine aw_condS rfl (fun hc => ?_) (fun hc => ?_)
          · (first | exact absurd trivial hc | exact absurd rfl hc | (cases hc; done) | omega | exact absurd hc (by decide) | (simp at hc; done))
          (repeat (first | refine walkS ?_ | (refine callPre ?_; (first | refine callN_funS rfl ((sumI_c (l := List.take (am - p) (List.drop p b)) (by simp; omega))) ?_)) | (refine callPreL ?_; (first | refine callL_funS rfl ((sumI_c (l := List.take (am - p) (List.drop p b)) (by simp; omega))) ?_))))
          refine aw_condS rfl (fun hc => ?_) (fun hc => ?_)
          · (repeat (first | refine walkS ?_ | (refine callPre ?_; (first | refine callN_funS rfl (fail_c am 5) ?_)) | (refine callPreL ?_; (first | refine callL_funS rfl (fail_c am 5) ?_))))
            (refine aw_ret ?_; (simp only [Fin, Tryz.results117]; refine finS ?_); refine ⟨_, [], .inr (.inl ⟨.tup [encV V0, iD (p : Nat), erD am 5], rfl, rfl, ?_⟩), List.nodup_nil, rfl⟩; exact wkDS)
          · omega
    · rw [rd_9e hrd hk hm hc0]
      have hv : v = V0 := by
        unfold mkItems at hm
        split at hm
        · simp only [Prod.mk.injEq] at hm; omega
        · simp only [Prod.mk.injEq] at hm; exact hm.1.symm
      subst hv
      rw [rdE_p hc0] at HI
      refine ⟨p, fun h => absurd h hc0, ?_⟩
      rw [rdE_p hc0]
      refine calls_body Tryz.func117 rfl Tryz.call117 Tryz.ntmps117 (by simp) (by simp [ArgsOk]) (by simp [Rz.nkL, Rz.nk]) fun en hsz hks hk0 => ?_; simp only [St.init, frOf, Rz.addSL, Rz.addS, Rz.toAL, Rz.toA, Rz.nk, List.zipIdx_cons, List.zipIdx_nil, List.map_cons, List.map_nil, Nat.zero_add, Nat.reduceAdd]
      (repeat (first | refine walkS ?_ | (refine callPre ?_; (first | refine callN_funS rfl (HI) ?_)) | (refine callPreL ?_; (first | refine callL_funS rfl (HI) ?_))))
      refine aw_condS rfl (fun hc => ?_) (fun hc => ?_)
      · refine walkS ?_
        (refine aw_ret ?_; (simp only [Fin, Tryz.results117]; refine finS ?_); refine ⟨_, [], .inr (.inl ⟨.tup [encV V0, iD (p : Nat), erD q c], rfl, rfl, ?_⟩), List.nodup_nil, rfl⟩; exact wkDS)
      · (first | exact absurd trivial hc | exact absurd rfl hc | (cases hc; done) | omega | exact absurd hc (by decide) | (simp at hc; done))
end
end Go.Proofs.YtoegmaebdihnaaaGreatDoor.Eng
