/-
  Items of a file.
-/
import Derived.Test.YtoegmaebdihnaaaGreatDoorKN4
set_option linter.unusedSimpArgs false
set_option linter.unusedVariables false
namespace Go.Proofs.YtoegmaebdihnaaaGreatDoor.Eng
open Go Go.RowKit

section
variable {M : Nat} {D : List RuleD} {b : List UInt8}
/-- The reader works for every rule below f. -/
def ReadOK (D : List RuleD) (b : List UInt8) (f : Nat) : Prop := ∀ n p : Nat, n < f → n < D.length → p ≤ b.length → AC Tryz.prog 70 [.d (encD D), .d (iD n), .d (encB b), .d (iD p)] none (fun r _ => r = rdR (rd D b f n p))

private theorem tyF : ((((((bytesT Tryz.prog 25 = true ∧ tyElem Tryz.prog 104 = some 9) ∧ (tyElem Tryz.prog 25 = some 5 ∧ tyElem Tryz.prog 28 = some 107)) ∧ ((tyElem Tryz.prog 39 = some 41 ∧ tyElem Tryz.prog 54 = some 3) ∧ (tyField Tryz.prog 107 0 = some (0, 9) ∧ tyField Tryz.prog 107 1 = some (1, 3)))) ∧ (((tyField Tryz.prog 107 2 = some (2, 3) ∧ tyField Tryz.prog 107 3 = some (3, 4)) ∧ (tyField Tryz.prog 107 4 = some (4, 25) ∧ tyField Tryz.prog 107 5 = some (5, 104))) ∧ ((tyField Tryz.prog 107 6 = some (6, 54) ∧ tyField Tryz.prog 107 7 = some (7, 54)) ∧ (tyField Tryz.prog 30 0 = some (0, 28) ∧ tyField Tryz.prog 41 0 = some (0, 3))))) ∧ ((((tyField Tryz.prog 41 1 = some (1, 25) ∧ tyField Tryz.prog 41 2 = some (2, 39)) ∧ (tyK Tryz.prog 104 = some (false, 1) ∧ tyK Tryz.prog 107 = some (true, 8))) ∧ ((tyK Tryz.prog 25 = some (false, 1) ∧ tyK Tryz.prog 28 = some (false, 1)) ∧ (tyK Tryz.prog 3 = some (false, 1) ∧ tyK Tryz.prog 30 = some (true, 1)))) ∧ (((tyK Tryz.prog 39 = some (false, 1) ∧ tyK Tryz.prog 4 = some (false, 1)) ∧ (tyK Tryz.prog 41 = some (true, 3) ∧ tyK Tryz.prog 5 = some (false, 1))) ∧ ((tyK Tryz.prog 54 = some (false, 1) ∧ tyK Tryz.prog 9 = some (false, 1)) ∧ (tyPlaces Tryz.prog 107 = some [(0, 1), (1, 1), (2, 1), (3, 1), (4, 1), (5, 1), (6, 1), (7, 1)] ∧ (tyPlaces Tryz.prog 30 = some [(0, 1)] ∧ tyPlaces Tryz.prog 41 = some [(0, 1), (1, 1), (2, 1)])))))) ∧ (((((tyRow Tryz.prog 104 = some 1 ∧ tyRow Tryz.prog 107 = some 8) ∧ (tyRow Tryz.prog 25 = some 1 ∧ tyRow Tryz.prog 28 = some 1)) ∧ ((tyRow Tryz.prog 3 = some 1 ∧ tyRow Tryz.prog 30 = some 1) ∧ (tyRow Tryz.prog 39 = some 1 ∧ tyRow Tryz.prog 4 = some 1))) ∧ (((tyRow Tryz.prog 41 = some 3 ∧ tyRow Tryz.prog 5 = some 1) ∧ (tyRow Tryz.prog 54 = some 1 ∧ tyRow Tryz.prog 9 = some 1)) ∧ ((Tryz.prog.underlying 104 = some (TypeDesc.slice 9) ∧ Tryz.prog.underlying 25 = some (TypeDesc.slice 5)) ∧ (Tryz.prog.underlying 28 = some (TypeDesc.slice 107) ∧ Tryz.prog.underlying 3 = some (TypeDesc.int IntKind.i64))))) ∧ ((((Tryz.prog.underlying 39 = some (TypeDesc.slice 41) ∧ Tryz.prog.underlying 4 = some (TypeDesc.bool)) ∧ (Tryz.prog.underlying 5 = some (TypeDesc.int IntKind.u8) ∧ Tryz.prog.underlying 54 = some (TypeDesc.slice 3))) ∧ ((Tryz.prog.underlying 9 = some (TypeDesc.string) ∧ tyZero Tryz.prog 104 = some [Value.slice none 0 0]) ∧ (tyZero Tryz.prog 107 = some [Value.string ByteArray.empty, Value.int IntKind.i64 0, Value.int IntKind.i64 0, Value.bool false, Value.slice none 0 0, Value.slice none 0 0, Value.slice none 0 0, Value.slice none 0 0] ∧ tyZero Tryz.prog 25 = some [Value.slice none 0 0]))) ∧ (((tyZero Tryz.prog 28 = some [Value.slice none 0 0] ∧ tyZero Tryz.prog 3 = some [Value.int IntKind.i64 0]) ∧ (tyZero Tryz.prog 30 = some [Value.slice none 0 0] ∧ tyZero Tryz.prog 39 = some [Value.slice none 0 0])) ∧ ((tyZero Tryz.prog 4 = some [Value.bool false] ∧ tyZero Tryz.prog 41 = some [Value.int IntKind.i64 0, Value.slice none 0 0, Value.slice none 0 0]) ∧ (tyZero Tryz.prog 5 = some [Value.int IntKind.u8 0] ∧ (tyZero Tryz.prog 54 = some [Value.slice none 0 0] ∧ tyZero Tryz.prog 9 = some [Value.string ByteArray.empty]))))))) := ⟨⟨⟨⟨⟨⟨tb25, te104⟩, ⟨te25, te28⟩⟩, ⟨⟨te39, te54⟩, ⟨tf107_0, tf107_1⟩⟩⟩, ⟨⟨⟨tf107_2, tf107_3⟩, ⟨tf107_4, tf107_5⟩⟩, ⟨⟨tf107_6, tf107_7⟩, ⟨tf30_0, tf41_0⟩⟩⟩⟩, ⟨⟨⟨⟨tf41_1, tf41_2⟩, ⟨tk104, tk107⟩⟩, ⟨⟨tk25, tk28⟩, ⟨tk3, tk30⟩⟩⟩, ⟨⟨⟨tk39, tk4⟩, ⟨tk41, tk5⟩⟩, ⟨⟨tk54, tk9⟩, ⟨tp107, ⟨tp30, tp41⟩⟩⟩⟩⟩⟩, ⟨⟨⟨⟨⟨tr104, tr107⟩, ⟨tr25, tr28⟩⟩, ⟨⟨tr3, tr30⟩, ⟨tr39, tr4⟩⟩⟩, ⟨⟨⟨tr41, tr5⟩, ⟨tr54, tr9⟩⟩, ⟨⟨tu104, tu25⟩, ⟨tu28, tu3⟩⟩⟩⟩, ⟨⟨⟨⟨tu39, tu4⟩, ⟨tu5, tu54⟩⟩, ⟨⟨tu9, tz104⟩, ⟨tz107, tz25⟩⟩⟩, ⟨⟨⟨tz28, tz3⟩, ⟨tz30, tz39⟩⟩, ⟨⟨tz4, tz41⟩, ⟨tz5, ⟨tz54, tz9⟩⟩⟩⟩⟩⟩⟩
set_option maxRecDepth 100000 in
set_option maxHeartbeats 1000000 in
theorem l11Items_c {f : Nat} (H : ReadOK D b f) {r : RuleD} (hr : RB M r) (hM : M ≤ 1048576) (number : Int) (h5 : r.kind = 5 → 2 ≤ r.kids.length) (h7 : r.kind = 7 → r.kids.length = r.tags.length + 1) (h8 : r.kind = 8 ∨ r.kind = 9 → 1 ≤ r.kids.length)
    (ks : List Nat) (hkl : ks.length ≤ 1048576) (hkr : ∀ i (hi : i < ks.length), itemK r number i = (ks[i] : Int) ∧ ks[i] < f ∧ ks[i] < D.length) (p : Nat) (hp : p ≤ b.length) : AC Tryz.prog 104 [.d (encD D), .d (encR r), .d (iD number), .d (iD ks.length), .d (encB b), .d (iD p)] none (fun r' _ => r' = rdR (mkItems 0 (rdItems (rd D b f) ks p))) := by
  refine calls_body Tryz.func104 rfl Tryz.call104 Tryz.ntmps104 (by simp) (by simp [ArgsOk]) (by simp [Rz.nkL, Rz.nk]) fun en hsz hks hk0 => ?_; simp only [St.init, frOf, Rz.addSL, Rz.addS, Rz.toAL, Rz.toA, Rz.nk, List.zipIdx_cons, List.zipIdx_nil, List.map_cons, List.map_nil, Nat.zero_add, Nat.reduceAdd]
  refine walkS ?_
  refine aw_loopS [2, 3, 4, 6, 7, 12, 13, 14, 15] (fun κ s' => [(κ, keyB s' 64 2)]) (fun κ x => [(16, .d (iD (x.1 : Nat))), (5, .d (iD (x.2.1 : Nat)))]) [64] (fun κ x => [(64, some [.d (iD 0), .d (.v (.slice none 0 0)), .own κ 41 3 (encVs x.2.2)])]) [] (fun κ x => [(κ, some (x.2.2.length, 41, 3))]) (fun x : Nat × Nat × List V => x.1 ≤ ks.length ∧ x.2.1 ≤ b.length ∧ x.2.2.length = x.1 ∧ rdItems (rd D b f) ks p = joinItems x.2.2 (rdItems (rd D b f) (ks.drop x.1) x.2.1)) (fun x => ks.length - x.1) ((0, p, [])) hks (fun _ => rfl) ⟨Nat.zero_le _, hp, rfl, joinItems_start _ _ _⟩ wkS ?_; intro x hx; simp (decide := true) only [St.head, List.map_cons, List.map_nil, lk, rmv, List.cons_append, List.nil_append, List.append_nil, reduceIte, Nat.reduceAdd]
  obtain ⟨k, q, vs⟩ := x
  simp only at hx ⊢
  obtain ⟨hx1, hx2, hx3, hx4⟩ := hx
  refine walkS ?_
  refine aw_condS rfl (fun hk => ?_) (fun hk => ?_)
  · obtain ⟨hk1, hk2, hk3⟩ := hkr k (by omega)
    have hin := rd_in D b f ks[k] q hx2
    (repeat (first | refine walkS ?_ | (refine callPre ?_; (first | refine callN_funS rfl ((l9Item_c hr hM number k h5 h7 h8).eqv (r1 := .d (iD (ks[k] : Nat))) (by rw [hk1])) ?_ | refine callN_funS rfl (H _ _ hk2 hk3 hx2) ?_)) | (refine callPreL ?_; (first | refine callL_funS rfl ((l9Item_c hr hM number k h5 h7 h8).eqv (r1 := .d (iD (ks[k] : Nat))) (by rw [hk1])) ?_ | refine callL_funS rfl (H _ _ hk2 hk3 hx2) ?_))))
    generalize hres : rd D b f ks[k] q = res at *
    obtain ⟨v, q2, c⟩ := res
    obtain ⟨hin1, hin2⟩ := hin
    simp only at hin1 hin2
    have hdk : ks.drop k = ks[k] :: ks.drop (k + 1) := List.drop_eq_getElem_cons (by omega)
    refine aw_condS rfl (fun hcode => ?_) (fun hcode => ?_)
    · refine walkS ?_
      have hbad := joinItems_bad (f := rd D b f) (vs := vs) (k := ks[k]) (ks := ks.drop (k + 1)) (q := q) (by rw [hres]; simp only; omega)
      (refine aw_ret ?_; (simp only [Fin, Tryz.results104]; refine finS ?_); refine ⟨_, [], .inr (.inl ⟨.tup [encV V0, iD (q2 : Int), iD (c : Int)], rfl, rfl, ?_⟩), List.nodup_nil, by rw [hx4, hdk, hbad, hres]; simp only [mkItems]; rw [if_neg (by omega)]⟩; exact wkDS)
    · have hok := joinItems_ok (f := rd D b f) (vs := vs) (k := ks[k]) (ks := ks.drop (k + 1)) (q := q) (by rw [hres]; simp only; omega)
      refine walkS ?_
      refine ⟨(k + 1, q2, vs ++ [v]), ⟨by simp only; omega, hin2, by simp [hx3], by simp only; rw [hx4, hdk, hok, hres]⟩, by simp only; omega, ?_⟩
      exact wkS
  · refine walkS ?_
    (refine aw_ret ?_; (simp only [Fin, Tryz.results104]; refine finS ?_); refine ⟨_, [], .inr (.inl ⟨.tup [encV (.mk 0 [] vs), iD (q : Int), iD 0], rfl, rfl, ?_⟩), List.nodup_nil, by rw [hx4, List.drop_eq_nil_of_le (by omega), joinItems_end]; rfl⟩; exact wkDS)
end
end Go.Proofs.YtoegmaebdihnaaaGreatDoor.Eng
