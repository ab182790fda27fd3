/-
  Items of a file.
-/
import Derived.Test.YtoegmaebdihnaaaDoorKN4
set_option linter.unusedSimpArgs false
set_option linter.unusedVariables false
namespace Go.Proofs.YtoegmaebdihnaaaDoor.Eng
open Go Go.RowKit

section
variable {M : Nat} {D : List RuleD} {b : List UInt8}
/-- The reader works for every rule below f. -/
def ReadOK (D : List RuleD) (b : List UInt8) (f : Nat) : Prop := ∀ n p : Nat, n < f → n < D.length → p ≤ b.length → AC Tryd.prog 37 [.d (encD D), .d (iD n), .d (encB b), .d (iD p)] none (fun r _ => r = rdR (rd D b f n p))

private theorem tyF : ((((((bytesT Tryd.prog 25 = true ∧ tyElem Tryd.prog 25 = some 5) ∧ (tyElem Tryd.prog 28 = some 55 ∧ tyElem Tryd.prog 46 = some 9)) ∧ ((tyElem Tryd.prog 47 = some 3 ∧ tyElem Tryd.prog 50 = some 52) ∧ (tyField Tryd.prog 30 0 = some (0, 28) ∧ tyField Tryd.prog 52 0 = some (0, 3)))) ∧ (((tyField Tryd.prog 52 1 = some (1, 25) ∧ tyField Tryd.prog 52 2 = some (2, 50)) ∧ (tyField Tryd.prog 55 0 = some (0, 9) ∧ tyField Tryd.prog 55 1 = some (1, 3))) ∧ ((tyField Tryd.prog 55 2 = some (2, 3) ∧ tyField Tryd.prog 55 3 = some (3, 4)) ∧ (tyField Tryd.prog 55 4 = some (4, 25) ∧ tyField Tryd.prog 55 5 = some (5, 46))))) ∧ ((((tyField Tryd.prog 55 6 = some (6, 47) ∧ tyField Tryd.prog 55 7 = some (7, 47)) ∧ (tyK Tryd.prog 25 = some (false, 1) ∧ tyK Tryd.prog 28 = some (false, 1))) ∧ ((tyK Tryd.prog 3 = some (false, 1) ∧ tyK Tryd.prog 30 = some (true, 1)) ∧ (tyK Tryd.prog 4 = some (false, 1) ∧ tyK Tryd.prog 46 = some (false, 1)))) ∧ (((tyK Tryd.prog 47 = some (false, 1) ∧ tyK Tryd.prog 5 = some (false, 1)) ∧ (tyK Tryd.prog 50 = some (false, 1) ∧ tyK Tryd.prog 52 = some (true, 3))) ∧ ((tyK Tryd.prog 55 = some (true, 8) ∧ tyK Tryd.prog 9 = some (false, 1)) ∧ (tyPlaces Tryd.prog 30 = some [(0, 1)] ∧ (tyPlaces Tryd.prog 52 = some [(0, 1), (1, 1), (2, 1)] ∧ tyPlaces Tryd.prog 55 = some [(0, 1), (1, 1), (2, 1), (3, 1), (4, 1), (5, 1), (6, 1), (7, 1)])))))) ∧ (((((tyRow Tryd.prog 25 = some 1 ∧ tyRow Tryd.prog 28 = some 1) ∧ (tyRow Tryd.prog 3 = some 1 ∧ tyRow Tryd.prog 30 = some 1)) ∧ ((tyRow Tryd.prog 4 = some 1 ∧ tyRow Tryd.prog 46 = some 1) ∧ (tyRow Tryd.prog 47 = some 1 ∧ tyRow Tryd.prog 5 = some 1))) ∧ (((tyRow Tryd.prog 50 = some 1 ∧ tyRow Tryd.prog 52 = some 3) ∧ (tyRow Tryd.prog 55 = some 8 ∧ tyRow Tryd.prog 9 = some 1)) ∧ ((Tryd.prog.underlying 25 = some (TypeDesc.slice 5) ∧ Tryd.prog.underlying 28 = some (TypeDesc.slice 55)) ∧ (Tryd.prog.underlying 3 = some (TypeDesc.int IntKind.i64) ∧ Tryd.prog.underlying 4 = some (TypeDesc.bool))))) ∧ ((((Tryd.prog.underlying 46 = some (TypeDesc.slice 9) ∧ Tryd.prog.underlying 47 = some (TypeDesc.slice 3)) ∧ (Tryd.prog.underlying 5 = some (TypeDesc.int IntKind.u8) ∧ Tryd.prog.underlying 50 = some (TypeDesc.slice 52))) ∧ ((Tryd.prog.underlying 9 = some (TypeDesc.string) ∧ tyZero Tryd.prog 25 = some [Value.slice none 0 0]) ∧ (tyZero Tryd.prog 28 = some [Value.slice none 0 0] ∧ tyZero Tryd.prog 3 = some [Value.int IntKind.i64 0]))) ∧ (((tyZero Tryd.prog 30 = some [Value.slice none 0 0] ∧ tyZero Tryd.prog 4 = some [Value.bool false]) ∧ (tyZero Tryd.prog 46 = some [Value.slice none 0 0] ∧ tyZero Tryd.prog 47 = some [Value.slice none 0 0])) ∧ ((tyZero Tryd.prog 5 = some [Value.int IntKind.u8 0] ∧ tyZero Tryd.prog 50 = some [Value.slice none 0 0]) ∧ (tyZero Tryd.prog 52 = some [Value.int IntKind.i64 0, Value.slice none 0 0, Value.slice none 0 0] ∧ (tyZero Tryd.prog 55 = some [Value.string ByteArray.empty, Value.int IntKind.i64 0, Value.int IntKind.i64 0, Value.bool false, Value.slice none 0 0, Value.slice none 0 0, Value.slice none 0 0, Value.slice none 0 0] ∧ tyZero Tryd.prog 9 = some [Value.string ByteArray.empty]))))))) := ⟨⟨⟨⟨⟨⟨tb25, te25⟩, ⟨te28, te46⟩⟩, ⟨⟨te47, te50⟩, ⟨tf30_0, tf52_0⟩⟩⟩, ⟨⟨⟨tf52_1, tf52_2⟩, ⟨tf55_0, tf55_1⟩⟩, ⟨⟨tf55_2, tf55_3⟩, ⟨tf55_4, tf55_5⟩⟩⟩⟩, ⟨⟨⟨⟨tf55_6, tf55_7⟩, ⟨tk25, tk28⟩⟩, ⟨⟨tk3, tk30⟩, ⟨tk4, tk46⟩⟩⟩, ⟨⟨⟨tk47, tk5⟩, ⟨tk50, tk52⟩⟩, ⟨⟨tk55, tk9⟩, ⟨tp30, ⟨tp52, tp55⟩⟩⟩⟩⟩⟩, ⟨⟨⟨⟨⟨tr25, tr28⟩, ⟨tr3, tr30⟩⟩, ⟨⟨tr4, tr46⟩, ⟨tr47, tr5⟩⟩⟩, ⟨⟨⟨tr50, tr52⟩, ⟨tr55, tr9⟩⟩, ⟨⟨tu25, tu28⟩, ⟨tu3, tu4⟩⟩⟩⟩, ⟨⟨⟨⟨tu46, tu47⟩, ⟨tu5, tu50⟩⟩, ⟨⟨tu9, tz25⟩, ⟨tz28, tz3⟩⟩⟩, ⟨⟨⟨tz30, tz4⟩, ⟨tz46, tz47⟩⟩, ⟨⟨tz5, tz50⟩, ⟨tz52, ⟨tz55, tz9⟩⟩⟩⟩⟩⟩⟩
set_option maxRecDepth 100000 in
set_option maxHeartbeats 1000000 in
theorem l11Items_c {f : Nat} (H : ReadOK D b f) {r : RuleD} (hr : RB M r) (hM : M ≤ 1048576) (number : Int) (h5 : r.kind = 5 → 2 ≤ r.kids.length) (h7 : r.kind = 7 → r.kids.length = r.tags.length + 1) (h8 : r.kind = 8 ∨ r.kind = 9 → 1 ≤ r.kids.length)
    (ks : List Nat) (hkl : ks.length ≤ 1048576) (hkr : ∀ i (hi : i < ks.length), itemK r number i = (ks[i] : Int) ∧ ks[i] < f ∧ ks[i] < D.length) (p : Nat) (hp : p ≤ b.length) : AC Tryd.prog 45 [.d (encD D), .d (encR r), .d (iD number), .d (iD ks.length), .d (encB b), .d (iD p)] none (fun r' _ => r' = rdR (mkItems 0 (rdItems (rd D b f) ks p))) := by
  refine calls_body Tryd.func45 rfl Tryd.call45 Tryd.ntmps45 (by simp) (by simp [ArgsOk]) (by simp [Rz.nkL, Rz.nk]) fun en hsz hks hk0 => ?_; simp only [St.init, frOf, Rz.addSL, Rz.addS, Rz.toAL, Rz.toA, Rz.nk, List.zipIdx_cons, List.zipIdx_nil, List.map_cons, List.map_nil, Nat.zero_add, Nat.reduceAdd]
  refine walkS ?_
  refine aw_loopS [2, 3, 4, 6, 7, 12, 13, 14, 15] (fun κ s' => [(κ, keyB s' 64 2)]) (fun κ x => [(16, .d (iD (x.1 : Nat))), (5, .d (iD (x.2.1 : Nat)))]) [64] (fun κ x => [(64, some [.d (iD 0), .d (.v (.slice none 0 0)), .own κ 52 3 (encVs x.2.2)])]) [] (fun κ x => [(κ, some (x.2.2.length, 52, 3))]) (fun x : Nat × Nat × List V => x.1 ≤ ks.length ∧ x.2.1 ≤ b.length ∧ x.2.2.length = x.1 ∧ rdItems (rd D b f) ks p = joinItems x.2.2 (rdItems (rd D b f) (ks.drop x.1) x.2.1)) (fun x => ks.length - x.1) ((0, p, [])) hks (fun _ => rfl) ⟨Nat.zero_le _, hp, rfl, joinItems_start _ _ _⟩ wkS ?_; intro x hx; simp (decide := true) only [St.head, List.map_cons, List.map_nil, lk, rmv, List.cons_append, List.nil_append, List.append_nil, reduceIte, Nat.reduceAdd]
  obtain ⟨k, q, vs⟩ := x
  simp only at hx ⊢
  obtain ⟨hx1, hx2, hx3, hx4⟩ := hx
  refine walkS ?_
  refine aw_condS rfl (fun hk => ?_) (fun hk => ?_)
  · obtain ⟨hk1, hk2, hk3⟩ := hkr k (by omega)
    have hin := rd_in D b f ks[k] q hx2
    (repeat (first | refine walkS ?_ | (refine callPre ?_; (first | refine callN_funS rfl ((l9Item_c hr hM number k h5 h7 h8).eqv (r1 := .d (iD (ks[k] : Nat))) (by rw [hk1])) ?_ | refine callN_funS rfl (H _ _ hk2 hk3 hx2) ?_)) | (refine callPreL ?_; (first | refine callL_funS rfl ((l9Item_c hr hM number k h5 h7 h8).eqv (r1 := .d (iD (ks[k] : Nat))) (by rw [hk1])) ?_ | refine callL_funS rfl (H _ _ hk2 hk3 hx2) ?_))))
    generalize hres : rd D b f ks[k] q = res at *
    obtain ⟨v, q2, c⟩ := res
    obtain ⟨hin1, hin2⟩ := hin
    simp only at hin1 hin2
    have hdk : ks.drop k = ks[k] :: ks.drop (k + 1) := List.drop_eq_getElem_cons (by omega)
    refine aw_condS rfl (fun hcode => ?_) (fun hcode => ?_)
    · refine walkS ?_
      have hbad := joinItems_bad (f := rd D b f) (vs := vs) (k := ks[k]) (ks := ks.drop (k + 1)) (q := q) (by rw [hres]; simp only; omega)
      (refine aw_ret ?_; (simp only [Fin, Tryd.results45]; refine finS ?_); refine ⟨_, [], .inr (.inl ⟨.tup [encV V0, iD (q2 : Int), iD (c : Int)], rfl, rfl, ?_⟩), List.nodup_nil, by rw [hx4, hdk, hbad, hres]; simp only [mkItems]; rw [if_neg (by omega)]⟩; exact wkDS)
    · have hok := joinItems_ok (f := rd D b f) (vs := vs) (k := ks[k]) (ks := ks.drop (k + 1)) (q := q) (by rw [hres]; simp only; omega)
      refine walkS ?_
      refine ⟨(k + 1, q2, vs ++ [v]), ⟨by simp only; omega, hin2, by simp [hx3], by simp only; rw [hx4, hdk, hok, hres]⟩, by simp only; omega, ?_⟩
      exact wkS
  · refine walkS ?_
    (refine aw_ret ?_; (simp only [Fin, Tryd.results45]; refine finS ?_); refine ⟨_, [], .inr (.inl ⟨.tup [encV (.mk 0 [] vs), iD (q : Int), iD 0], rfl, rfl, ?_⟩), List.nodup_nil, by rw [hx4, List.drop_eq_nil_of_le (by omega), joinItems_end]; rfl⟩; exact wkDS)
end
end Go.Proofs.YtoegmaebdihnaaaDoor.Eng
