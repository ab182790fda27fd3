/-
  Items of a file.
-/
import Derived.Test.YtmpokibohbhoeaaKN4
set_option linter.unusedSimpArgs false
set_option linter.unusedVariables false
namespace Go.Proofs.Ytmpokibohbhoeaa.Eng
open Go Go.RowKit

section
variable {M : Nat} {D : List RuleD} {b : List UInt8}
/-- The reader works for every rule below f. -/
def ReadOK (D : List RuleD) (b : List UInt8) (f : Nat) : Prop := ∀ n p : Nat, n < f → n < D.length → p ≤ b.length → AC Try.prog 72 [.d (encD D), .d (iD n), .d (encB b), .d (iD p)] none (fun r _ => r = rdR (rd D b f n p))

private theorem tyF : ((((((bytesT Try.prog 22 = true ∧ tyElem Try.prog 106 = some 9) ∧ (tyElem Try.prog 107 = some 3 ∧ tyElem Try.prog 22 = some 5)) ∧ ((tyElem Try.prog 24 = some 109 ∧ tyElem Try.prog 42 = some 44) ∧ (tyField Try.prog 109 0 = some (0, 9) ∧ tyField Try.prog 109 1 = some (1, 3)))) ∧ (((tyField Try.prog 109 2 = some (2, 3) ∧ tyField Try.prog 109 3 = some (3, 4)) ∧ (tyField Try.prog 109 4 = some (4, 22) ∧ tyField Try.prog 109 5 = some (5, 106))) ∧ ((tyField Try.prog 109 6 = some (6, 107) ∧ tyField Try.prog 109 7 = some (7, 107)) ∧ (tyField Try.prog 26 0 = some (0, 24) ∧ tyField Try.prog 44 0 = some (0, 3))))) ∧ ((((tyField Try.prog 44 1 = some (1, 22) ∧ tyField Try.prog 44 2 = some (2, 42)) ∧ (tyK Try.prog 106 = some (false, 1) ∧ tyK Try.prog 107 = some (false, 1))) ∧ ((tyK Try.prog 109 = some (true, 8) ∧ tyK Try.prog 22 = some (false, 1)) ∧ (tyK Try.prog 24 = some (false, 1) ∧ tyK Try.prog 26 = some (true, 1)))) ∧ (((tyK Try.prog 3 = some (false, 1) ∧ tyK Try.prog 4 = some (false, 1)) ∧ (tyK Try.prog 42 = some (false, 1) ∧ tyK Try.prog 44 = some (true, 3))) ∧ ((tyK Try.prog 5 = some (false, 1) ∧ tyK Try.prog 9 = some (false, 1)) ∧ (tyPlaces Try.prog 109 = some [(0, 1), (1, 1), (2, 1), (3, 1), (4, 1), (5, 1), (6, 1), (7, 1)] ∧ (tyPlaces Try.prog 26 = some [(0, 1)] ∧ tyPlaces Try.prog 44 = some [(0, 1), (1, 1), (2, 1)])))))) ∧ (((((tyRow Try.prog 106 = some 1 ∧ tyRow Try.prog 107 = some 1) ∧ (tyRow Try.prog 109 = some 8 ∧ tyRow Try.prog 22 = some 1)) ∧ ((tyRow Try.prog 24 = some 1 ∧ tyRow Try.prog 26 = some 1) ∧ (tyRow Try.prog 3 = some 1 ∧ tyRow Try.prog 4 = some 1))) ∧ (((tyRow Try.prog 42 = some 1 ∧ tyRow Try.prog 44 = some 3) ∧ (tyRow Try.prog 5 = some 1 ∧ tyRow Try.prog 9 = some 1)) ∧ ((Try.prog.underlying 106 = some (TypeDesc.slice 9) ∧ Try.prog.underlying 107 = some (TypeDesc.slice 3)) ∧ (Try.prog.underlying 22 = some (TypeDesc.slice 5) ∧ Try.prog.underlying 24 = some (TypeDesc.slice 109))))) ∧ ((((Try.prog.underlying 3 = some (TypeDesc.int IntKind.i64) ∧ Try.prog.underlying 4 = some (TypeDesc.bool)) ∧ (Try.prog.underlying 42 = some (TypeDesc.slice 44) ∧ Try.prog.underlying 5 = some (TypeDesc.int IntKind.u8))) ∧ ((Try.prog.underlying 9 = some (TypeDesc.string) ∧ tyZero Try.prog 106 = some [Value.slice none 0 0]) ∧ (tyZero Try.prog 107 = some [Value.slice none 0 0] ∧ tyZero Try.prog 109 = some [Value.string ByteArray.empty, Value.int IntKind.i64 0, Value.int IntKind.i64 0, Value.bool false, Value.slice none 0 0, Value.slice none 0 0, Value.slice none 0 0, Value.slice none 0 0]))) ∧ (((tyZero Try.prog 22 = some [Value.slice none 0 0] ∧ tyZero Try.prog 24 = some [Value.slice none 0 0]) ∧ (tyZero Try.prog 26 = some [Value.slice none 0 0] ∧ tyZero Try.prog 3 = some [Value.int IntKind.i64 0])) ∧ ((tyZero Try.prog 4 = some [Value.bool false] ∧ tyZero Try.prog 42 = some [Value.slice none 0 0]) ∧ (tyZero Try.prog 44 = some [Value.int IntKind.i64 0, Value.slice none 0 0, Value.slice none 0 0] ∧ (tyZero Try.prog 5 = some [Value.int IntKind.u8 0] ∧ tyZero Try.prog 9 = some [Value.string ByteArray.empty]))))))) := ⟨⟨⟨⟨⟨⟨tb22, te106⟩, ⟨te107, te22⟩⟩, ⟨⟨te24, te42⟩, ⟨tf109_0, tf109_1⟩⟩⟩, ⟨⟨⟨tf109_2, tf109_3⟩, ⟨tf109_4, tf109_5⟩⟩, ⟨⟨tf109_6, tf109_7⟩, ⟨tf26_0, tf44_0⟩⟩⟩⟩, ⟨⟨⟨⟨tf44_1, tf44_2⟩, ⟨tk106, tk107⟩⟩, ⟨⟨tk109, tk22⟩, ⟨tk24, tk26⟩⟩⟩, ⟨⟨⟨tk3, tk4⟩, ⟨tk42, tk44⟩⟩, ⟨⟨tk5, tk9⟩, ⟨tp109, ⟨tp26, tp44⟩⟩⟩⟩⟩⟩, ⟨⟨⟨⟨⟨tr106, tr107⟩, ⟨tr109, tr22⟩⟩, ⟨⟨tr24, tr26⟩, ⟨tr3, tr4⟩⟩⟩, ⟨⟨⟨tr42, tr44⟩, ⟨tr5, tr9⟩⟩, ⟨⟨tu106, tu107⟩, ⟨tu22, tu24⟩⟩⟩⟩, ⟨⟨⟨⟨tu3, tu4⟩, ⟨tu42, tu5⟩⟩, ⟨⟨tu9, tz106⟩, ⟨tz107, tz109⟩⟩⟩, ⟨⟨⟨tz22, tz24⟩, ⟨tz26, tz3⟩⟩, ⟨⟨tz4, tz42⟩, ⟨tz44, ⟨tz5, tz9⟩⟩⟩⟩⟩⟩⟩
set_option maxRecDepth 100000 in
set_option maxHeartbeats 1000000 in
theorem l11Items_c {f : Nat} (H : ReadOK D b f) {r : RuleD} (hr : RB M r) (hM : M ≤ 1048576) (number : Int) (h5 : r.kind = 5 → 2 ≤ r.kids.length) (h7 : r.kind = 7 → r.kids.length = r.tags.length + 1) (h8 : r.kind = 8 ∨ r.kind = 9 → 1 ≤ r.kids.length)
    (ks : List Nat) (hkl : ks.length ≤ 1048576) (hkr : ∀ i (hi : i < ks.length), itemK r number i = (ks[i] : Int) ∧ ks[i] < f ∧ ks[i] < D.length) (p : Nat) (hp : p ≤ b.length) : AC Try.prog 116 [.d (encD D), .d (encR r), .d (iD number), .d (iD ks.length), .d (encB b), .d (iD p)] none (fun r' _ => r' = rdR (mkItems 0 (rdItems (rd D b f) ks p))) := by
  refine calls_body Try.func116 rfl Try.call116 Try.ntmps116 (by simp) (by simp [ArgsOk]) (by simp [Rz.nkL, Rz.nk]) fun en hsz hks hk0 => ?_; simp only [St.init, frOf, Rz.addSL, Rz.addS, Rz.toAL, Rz.toA, Rz.nk, List.zipIdx_cons, List.zipIdx_nil, List.map_cons, List.map_nil, Nat.zero_add, Nat.reduceAdd]
  refine walkS ?_
  refine aw_loopS [2, 3, 4, 6, 7, 12, 13, 14, 15] (fun κ s' => [(κ, keyB s' 64 2)]) (fun κ x => [(16, .d (iD (x.1 : Nat))), (5, .d (iD (x.2.1 : Nat)))]) [64] (fun κ x => [(64, some [.d (iD 0), .d (.v (.slice none 0 0)), .own κ 44 3 (encVs x.2.2)])]) [] (fun κ x => [(κ, some (x.2.2.length, 44, 3))]) (fun x : Nat × Nat × List V => x.1 ≤ ks.length ∧ x.2.1 ≤ b.length ∧ x.2.2.length = x.1 ∧ rdItems (rd D b f) ks p = joinItems x.2.2 (rdItems (rd D b f) (ks.drop x.1) x.2.1)) (fun x => ks.length - x.1) ((0, p, [])) hks (fun _ => rfl) ⟨Nat.zero_le _, hp, rfl, joinItems_start _ _ _⟩ wkS ?_; intro x hx; simp (decide := true) only [St.head, List.map_cons, List.map_nil, lk, rmv, List.cons_append, List.nil_append, List.append_nil, reduceIte, Nat.reduceAdd]
  obtain ⟨k, q, vs⟩ := x
  simp only at hx ⊢
  obtain ⟨hx1, hx2, hx3, hx4⟩ := hx
  refine walkS ?_
  refine aw_condS rfl (fun hk => ?_) (fun hk => ?_)
  · obtain ⟨hk1, hk2, hk3⟩ := hkr k (by omega)
    have hin := rd_in D b f ks[k] q hx2
    (repeat (first | refine walkS ?_ | (refine callPre ?_; (first | refine callN_funS rfl ((l9Item_c hr hM number k h5 h7 h8).eqv (r1 := .d (iD (ks[k] : Nat))) (by rw [hk1])) ?_ | refine callN_funS rfl (H _ _ hk2 hk3 hx2) ?_)) | (refine callPreL ?_; (first | refine callL_funS rfl ((l9Item_c hr hM number k h5 h7 h8).eqv (r1 := .d (iD (ks[k] : Nat))) (by rw [hk1])) ?_ | refine callL_funS rfl (H _ _ hk2 hk3 hx2) ?_))))
    generalize hres : rd D b f ks[k] q = res at *
    obtain ⟨v, q2, c⟩ := res
    obtain ⟨hin1, hin2⟩ := hin
    simp only at hin1 hin2
    have hdk : ks.drop k = ks[k] :: ks.drop (k + 1) := List.drop_eq_getElem_cons (by omega)
    refine aw_condS rfl (fun hcode => ?_) (fun hcode => ?_)
    · refine walkS ?_
      have hbad := joinItems_bad (f := rd D b f) (vs := vs) (k := ks[k]) (ks := ks.drop (k + 1)) (q := q) (by rw [hres]; simp only; omega)
      (refine aw_ret ?_; (simp only [Fin, Try.results116]; refine finS ?_); refine ⟨_, [], .inr (.inl ⟨.tup [encV V0, iD (q2 : Int), iD (c : Int)], rfl, rfl, ?_⟩), List.nodup_nil, by rw [hx4, hdk, hbad, hres]; simp only [mkItems]; rw [if_neg (by omega)]⟩; exact wkDS)
    · have hok := joinItems_ok (f := rd D b f) (vs := vs) (k := ks[k]) (ks := ks.drop (k + 1)) (q := q) (by rw [hres]; simp only; omega)
      refine walkS ?_
      refine ⟨(k + 1, q2, vs ++ [v]), ⟨by simp only; omega, hin2, by simp [hx3], by simp only; rw [hx4, hdk, hok, hres]⟩, by simp only; omega, ?_⟩
      exact wkS
  · refine walkS ?_
    (refine aw_ret ?_; (simp only [Fin, Try.results116]; refine finS ?_); refine ⟨_, [], .inr (.inl ⟨.tup [encV (.mk 0 [] vs), iD (q : Int), iD 0], rfl, rfl, ?_⟩), List.nodup_nil, by rw [hx4, List.drop_eq_nil_of_le (by omega), joinItems_end]; rfl⟩; exact wkDS)
end
end Go.Proofs.Ytmpokibohbhoeaa.Eng
