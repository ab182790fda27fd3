/-
  The program's reader: items.
-/
import Derived.Test.YtoegmaebdihnaaaGreatDoorKN24
set_option linter.unusedSimpArgs false
set_option linter.unusedVariables false
namespace Go.Proofs.YtoegmaebdihnaaaGreatDoor.Eng
open Go Go.RowKit

/-- Where the item begins that fails, or where all ends. -/
def atItems (f : Nat → Nat → V × Nat × Nat) : List Nat → Nat → Nat
  | [], p => p
  | k :: ks, p => if (f k p).2.2 = 0 then atItems f ks (f k p).2.1 else p
theorem atItems_bad {f : Nat → Nat → V × Nat × Nat} {k p : Nat} {ks : List Nat} (h : (f k p).2.2 ≠ 0) : atItems f (k :: ks) p = p := by rw [atItems, if_neg h]
theorem atItems_ok {f : Nat → Nat → V × Nat × Nat} {k p : Nat} {ks : List Nat} (h : (f k p).2.2 = 0) : atItems f (k :: ks) p = atItems f ks (f k p).2.1 := by rw [atItems, if_pos h]
theorem atItems_end {f : Nat → Nat → V × Nat × Nat} : ∀ {ks : List Nat} {p : Nat}, (rdItems f ks p).2.2 = 0 → atItems f ks p = (rdItems f ks p).2.1
  | [], p, _ => rfl
  | k :: ks, p, h => by
    unfold rdItems at h ⊢
    unfold atItems
    generalize f k p = x at *
    obtain ⟨v, q, c⟩ := x
    by_cases hc : c = 0
    · simp only [hc, if_true] at h ⊢
      have ih := atItems_end (f := f) (ks := ks) (p := q)
      generalize rdItems f ks q = y at *
      obtain ⟨vs, q2, c2⟩ := y
      by_cases hc2 : c2 = 0
      · simp only [hc2, if_true] at h ih ⊢
        exact ih trivial
      · simp [hc2] at h
    · simp [hc] at h

section
variable {M : Nat} {D : List RuleD} {b : List UInt8}
/-- The program's reader works for every rule below f. -/
def RdOK (D : List RuleD) (b : List UInt8) (f : Nat) : Prop := ∀ n p : Nat, n < f → n < D.length → p ≤ b.length → ∃ m : Nat, ((rd D b f n p).2.2 = 0 → m = (rd D b f n p).2.1) ∧ AC Tryz.prog 72 [.d (frD D b), .d (iD n), .d (iD p)] none (fun r _ => r = rdE m (rd D b f n p))
abbrev V0d (n : Int) : Eng.D := .agg [iD n, .v (.slice none 0 0), .v (.slice none 0 0)]

private theorem tyF : (((((bytesT Tryz.prog 25 = true ∧ tyElem Tryz.prog 25 = some 5) ∧ (tyElem Tryz.prog 39 = some 41 ∧ tyElem Tryz.prog 54 = some 3)) ∧ ((tyField Tryz.prog 41 0 = some (0, 3) ∧ tyField Tryz.prog 41 1 = some (1, 25)) ∧ (tyField Tryz.prog 41 2 = some (2, 39) ∧ (tyK Tryz.prog 25 = some (false, 1) ∧ tyK Tryz.prog 3 = some (false, 1))))) ∧ (((tyK Tryz.prog 39 = some (false, 1) ∧ tyK Tryz.prog 41 = some (true, 3)) ∧ (tyK Tryz.prog 5 = some (false, 1) ∧ (tyK Tryz.prog 54 = some (false, 1) ∧ tyK Tryz.prog 79 = some (false, 1)))) ∧ ((tyK Tryz.prog 83 = some (false, 1) ∧ tyPlaces Tryz.prog 41 = some [(0, 1), (1, 1), (2, 1)]) ∧ (tyRow Tryz.prog 25 = some 1 ∧ (tyRow Tryz.prog 3 = some 1 ∧ tyRow Tryz.prog 39 = some 1))))) ∧ ((((tyRow Tryz.prog 41 = some 3 ∧ tyRow Tryz.prog 5 = some 1) ∧ (tyRow Tryz.prog 54 = some 1 ∧ (tyRow Tryz.prog 79 = some 1 ∧ tyRow Tryz.prog 83 = some 1))) ∧ ((Tryz.prog.underlying 25 = some (TypeDesc.slice 5) ∧ Tryz.prog.underlying 3 = some (TypeDesc.int IntKind.i64)) ∧ (Tryz.prog.underlying 39 = some (TypeDesc.slice 41) ∧ (Tryz.prog.underlying 5 = some (TypeDesc.int IntKind.u8) ∧ Tryz.prog.underlying 54 = some (TypeDesc.slice 3))))) ∧ (((Tryz.prog.underlying 79 = some (TypeDesc.pointer 81) ∧ Tryz.prog.underlying 83 = some (TypeDesc.interface #[("Error", 222)])) ∧ (tyZero Tryz.prog 25 = some [Value.slice none 0 0] ∧ (tyZero Tryz.prog 3 = some [Value.int IntKind.i64 0] ∧ tyZero Tryz.prog 39 = some [Value.slice none 0 0]))) ∧ ((tyZero Tryz.prog 41 = some [Value.int IntKind.i64 0, Value.slice none 0 0, Value.slice none 0 0] ∧ tyZero Tryz.prog 5 = some [Value.int IntKind.u8 0]) ∧ (tyZero Tryz.prog 54 = some [Value.slice none 0 0] ∧ (tyZero Tryz.prog 79 = some [Value.pointer none] ∧ tyZero Tryz.prog 83 = some [Value.nilIface])))))) := ⟨⟨⟨⟨⟨tb25, te25⟩, ⟨te39, te54⟩⟩, ⟨⟨tf41_0, tf41_1⟩, ⟨tf41_2, ⟨tk25, tk3⟩⟩⟩⟩, ⟨⟨⟨tk39, tk41⟩, ⟨tk5, ⟨tk54, tk79⟩⟩⟩, ⟨⟨tk83, tp41⟩, ⟨tr25, ⟨tr3, tr39⟩⟩⟩⟩⟩, ⟨⟨⟨⟨tr41, tr5⟩, ⟨tr54, ⟨tr79, tr83⟩⟩⟩, ⟨⟨tu25, tu3⟩, ⟨tu39, ⟨tu5, tu54⟩⟩⟩⟩, ⟨⟨⟨tu79, tu83⟩, ⟨tz25, ⟨tz3, tz39⟩⟩⟩, ⟨⟨tz41, tz5⟩, ⟨tz54, ⟨tz79, tz83⟩⟩⟩⟩⟩⟩
set_option maxRecDepth 100000 in
set_option maxHeartbeats 1000000 in
theorem itemsI_c {f : Nat} (H : RdOK D b f) (n : Int) (ks : List Nat) (hkl : ks.length ≤ 1048576) (hkr : ∀ i (hi : i < ks.length), ks[i] < f ∧ ks[i] < D.length) (p : Nat) (hp : p ≤ b.length) : AC Tryz.prog 114 [.d (frD D b), .d (V0d n), .d (encI (ks.map fun k : Nat => (k : Int))), .d (iD p)] none (fun r' _ => r' = rdE (atItems (rd D b f) ks p) (mkItems n (rdItems (rd D b f) ks p))) := by
  have hl : (ks.map fun k : Nat => (k : Int)).length = ks.length := List.length_map _
  refine calls_body Tryz.func114 rfl Tryz.call114 Tryz.ntmps114 (by simp) (by simp [ArgsOk]) (by simp [Rz.nkL, Rz.nk]) fun en hsz hks hk0 => ?_; simp only [St.init, frOf, Rz.addSL, Rz.addS, Rz.toAL, Rz.toA, Rz.nk, List.zipIdx_cons, List.zipIdx_nil, List.map_cons, List.map_nil, Nat.zero_add, Nat.reduceAdd]
  refine walkS ?_
  refine aw_loopS [0, 5, 8, 9, 10, 16, 17] (fun κ s' => [(κ, keyB s' 16 2)]) (fun κ x => [(18, .d (iD (x.1 : Nat))), (3, .d (iD (x.2.1 : Nat)))]) [16] (fun κ x => [(16, some [.d (iD n), .d (.v (.slice none 0 0)), .own κ 41 3 (encVs x.2.2)])]) [] (fun κ x => [(κ, some (x.2.2.length, 41, 3))]) (fun x : Nat × Nat × List V => x.1 ≤ ks.length ∧ x.2.1 ≤ b.length ∧ x.2.2.length = x.1 ∧ rdItems (rd D b f) ks p = joinItems x.2.2 (rdItems (rd D b f) (ks.drop x.1) x.2.1) ∧ atItems (rd D b f) ks p = atItems (rd D b f) (ks.drop x.1) x.2.1) (fun x => ks.length - x.1) ((0, p, [])) hks (fun _ => rfl) ⟨Nat.zero_le _, hp, rfl, joinItems_start _ _ _, rfl⟩ wkS ?_; intro x hx; simp (decide := true) only [St.head, List.map_cons, List.map_nil, lk, rmv, List.cons_append, List.nil_append, List.append_nil, reduceIte, Nat.reduceAdd]
  obtain ⟨k, q, vs⟩ := x
  simp only at hx ⊢
  obtain ⟨hx1, hx2, hx3, hx4, hx5⟩ := hx
  refine walkS ?_
  refine aw_condS rfl (fun hk => ?_) (fun hk => ?_)
  · obtain ⟨hk2, hk3⟩ := hkr k (by omega)
    have hi : (ks.map fun k : Nat => (k : Int))[k]? = some ((ks[k] : Nat) : Int) := by rw [List.getElem?_map, List.getElem?_eq_getElem (by omega)]; rfl
    have hin := rd_in D b f ks[k] q hx2
    obtain ⟨m, hm, HV⟩ := H _ q hk2 hk3 hx2
    have hdk : ks.drop k = ks[k] :: ks.drop (k + 1) := List.drop_eq_getElem_cons (by omega)
    have hbad := joinItems_bad (f := rd D b f) (vs := vs) (k := ks[k]) (ks := ks.drop (k + 1)) (q := q)
    have hok := joinItems_ok (f := rd D b f) (vs := vs) (k := ks[k]) (ks := ks.drop (k + 1)) (q := q)
    have hab := atItems_bad (f := rd D b f) (k := ks[k]) (ks := ks.drop (k + 1)) (p := q)
    have hao := atItems_ok (f := rd D b f) (k := ks[k]) (ks := ks.drop (k + 1)) (p := q)
    rw [hdk] at hx4 hx5
    generalize rd D b f ks[k] q = res at *
    obtain ⟨v, q2, c⟩ := res
    obtain ⟨hin1, hin2⟩ := hin
    simp only at hin1 hin2 hm hbad hok hab hao
    by_cases hc0 : c = 0
    · subst hc0
      obtain rfl := hm rfl
      rw [hok rfl] at hx4
      rw [hao rfl] at hx5
      rw [show rdE m (v, m, 0) = .d (.tup [encV v, iD m, nilE]) from rfl] at HV
      (repeat (first | refine walkS ?_ | (refine callPre ?_; (first | refine callN_funS rfl (HV) ?_)) | (refine callPreL ?_; (first | refine callL_funS rfl (HV) ?_))))
      refine aw_condS rfl (fun hc => ?_) (fun hc => ?_)
      · (first | exact absurd trivial hc | exact absurd rfl hc | (cases hc; done) | omega | exact absurd hc (by decide) | (simp at hc; done))
      · refine walkS ?_
        refine ⟨(k + 1, m, vs ++ [v]), ⟨by simp only; omega, hin2, by simp [hx3], hx4, hx5⟩, by simp only; omega, ?_⟩
        exact wkS
    · rw [hbad hc0] at hx4
      rw [hab hc0] at hx5
      rw [show rdE m (v, q2, c) = .d (.tup [encV v, iD m, erD q2 c]) by simp only [rdE, eD_p hc0]] at HV
      (repeat (first | refine walkS ?_ | (refine callPre ?_; (first | refine callN_funS rfl (HV) ?_)) | (refine callPreL ?_; (first | refine callL_funS rfl (HV) ?_))))
      refine aw_condS rfl (fun hc => ?_) (fun hc => ?_)
      · refine walkS ?_
        (refine aw_ret ?_; (simp only [Fin, Tryz.results114]; refine finS ?_); refine ⟨_, [], .inr (.inl ⟨.tup [encV V0, iD (q : Nat), erD q2 c], rfl, rfl, ?_⟩), List.nodup_nil, by rw [hx4, hx5]; simp only [mkItems, if_neg hc0, rdE, eD_p hc0]⟩; exact wkDS)
      · (first | exact absurd trivial hc | exact absurd rfl hc | (cases hc; done) | omega | exact absurd hc (by decide) | (simp at hc; done))
  · refine walkS ?_
    (refine aw_ret ?_; (simp only [Fin, Tryz.results114]; refine finS ?_); refine ⟨_, [], .inr (.inl ⟨.tup [encV (.mk n [] vs), iD (q : Nat), nilE], rfl, rfl, ?_⟩), List.nodup_nil, by rw [hx4, hx5, List.drop_eq_nil_of_le (by omega), joinItems_end]; rfl⟩; exact wkDS)
end
end Go.Proofs.YtoegmaebdihnaaaGreatDoor.Eng
