/-
  The checker: arrays.
-/
import Derived.Test.YtoegmaebdihnaaaDoorKN11
import Derived.Test.YtoegmaebdihnaaaDoorKP
import Derived.Test.YtoegmaebdihnaaaDoorKN7
set_option linter.unusedSimpArgs false
set_option linter.unusedVariables false
namespace Go.Proofs.YtoegmaebdihnaaaDoor.Eng
open Go Go.RowKit

section
variable {M : Nat} {D : List RuleD} {b : List UInt8}
/-- The checker works for every rule below f. -/
def CkOK (D : List RuleD) (b : List UInt8) (f : Nat) : Prop := ∀ (n p : Nat) (a : Int), n < f → n < D.length → p ≤ b.length → AC Tryd.prog 39 [.ptr 0 0, .d (iD n), .d (iD p)] (some ((chk D b a).map .d)) (fun r' b' => r' = .d (spotD (rd D b f n p).2) ∧ b' = some ((chk D b (a + (cnt D b f n p : Nat))).map .d))
theorem numP_none {r : RuleD} {p : Nat} (h : intAt r b p = none) : numP r b p = (0, p, 1) := by simp [numP, h]
theorem numP_some {r : RuleD} {p m : Nat} (h : intAt r b p = some m) : numP r b p = (m, p + r.size.toNat, 0) := by simp [numP, h]
theorem kid1_nat {n : Nat} {r : RuleD} (G : GoodR D n r) (h : 1 < r.kids.length) : ∃ x : Nat, kid1 r = x ∧ x < n := by
  have h1 := kids1 h
  have h2 := G.kid 1 h
  rw [List.getElem?_eq_getElem h] at h1
  have h3 := Option.some.inj h1
  exact ⟨(kid1 r).toNat, by omega, by omega⟩

private theorem tyF : (((((bytesT Tryd.prog 25 = true ∧ (tyElem Tryd.prog 25 = some 5 ∧ tyElem Tryd.prog 46 = some 9)) ∧ (tyElem Tryd.prog 47 = some 3 ∧ (tyField Tryd.prog 55 0 = some (0, 9) ∧ tyField Tryd.prog 55 1 = some (1, 3)))) ∧ ((tyField Tryd.prog 55 2 = some (2, 3) ∧ (tyField Tryd.prog 55 3 = some (3, 4) ∧ tyField Tryd.prog 55 4 = some (4, 25))) ∧ ((tyField Tryd.prog 55 5 = some (5, 46) ∧ tyField Tryd.prog 55 6 = some (6, 47)) ∧ (tyField Tryd.prog 55 7 = some (7, 47) ∧ tyField Tryd.prog 86 0 = some (0, 3))))) ∧ (((tyField Tryd.prog 86 1 = some (1, 3) ∧ (tyK Tryd.prog 25 = some (false, 1) ∧ tyK Tryd.prog 3 = some (false, 1))) ∧ ((tyK Tryd.prog 4 = some (false, 1) ∧ tyK Tryd.prog 46 = some (false, 1)) ∧ (tyK Tryd.prog 47 = some (false, 1) ∧ tyK Tryd.prog 5 = some (false, 1)))) ∧ ((tyK Tryd.prog 55 = some (true, 8) ∧ (tyK Tryd.prog 86 = some (true, 2) ∧ tyK Tryd.prog 9 = some (false, 1))) ∧ ((tyK Tryd.prog 91 = some (false, 1) ∧ tyPlaces Tryd.prog 55 = some [(0, 1), (1, 1), (2, 1), (3, 1), (4, 1), (5, 1), (6, 1), (7, 1)]) ∧ (tyPlaces Tryd.prog 86 = some [(0, 1), (1, 1)] ∧ tyFlat Tryd.prog 86 = some [0, 0]))))) ∧ ((((tyRow Tryd.prog 25 = some 1 ∧ (tyRow Tryd.prog 3 = some 1 ∧ tyRow Tryd.prog 4 = some 1)) ∧ ((tyRow Tryd.prog 46 = some 1 ∧ tyRow Tryd.prog 47 = some 1) ∧ (tyRow Tryd.prog 5 = some 1 ∧ tyRow Tryd.prog 55 = some 8))) ∧ ((tyRow Tryd.prog 86 = some 2 ∧ (tyRow Tryd.prog 9 = some 1 ∧ tyRow Tryd.prog 91 = some 1)) ∧ ((Tryd.prog.underlying 25 = some (TypeDesc.slice 5) ∧ Tryd.prog.underlying 3 = some (TypeDesc.int IntKind.i64)) ∧ (Tryd.prog.underlying 4 = some (TypeDesc.bool) ∧ Tryd.prog.underlying 46 = some (TypeDesc.slice 9))))) ∧ (((Tryd.prog.underlying 47 = some (TypeDesc.slice 3) ∧ (Tryd.prog.underlying 5 = some (TypeDesc.int IntKind.u8) ∧ Tryd.prog.underlying 9 = some (TypeDesc.string))) ∧ ((Tryd.prog.underlying 91 = some (TypeDesc.pointer 93) ∧ tyZero Tryd.prog 25 = some [Value.slice none 0 0]) ∧ (tyZero Tryd.prog 3 = some [Value.int IntKind.i64 0] ∧ tyZero Tryd.prog 4 = some [Value.bool false]))) ∧ ((tyZero Tryd.prog 46 = some [Value.slice none 0 0] ∧ (tyZero Tryd.prog 47 = some [Value.slice none 0 0] ∧ tyZero Tryd.prog 5 = some [Value.int IntKind.u8 0])) ∧ ((tyZero Tryd.prog 55 = some [Value.string ByteArray.empty, Value.int IntKind.i64 0, Value.int IntKind.i64 0, Value.bool false, Value.slice none 0 0, Value.slice none 0 0, Value.slice none 0 0, Value.slice none 0 0] ∧ tyZero Tryd.prog 86 = some [Value.int IntKind.i64 0, Value.int IntKind.i64 0]) ∧ (tyZero Tryd.prog 9 = some [Value.string ByteArray.empty] ∧ tyZero Tryd.prog 91 = some [Value.pointer none])))))) := ⟨⟨⟨⟨⟨tb25, ⟨te25, te46⟩⟩, ⟨te47, ⟨tf55_0, tf55_1⟩⟩⟩, ⟨⟨tf55_2, ⟨tf55_3, tf55_4⟩⟩, ⟨⟨tf55_5, tf55_6⟩, ⟨tf55_7, tf86_0⟩⟩⟩⟩, ⟨⟨⟨tf86_1, ⟨tk25, tk3⟩⟩, ⟨⟨tk4, tk46⟩, ⟨tk47, tk5⟩⟩⟩, ⟨⟨tk55, ⟨tk86, tk9⟩⟩, ⟨⟨tk91, tp55⟩, ⟨tp86, tq86⟩⟩⟩⟩⟩, ⟨⟨⟨⟨tr25, ⟨tr3, tr4⟩⟩, ⟨⟨tr46, tr47⟩, ⟨tr5, tr55⟩⟩⟩, ⟨⟨tr86, ⟨tr9, tr91⟩⟩, ⟨⟨tu25, tu3⟩, ⟨tu4, tu46⟩⟩⟩⟩, ⟨⟨⟨tu47, ⟨tu5, tu9⟩⟩, ⟨⟨tu91, tz25⟩, ⟨tz3, tz4⟩⟩⟩, ⟨⟨tz46, ⟨tz47, tz5⟩⟩, ⟨⟨tz55, tz86⟩, ⟨tz9, tz91⟩⟩⟩⟩⟩⟩
set_option maxRecDepth 100000 in
set_option maxHeartbeats 2000000 in
theorem array_go (hD : DB M D) (hM : M ≤ 1048576) (hb : b.length ≤ 1048576) {f : Nat} (H : CkOK D b f) {n : Nat} {r : RuleD} (hr : D[n]? = some r) (hn : n ≤ f) {j : Nat} {q : RuleD} (hkid : r.kids[0]? = some (j : Int)) (hj : D[j]? = some q) (hq : 1 ≤ q.size ∧ q.size ≤ 4) {kk : Nat} (hkid1 : r.kids[1]? = some (kk : Int)) (hkk : kk < n) (p : Nat) (hp : p ≤ b.length) (a : Int)
    {m0 q0 c0 : Nat} (hnum : numP q b p = (m0, q0, c0)) (hq0 : q0 ≤ b.length) (hm0 : c0 = 0 → m0 ≤ 40) {S : Nat × Nat} {T : Int} (hS : S = restS (rd D b f) (List.replicate m0 kk) q0 c0) (hT : T = a + 1 + (restC (rd D b f) (cnt D b f) (List.replicate m0 kk) q0 c0 : Nat)) :
    AC Tryd.prog 54 [.ptr 0 0, .d (encR r), .d (iD p)] (some ((chk D b a).map .d)) (fun r' b' => r' = .d (spotD S) ∧ b' = some ((chk D b T).map .d)) := by
  have hrb := hD.rule r (List.mem_of_getElem? hr)
  have hnl : n < D.length := (List.getElem?_eq_some_iff.1 hr).1
  have HN := number_c hD hM hb a hj hq p hp
  rw [hnum] at HN
  have hc0 : c0 = 0 ∨ c0 = 1 := by
    unfold numP at hnum
    split at hnum <;> simp at hnum <;> omega
  have hm1 : m0 < 4294967296 := by
    unfold numP at hnum
    split at hnum
    · rename_i m h
      have := intAt_in h hp
      simp at hnum; omega
    · simp at hnum; omega
  refine calls_body Tryd.func54 rfl Tryd.call54 Tryd.ntmps54 (by simp) (by simp [ArgsOk]) (by simp [Rz.nkL, Rz.nk]) fun en hsz hks hk0 => ?_; simp only [St.init, frOf, Rz.addSL, Rz.addS, Rz.toAL, Rz.toA, Rz.nk, List.zipIdx_cons, List.zipIdx_nil, List.map_cons, List.map_nil, Nat.zero_add, Nat.reduceAdd]
  (repeat (first | refine walkS ?_ | (refine ow_call1d (k := 0) ?_ (fun x hx => by cases hx <;> (rw [hsz]; decide)) rfl (HN) rfl rfl ?_; (first | exact trivial | exact rfl); simp only [St.set, List.map_cons, List.map_nil, Nat.reduceAdd]) | (refine ol_call1d (k := 0) ?_ rfl (HN) rfl rfl ⟨0, List.mem_cons_self⟩ ?_; (first | exact trivial | exact rfl); simp only [St.set, List.map_cons, List.map_nil, Nat.reduceAdd])))
  (refine ow_gd rfl rfl (fun x hx => by cases hx <;> (rw [hsz]; decide)) (fun hg K1 hK1 => ?_) (fun hg => ?_); ((try simp only [hg]); refine evS ?_;  refine hK1 _ ?_; clear hK1 K1); rotate_left; (simp only [Bool.not_true, Bool.not_false] at hg; simp only [St.set, hg]); rotate_left)
  · have hg0 : c0 = 0 := by simpa using hg
    have hm2 := hm0 hg0
    refine walkS ?_
    refine aw_condS rfl (fun hc => ?_) (fun hc => ?_)
    · (first | exact absurd trivial hc | exact absurd rfl hc | (cases hc; done) | omega | exact absurd hc (by decide) | (simp at hc; done))
    refine walkS ?_
    refine aw_loopS [0, 4, 6, 8] (fun _ _ => []) (fun _ y => [(7, .d (iD (y.1 : Nat)))]) [80, 0] (fun _ y => [(80, some [.d (iD (y.2.1 : Nat)), .d (iD (y.2.2.1 : Nat))]), (0, some [.d (encDs D), .d (encB b), .d (iD (IntKind.i64.wrap y.2.2.2))])]) [] (fun _ _ => []) (fun y : Nat × Nat × Nat × Int => y.2.1 ≤ b.length ∧ y.1 ≤ m0 ∧ (y.2.2.1 = 0 → y.1 ≤ 40) ∧ S = restS (rd D b f) (List.replicate y.1 kk) y.2.1 y.2.2.1 ∧ T = y.2.2.2 + (restC (rd D b f) (cnt D b f) (List.replicate y.1 kk) y.2.1 y.2.2.1 : Nat)) (fun y => y.1) ((m0, q0, c0, a + 1)) hks (fun _ => rfl) ⟨hq0, Nat.le_refl _, hm0, hS, hT⟩ wkS ?_; intro x hx; simp (decide := true) only [St.head, List.map_cons, List.map_nil, lk, rmv, List.cons_append, List.nil_append, List.append_nil, reduceIte, Nat.reduceAdd]
    obtain ⟨rem, q1, c1, A1⟩ := x
    simp only at hx ⊢
    obtain ⟨hx1, hx2, hx3, hx4, hx5⟩ := hx
    refine walkS ?_
    (refine ow_gd rfl rfl (fun x hx => by cases hx <;> (rw [hsz]; decide)) (fun hg K1 hK1 => ?_) (fun hg => ?_); ((try simp only [hg]); refine evS ?_;  refine hK1 _ ?_; clear hK1 K1); rotate_left; (simp only [Bool.not_true, Bool.not_false] at hg; simp only [St.set, hg]); rotate_left)
    · have hg' : 0 < rem := by simpa using hg
      refine walkS ?_
      refine aw_condS rfl (fun hc1 => ?_) (fun hc1 => ?_)
      · have e : c1 = 0 := by omega
        subst e
        obtain ⟨rem', rfl⟩ : ∃ k, rem = k + 1 := ⟨rem - 1, by omega⟩
        rw [List.replicate_succ, restS_cons] at hx4
        rw [List.replicate_succ, restC_cons] at hx5
        have hin := rd_in D b f kk q1 hx1
        have HV := H kk q1 A1 (by omega) (by omega) hx1
        (repeat (first | refine walkS ?_ | (refine ow_call1d (k := 0) ?_ (fun x hx => by cases hx <;> (rw [hsz]; decide)) rfl (HV) rfl rfl ?_; (first | exact trivial | exact rfl); simp only [St.set, List.map_cons, List.map_nil, Nat.reduceAdd]) | (refine ol_call1d (k := 0) ?_ rfl (HV) rfl rfl ⟨0, List.mem_cons_self⟩ ?_; (first | exact trivial | exact rfl); simp only [St.set, List.map_cons, List.map_nil, Nat.reduceAdd])))
        refine ⟨(rem', (rd D b f kk q1).2.1, (rd D b f kk q1).2.2, A1 + (cnt D b f kk q1 : Nat)), ⟨hin.2, by simp only; omega, fun h => by have := hx3 rfl; simp only; omega, hx4, by simp only; omega⟩, by simp only; omega, ?_⟩
        exact wkS
      · rw [restS_bad _ _ _ _ (by omega)] at hx4
        rw [restC_bad _ _ _ _ _ (by omega)] at hx5
        refine walkS ?_
        (refine aw_ret ?_; (simp only [Fin, Tryd.results54]; refine finS ?_); exact ⟨_, [], .inl ⟨rfl, rfl⟩, _, (chk D b A1 : List Eng.D).map .d, [], rfl, toZL_d _ (chk D b A1), by simp, by rw [hx4], by rw [show T = A1 by omega]; rfl⟩)
    · have hg' : rem = 0 := by simpa using hg
      subst hg'
      rw [List.replicate_zero, restS_nil] at hx4
      rw [List.replicate_zero, restC_nil] at hx5
      refine walkS ?_
      refine aw_condS rfl (fun hc => ?_) (fun hc => ?_)
      · (first | exact absurd trivial hc | exact absurd rfl hc | (cases hc; done) | omega | exact absurd hc (by decide) | (simp at hc; done))
      · refine walkS ?_
        (refine aw_ret ?_; (simp only [Fin, Tryd.results54]; refine finS ?_); exact ⟨_, [], .inl ⟨rfl, rfl⟩, _, (chk D b A1 : List Eng.D).map .d, [], rfl, toZL_d _ (chk D b A1), by simp, by rw [hx4], by rw [show T = A1 by omega]; rfl⟩)
  · have hg0 : c0 ≠ 0 := by simpa using hg
    refine walkS ?_
    refine aw_condS rfl (fun hc => ?_) (fun hc => ?_)
    · (first | exact absurd trivial hc | exact absurd rfl hc | (cases hc; done) | omega | exact absurd hc (by decide) | (simp at hc; done))
    refine walkS ?_
    refine aw_loopS [0, 4, 6, 8] (fun _ _ => []) (fun _ y => [(7, .d (iD (y.1 : Nat)))]) [80, 0] (fun _ y => [(80, some [.d (iD (y.2.1 : Nat)), .d (iD (y.2.2.1 : Nat))]), (0, some [.d (encDs D), .d (encB b), .d (iD (IntKind.i64.wrap y.2.2.2))])]) [] (fun _ _ => []) (fun y : Nat × Nat × Nat × Int => y.2.1 ≤ b.length ∧ y.1 ≤ m0 ∧ (y.2.2.1 = 0 → y.1 ≤ 40) ∧ S = restS (rd D b f) (List.replicate y.1 kk) y.2.1 y.2.2.1 ∧ T = y.2.2.2 + (restC (rd D b f) (cnt D b f) (List.replicate y.1 kk) y.2.1 y.2.2.1 : Nat)) (fun y => y.1) ((m0, q0, c0, a + 1)) hks (fun _ => rfl) ⟨hq0, Nat.le_refl _, hm0, hS, hT⟩ wkS ?_; intro x hx; simp (decide := true) only [St.head, List.map_cons, List.map_nil, lk, rmv, List.cons_append, List.nil_append, List.append_nil, reduceIte, Nat.reduceAdd]
    obtain ⟨rem, q1, c1, A1⟩ := x
    simp only at hx ⊢
    obtain ⟨hx1, hx2, hx3, hx4, hx5⟩ := hx
    refine walkS ?_
    (refine ow_gd rfl rfl (fun x hx => by cases hx <;> (rw [hsz]; decide)) (fun hg K1 hK1 => ?_) (fun hg => ?_); ((try simp only [hg]); refine evS ?_;  refine hK1 _ ?_; clear hK1 K1); rotate_left; (simp only [Bool.not_true, Bool.not_false] at hg; simp only [St.set, hg]); rotate_left)
    · have hg' : 0 < rem := by simpa using hg
      refine walkS ?_
      refine aw_condS rfl (fun hc1 => ?_) (fun hc1 => ?_)
      · have e : c1 = 0 := by omega
        subst e
        obtain ⟨rem', rfl⟩ : ∃ k, rem = k + 1 := ⟨rem - 1, by omega⟩
        rw [List.replicate_succ, restS_cons] at hx4
        rw [List.replicate_succ, restC_cons] at hx5
        have hin := rd_in D b f kk q1 hx1
        have HV := H kk q1 A1 (by omega) (by omega) hx1
        (repeat (first | refine walkS ?_ | (refine ow_call1d (k := 0) ?_ (fun x hx => by cases hx <;> (rw [hsz]; decide)) rfl (HV) rfl rfl ?_; (first | exact trivial | exact rfl); simp only [St.set, List.map_cons, List.map_nil, Nat.reduceAdd]) | (refine ol_call1d (k := 0) ?_ rfl (HV) rfl rfl ⟨0, List.mem_cons_self⟩ ?_; (first | exact trivial | exact rfl); simp only [St.set, List.map_cons, List.map_nil, Nat.reduceAdd])))
        refine ⟨(rem', (rd D b f kk q1).2.1, (rd D b f kk q1).2.2, A1 + (cnt D b f kk q1 : Nat)), ⟨hin.2, by simp only; omega, fun h => by have := hx3 rfl; simp only; omega, hx4, by simp only; omega⟩, by simp only; omega, ?_⟩
        exact wkS
      · rw [restS_bad _ _ _ _ (by omega)] at hx4
        rw [restC_bad _ _ _ _ _ (by omega)] at hx5
        refine walkS ?_
        (refine aw_ret ?_; (simp only [Fin, Tryd.results54]; refine finS ?_); exact ⟨_, [], .inl ⟨rfl, rfl⟩, _, (chk D b A1 : List Eng.D).map .d, [], rfl, toZL_d _ (chk D b A1), by simp, by rw [hx4], by rw [show T = A1 by omega]; rfl⟩)
    · have hg' : rem = 0 := by simpa using hg
      subst hg'
      rw [List.replicate_zero, restS_nil] at hx4
      rw [List.replicate_zero, restC_nil] at hx5
      refine walkS ?_
      refine aw_condS rfl (fun hc => ?_) (fun hc => ?_)
      · (first | exact absurd trivial hc | exact absurd rfl hc | (cases hc; done) | omega | exact absurd hc (by decide) | (simp at hc; done))
      · refine walkS ?_
        (refine aw_ret ?_; (simp only [Fin, Tryd.results54]; refine finS ?_); exact ⟨_, [], .inl ⟨rfl, rfl⟩, _, (chk D b A1 : List Eng.D).map .d, [], rfl, toZL_d _ (chk D b A1), by simp, by rw [hx4], by rw [show T = A1 by omega]; rfl⟩)
end
end Go.Proofs.YtoegmaebdihnaaaDoor.Eng
