/-
  The checker: arrays.
-/
import Derived.Test.YtlcnmoolicfinaaGreatDoorKN11
import Derived.Test.YtlcnmoolicfinaaGreatDoorKP
import Derived.Test.YtlcnmoolicfinaaGreatDoorKNR
set_option linter.unusedSimpArgs false
set_option linter.unusedVariables false
set_option linter.defProp false
set_option maxRecDepth 100000
set_option maxHeartbeats 4000000
namespace Go.Proofs.YtlcnmoolicfinaaGreatDoor.Eng
open Go Go.RowKit

section
variable {M : Nat} {D : List RuleD} {b : List UInt8}
def CkOK (D : List RuleD) (b : List UInt8) (f : Nat) : Prop := ∀ (n p : Nat) (a : Int), n < f → n < D.length → p ≤ b.length → AC Tryz.prog 62 [.ptr 0 0, .d (iD n), .d (iD p)] (some ((chk D b a).map .d)) (fun r' b' => r' = .d (spotD (rd D b f n p).2) ∧ b' = some ((chk D b (a + (cnt D b f n p : Nat))).map .d))
theorem numP_none {r : RuleD} {p : Nat} (h : intAt r b p = none) : numP r b p = (0, p, 1) := by simp [numP, h]
theorem numP_some {r : RuleD} {p m : Nat} (h : intAt r b p = some m) : numP r b p = (m, p + r.size.toNat, 0) := by simp [numP, h]
theorem kid1_nat {n : Nat} {r : RuleD} (G : GoodR D n r) (h : 1 < r.kids.length) : ∃ x : Nat, kid1 r = x ∧ x < n := by
  have h1 := kids1 h
  have h2 := G.kid 1 h
  rw [List.getElem?_eq_getElem h] at h1
  have h3 := Option.some.inj h1
  exact ⟨(kid1 r).toNat, by omega, by omega⟩

private def tyF := And.intro (And.intro (And.intro (And.intro (And.intro tb25 (And.intro te25 te44)) (And.intro te45 (And.intro tf102_0 tf102_1))) (And.intro (And.intro tf52_0 (And.intro tf52_1 tf52_2)) (And.intro (And.intro tf52_3 tf52_4) (And.intro tf52_5 tf52_6)))) (And.intro (And.intro (And.intro tf52_7 (And.intro tk102 tk106)) (And.intro (And.intro tk25 tk3) (And.intro tk4 tk44))) (And.intro (And.intro tk45 (And.intro tk5 tk52)) (And.intro (And.intro tk9 tp102) (And.intro tp52 tq102))))) (And.intro (And.intro (And.intro (And.intro tr102 (And.intro tr106 tr25)) (And.intro (And.intro tr3 tr4) (And.intro tr44 tr45))) (And.intro (And.intro tr5 (And.intro tr52 tr9)) (And.intro (And.intro tu106 tu25) (And.intro tu3 tu4)))) (And.intro (And.intro (And.intro tu44 (And.intro tu45 tu5)) (And.intro (And.intro tu9 tz102) (And.intro tz106 tz25))) (And.intro (And.intro tz3 (And.intro tz4 tz44)) (And.intro (And.intro tz45 tz5) (And.intro tz52 tz9)))))
theorem array_go (hD : DB M D) (hM : M ≤ 1048576) (hb : b.length ≤ 1048576) {f : Nat} (H : CkOK D b f) {n : Nat} {r : RuleD} (hr : D[n]? = some r) (hn : n ≤ f) {j : Nat} {q : RuleD} (hkid : r.kids[0]? = some (j : Int)) (hj : D[j]? = some q) (hq : 1 ≤ q.size ∧ q.size ≤ 4) {kk : Nat} (hkid1 : r.kids[1]? = some (kk : Int)) (hkk : kk < n) (p : Nat) (hp : p ≤ b.length) (a : Int)
    {m0 q0 c0 : Nat} (hnum : numP q b p = (m0, q0, c0)) (hq0 : q0 ≤ b.length) (hm0 : c0 = 0 → m0 ≤ 40) {S : Nat × Nat} {T : Int} (hS : S = restS (rd D b f) (List.replicate m0 kk) q0 c0) (hT : T = a + 1 + (restC (rd D b f) (cnt D b f) (List.replicate m0 kk) q0 c0 : Nat)) :
    AC Tryz.prog 80 [.ptr 0 0, .d (encR r), .d (iD p)] (some ((chk D b a).map .d)) (fun r' b' => r' = .d (spotD S) ∧ b' = some ((chk D b T).map .d)) := by
  have hrb := hD.rule r (List.mem_of_getElem? hr)
  have hnl : n < D.length := (List.getElem?_eq_some_iff.1 hr).1
  have HN := number_c hD hM hb a hj hq p hp
  rw [hnum] at HN
  have hc0 : c0 = 0 ∨ c0 = 1 := by
    unfold numP at hnum
    split at hnum <;> simp at hnum <;> omega
  have hm1 : m0 < 4294967296 := by
    unfold numP at hnum
    split at hnum
    · rename_i m h
      have := intAt_in h hp
      simp at hnum; omega
    · simp at hnum; omega
  refine calls_body Tryz.func80 rfl Tryz.call80 Tryz.ntmps80 (by simp) (by simp [ArgsOk]) (by simp [Rz.nkL, Rz.nk]) fun en hsz hks hk0 => ?_; refine enS ?_
  (repeat (first | refine walkS ?_ | (refine ol_call1r (k := 0) ?_ rfl (HN) rfl rfl ⟨0, List.mem_cons_self⟩ ?_; (first | exact trivial | exact rfl); simp only [St.set, List.map_cons, List.map_nil, Nat.reduceAdd, Nat.reduceMul]) | (refine ow_call1d (k := 0) ?_ (fun x hx => by cases hx <;> (rw [hsz]; decide)) rfl (HN) rfl rfl ?_; (first | exact trivial | exact rfl); simp only [St.set, List.map_cons, List.map_nil, Nat.reduceAdd]) | (refine ol_call1d (k := 0) ?_ rfl (HN) rfl rfl ⟨0, List.mem_cons_self⟩ ?_; (first | exact trivial | exact rfl); simp only [St.set, List.map_cons, List.map_nil, Nat.reduceAdd])))
  (refine ow_gd rfl rfl (fun x hx => by cases hx <;> (rw [hsz]; decide)) (fun hg K1 hK1 => ?_) (fun hg => ?_); ((try simp only [hg]); refine evS ?_;  refine hK1 _ ?_; clear hK1 K1); rotate_left; (simp only [Bool.not_true, Bool.not_false] at hg; simp only [St.set, hg]); rotate_left)
  · have hg0 : c0 = 0 := by simpa using hg
    have hm2 := hm0 hg0
    refine walkS ?_
    refine aw_condS rfl (fun hc => ?_) (fun hc => ?_)
    · (first | exact absurd trivial hc | exact absurd rfl hc | (cases hc; done) | omega | exact absurd hc (by decide) | (simp at hc; done))
    refine walkS ?_
    refine aw_loopS [0, 4, 6, 8] (fun _ _ => []) (fun _ y => [(7, .d (iD (y.1 : Nat)))]) [80, 0] (fun _ y => [(80, some [.d (iD (y.2.1 : Nat)), .d (iD (y.2.2.1 : Nat))]), (0, some [.d (encDs D), .d (encB b), .d (iD (IntKind.i64.wrap y.2.2.2))])]) [] (fun _ _ => []) (fun y : Nat × Nat × Nat × Int => y.2.1 ≤ b.length ∧ y.1 ≤ m0 ∧ (y.2.2.1 = 0 → y.1 ≤ 40) ∧ S = restS (rd D b f) (List.replicate y.1 kk) y.2.1 y.2.2.1 ∧ T = y.2.2.2 + (restC (rd D b f) (cnt D b f) (List.replicate y.1 kk) y.2.1 y.2.2.1 : Nat)) (fun y => y.1) ((m0, q0, c0, a + 1)) hks (fun _ => rfl) ⟨hq0, Nat.le_refl _, hm0, hS, hT⟩ wkS ?_; intro x hx; refine headS ?_
    obtain ⟨rem, q1, c1, A1⟩ := x
    simp only at hx ⊢
    obtain ⟨hx1, hx2, hx3, hx4, hx5⟩ := hx
    refine walkS ?_
    (refine ow_gd rfl rfl (fun x hx => by cases hx <;> (rw [hsz]; decide)) (fun hg K1 hK1 => ?_) (fun hg => ?_); ((try simp only [hg]); refine evS ?_;  refine hK1 _ ?_; clear hK1 K1); rotate_left; (simp only [Bool.not_true, Bool.not_false] at hg; simp only [St.set, hg]); rotate_left)
    · have hg' : 0 < rem := by simpa using hg
      refine walkS ?_
      refine aw_condS rfl (fun hc1 => ?_) (fun hc1 => ?_)
      · have e : c1 = 0 := by omega
        subst e
        obtain ⟨rem', rfl⟩ : ∃ k, rem = k + 1 := ⟨rem - 1, by omega⟩
        rw [List.replicate_succ, restS_cons] at hx4
        rw [List.replicate_succ, restC_cons] at hx5
        have hin := rd_in D b f kk q1 hx1
        have HV := H kk q1 A1 (by omega) (by omega) hx1
        (repeat (first | refine walkS ?_ | (refine ol_call1r (k := 0) ?_ rfl (HV) rfl rfl ⟨0, List.mem_cons_self⟩ ?_; (first | exact trivial | exact rfl); simp only [St.set, List.map_cons, List.map_nil, Nat.reduceAdd, Nat.reduceMul]) | (refine ow_call1d (k := 0) ?_ (fun x hx => by cases hx <;> (rw [hsz]; decide)) rfl (HV) rfl rfl ?_; (first | exact trivial | exact rfl); simp only [St.set, List.map_cons, List.map_nil, Nat.reduceAdd]) | (refine ol_call1d (k := 0) ?_ rfl (HV) rfl rfl ⟨0, List.mem_cons_self⟩ ?_; (first | exact trivial | exact rfl); simp only [St.set, List.map_cons, List.map_nil, Nat.reduceAdd])))
        refine ⟨(rem', (rd D b f kk q1).2.1, (rd D b f kk q1).2.2, A1 + (cnt D b f kk q1 : Nat)), ⟨hin.2, by simp only; omega, fun h => by have := hx3 rfl; simp only; omega, hx4, by simp only; omega⟩, by simp only; omega, ?_⟩
        exact wkS
      · rw [restS_bad _ _ _ _ (by omega)] at hx4
        rw [restC_bad _ _ _ _ _ (by omega)] at hx5
        refine walkS ?_
        (refine aw_ret ?_; (simp only [Fin, Tryz.results80]; refine finS ?_); exact ⟨_, [], .inl ⟨rfl, rfl⟩, _, (chk D b A1 : List Eng.D).map .d, [], rfl, toZL_d _ (chk D b A1), by simp, by rw [hx4], by rw [show T = A1 by omega]; rfl⟩)
    · have hg' : rem = 0 := by simpa using hg
      subst hg'
      rw [List.replicate_zero, restS_nil] at hx4
      rw [List.replicate_zero, restC_nil] at hx5
      refine walkS ?_
      refine aw_condS rfl (fun hc => ?_) (fun hc => ?_)
      · (first | exact absurd trivial hc | exact absurd rfl hc | (cases hc; done) | omega | exact absurd hc (by decide) | (simp at hc; done))
      · refine walkS ?_
        (refine aw_ret ?_; (simp only [Fin, Tryz.results80]; refine finS ?_); exact ⟨_, [], .inl ⟨rfl, rfl⟩, _, (chk D b A1 : List Eng.D).map .d, [], rfl, toZL_d _ (chk D b A1), by simp, by rw [hx4], by rw [show T = A1 by omega]; rfl⟩)
  · have hg0 : c0 ≠ 0 := by simpa using hg
    refine walkS ?_
    refine aw_condS rfl (fun hc => ?_) (fun hc => ?_)
    · (first | exact absurd trivial hc | exact absurd rfl hc | (cases hc; done) | omega | exact absurd hc (by decide) | (simp at hc; done))
    refine walkS ?_
    refine aw_loopS [0, 4, 6, 8] (fun _ _ => []) (fun _ y => [(7, .d (iD (y.1 : Nat)))]) [80, 0] (fun _ y => [(80, some [.d (iD (y.2.1 : Nat)), .d (iD (y.2.2.1 : Nat))]), (0, some [.d (encDs D), .d (encB b), .d (iD (IntKind.i64.wrap y.2.2.2))])]) [] (fun _ _ => []) (fun y : Nat × Nat × Nat × Int => y.2.1 ≤ b.length ∧ y.1 ≤ m0 ∧ (y.2.2.1 = 0 → y.1 ≤ 40) ∧ S = restS (rd D b f) (List.replicate y.1 kk) y.2.1 y.2.2.1 ∧ T = y.2.2.2 + (restC (rd D b f) (cnt D b f) (List.replicate y.1 kk) y.2.1 y.2.2.1 : Nat)) (fun y => y.1) ((m0, q0, c0, a + 1)) hks (fun _ => rfl) ⟨hq0, Nat.le_refl _, hm0, hS, hT⟩ wkS ?_; intro x hx; refine headS ?_
    obtain ⟨rem, q1, c1, A1⟩ := x
    simp only at hx ⊢
    obtain ⟨hx1, hx2, hx3, hx4, hx5⟩ := hx
    refine walkS ?_
    (refine ow_gd rfl rfl (fun x hx => by cases hx <;> (rw [hsz]; decide)) (fun hg K1 hK1 => ?_) (fun hg => ?_); ((try simp only [hg]); refine evS ?_;  refine hK1 _ ?_; clear hK1 K1); rotate_left; (simp only [Bool.not_true, Bool.not_false] at hg; simp only [St.set, hg]); rotate_left)
    · have hg' : 0 < rem := by simpa using hg
      refine walkS ?_
      refine aw_condS rfl (fun hc1 => ?_) (fun hc1 => ?_)
      · have e : c1 = 0 := by omega
        subst e
        obtain ⟨rem', rfl⟩ : ∃ k, rem = k + 1 := ⟨rem - 1, by omega⟩
        rw [List.replicate_succ, restS_cons] at hx4
        rw [List.replicate_succ, restC_cons] at hx5
        have hin := rd_in D b f kk q1 hx1
        have HV := H kk q1 A1 (by omega) (by omega) hx1
        (repeat (first | refine walkS ?_ | (refine ol_call1r (k := 0) ?_ rfl (HV) rfl rfl ⟨0, List.mem_cons_self⟩ ?_; (first | exact trivial | exact rfl); simp only [St.set, List.map_cons, List.map_nil, Nat.reduceAdd, Nat.reduceMul]) | (refine ow_call1d (k := 0) ?_ (fun x hx => by cases hx <;> (rw [hsz]; decide)) rfl (HV) rfl rfl ?_; (first | exact trivial | exact rfl); simp only [St.set, List.map_cons, List.map_nil, Nat.reduceAdd]) | (refine ol_call1d (k := 0) ?_ rfl (HV) rfl rfl ⟨0, List.mem_cons_self⟩ ?_; (first | exact trivial | exact rfl); simp only [St.set, List.map_cons, List.map_nil, Nat.reduceAdd])))
        refine ⟨(rem', (rd D b f kk q1).2.1, (rd D b f kk q1).2.2, A1 + (cnt D b f kk q1 : Nat)), ⟨hin.2, by simp only; omega, fun h => by have := hx3 rfl; simp only; omega, hx4, by simp only; omega⟩, by simp only; omega, ?_⟩
        exact wkS
      · rw [restS_bad _ _ _ _ (by omega)] at hx4
        rw [restC_bad _ _ _ _ _ (by omega)] at hx5
        refine walkS ?_
        (refine aw_ret ?_; (simp only [Fin, Tryz.results80]; refine finS ?_); exact ⟨_, [], .inl ⟨rfl, rfl⟩, _, (chk D b A1 : List Eng.D).map .d, [], rfl, toZL_d _ (chk D b A1), by simp, by rw [hx4], by rw [show T = A1 by omega]; rfl⟩)
    · have hg' : rem = 0 := by simpa using hg
      subst hg'
      rw [List.replicate_zero, restS_nil] at hx4
      rw [List.replicate_zero, restC_nil] at hx5
      refine walkS ?_
      refine aw_condS rfl (fun hc => ?_) (fun hc => ?_)
      · (first | exact absurd trivial hc | exact absurd rfl hc | (cases hc; done) | omega | exact absurd hc (by decide) | (simp at hc; done))
      · refine walkS ?_
        (refine aw_ret ?_; (simp only [Fin, Tryz.results80]; refine finS ?_); exact ⟨_, [], .inl ⟨rfl, rfl⟩, _, (chk D b A1 : List Eng.D).map .d, [], rfl, toZL_d _ (chk D b A1), by simp, by rw [hx4], by rw [show T = A1 by omega]; rfl⟩)
end
end Go.Proofs.YtlcnmoolicfinaaGreatDoor.Eng
