/-
 A value's own fields, values of a rule: the reference.
-/
import Derived.Test.YtodkkldopciagaaKNE
import Derived.Test.YtodkkldopciagaaKNB
import Derived.Test.YtodkkldopciagaaKP2
set_option linter.unusedSimpArgs false
set_option linter.unusedVariables false
set_option linter.defProp false
set_option maxRecDepth 100000
set_option maxHeartbeats 4000000
namespace Go.Proofs.Ytodkkldopciagaa.Eng
open Go Go.RowKit

private def tyF := And.intro (And.intro (And.intro (And.intro (And.intro (And.intro tb22 te22) (And.intro te24 te33)) (And.intro (And.intro te64 te65) (And.intro tf26_0 tf37_0))) (And.intro (And.intro (And.intro tf37_1 tf37_2) (And.intro tf67_0 tf67_1)) (And.intro (And.intro tf67_2 tf67_3) (And.intro tf67_4 tf67_5)))) (And.intro (And.intro (And.intro (And.intro tf67_6 tf67_7) (And.intro tk22 tk24)) (And.intro (And.intro tk26 tk3) (And.intro tk33 tk37))) (And.intro (And.intro (And.intro tk4 tk5) (And.intro tk64 tk65)) (And.intro (And.intro tk67 tk9) (And.intro tp26 (And.intro tp37 tp67)))))) (And.intro (And.intro (And.intro (And.intro (And.intro tr22 tr24) (And.intro tr26 tr3)) (And.intro (And.intro tr33 tr37) (And.intro tr4 tr5))) (And.intro (And.intro (And.intro tr64 tr65) (And.intro tr67 tr9)) (And.intro (And.intro tu22 tu24) (And.intro tu3 tu33)))) (And.intro (And.intro (And.intro (And.intro tu4 tu5) (And.intro tu64 tu65)) (And.intro (And.intro tu9 tz22) (And.intro tz24 tz26))) (And.intro (And.intro (And.intro tz3 tz33) (And.intro tz37 tz4)) (And.intro (And.intro tz5 tz64) (And.intro tz65 (And.intro tz67 tz9))))))
theorem minS_c (a b : Int) : AC Try.prog 119 [.d (iD a), .d (iD b)] none (fun r' _ => r' = .d (iD (minF a b))) := by
 refine calls_body Try.func119 rfl Try.call119 Try.ntmps119 (by simp) (by simp [ArgsOk]) (by simp [Rz.nkL, Rz.nk]) fun en hsz hks hk0 => ?_; refine enS ?_
 refine walkS ?_
 refine aw_condS rfl (fun h => ?_) (fun h => ?_)
 ·refine walkS ?_
  (refine aw_ret ?_; (simp only [Fin, Try.results119]; refine finS ?_); exact ⟨_, _, .inl ⟨rfl, rfl⟩, List.nodup_nil, by rw [minF, if_pos h]⟩)
 ·refine walkS ?_
  (refine aw_ret ?_; (simp only [Fin, Try.results119]; refine finS ?_); exact ⟨_, _, .inl ⟨rfl, rfl⟩, List.nodup_nil, by rw [minF, if_neg h]⟩)

section
variable {M : Nat} {D : List RuleD}
theorem good_items {i : Nat} {r : RuleD} (G : GoodR D i r) : (r.kind = 5 → 2 ≤ r.kids.length) ∧ (r.kind = 7 → r.kids.length = r.tags.length + 1) ∧ (r.kind = 8 ∨ r.kind = 9 → 1 ≤ r.kids.length) :=
 ⟨fun h => by have := (G.k5 h).1; omega, fun h => (G.k7 h).1, fun h => h.elim (fun h => by have := G.k8 h; omega) fun h => by have := G.k9 h; omega⟩
theorem own_kid {i : Nat} {r : RuleD} (G : GoodR D i r) (hi : i < D.length) {n : Int} {lb lv : Nat} (h : ownV D r n lb lv = true) {k : Nat} (hk : k < lv) : ∃ j : Nat, itemK r n k = j ∧ j < D.length := by
 obtain ⟨kd1, kd2⟩ := G.kd
 obtain ⟨h5, h7, h8⟩ := good_items G
 have kid : ∀ j (hj : j < r.kids.length), ∃ x : Nat, r.kids[j] = x ∧ x < D.length := fun j hj => by
  have := G.kid j hj
  exact ⟨r.kids[j].toNat, by omega, by omega⟩
 have k0 : 0 < r.kids.length → ∃ x : Nat, kid0 r = x ∧ x < D.length := fun h => by
  have e := kids0 h
  rw [List.getElem?_eq_getElem h] at e
  rw [← Option.some.inj e]
  exact kid 0 h
 by_cases e5 : r.kind = 5
 ·rw [itemK_5 e5]
  have h := h5 e5
  have e := kids1 (r := r) (by omega)
  rw [List.getElem?_eq_getElem (by omega)] at e
  rw [← Option.some.inj e]
  exact kid 1 (by omega)
 by_cases e6 : r.kind = 6
 ·rw [ownV_6 e6, decide_eq_true_eq] at h
  rw [itemK_6 e6 (by omega)]
  exact kid k (by omega)
 by_cases e7 : r.kind = 7
 ·rw [ownV_7 e7, decide_eq_true_eq] at h
  obtain ⟨_, _, h3⟩ := h
  cases ht : tagIx r.tags n with
  | none => rw [itemK_7n e7 ht] at h3; omega
  | some t =>
   have := tagIx_lt ht
   have := h7 e7
   rw [itemK_7 e7 ht (by omega)]
   exact kid (t + 1) (by omega)
 by_cases e8 : r.kind = 8
 ·rw [itemK_8 (.inl e8)]
  exact k0 (by have := h8 (.inl e8); omega)
 by_cases e9 : r.kind = 9
 ·rw [itemK_8 (.inr e9)]
  exact k0 (by have := h8 (.inr e9); omega)
 exfalso
 have : r.kind = 1 ∨ r.kind = 2 ∨ r.kind = 3 ∨ r.kind = 4 ∨ r.kind = 10 := by omega
 rcases this with e | e | e | e | e
 ·rw [ownV_1 e, decide_eq_true_eq] at h; omega
 ·rw [ownV_2 e, decide_eq_true_eq] at h; omega
 ·rw [ownV_3 e, decide_eq_true_eq] at h; omega
 ·rw [ownV_4 e, decide_eq_true_eq] at h; omega
 ·rw [ownV_10 e, decide_eq_true_eq] at h; omega
noncomputable def isVal (D : List RuleD) (i : Int) (v : V) : Bool := vKnown D i && validV D i v
end
end Go.Proofs.Ytodkkldopciagaa.Eng
