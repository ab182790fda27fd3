/-
 Plain laws: what is read of a beginning of bytes is read of the whole too, unless the beginning is too short.
-/
import Derived.Test.YtodkkldopciagaaKP
set_option linter.unusedSimpArgs false
set_option linter.unusedVariables false
set_option linter.defProp false
set_option maxRecDepth 100000
set_option maxHeartbeats 4000000
namespace Go.Proofs.Ytodkkldopciagaa
open Go.RowKit

section
variable {B : List UInt8} {n : Nat}
theorem sub_ext {p s : Nat} (h : p + s ≤ n) : ((B.take n).drop p).take s = (B.drop p).take s := by
 rw [List.drop_take, List.take_take, Nat.min_eq_left (by omega)]
theorem get_ext {i : Nat} (h : i < n) : (B.take n)[i]? = B[i]? := by
 rw [List.getElem?_take, if_pos h]
theorem intAt_ext (hn : n ≤ B.length) {r : RuleD} {p m : Nat} (hp : p ≤ n) (h : intAt r (B.take n) p = some m) : intAt r B p = some m := by
 unfold intAt at h ⊢
 rw [List.length_take, Nat.min_eq_left hn] at h
 split at h
 ·cases h
 ·rw [if_neg (by omega)]
  by_cases hs : 0 ≤ r.size
  ·rw [sub_ext (by omega)] at h
   exact h
  ·rw [show r.size.toNat = 0 by omega] at h ⊢
   simpa using h
theorem constAt_ext (hn : n ≤ B.length) {p : Nat} : ∀ (cs : List UInt8) (i : Nat), (constAt (B.take n) p i cs).2 ≠ 1 → constAt B p i cs = constAt (B.take n) p i cs
 | [], i, _ => rfl
 | c :: cs, i, h => by
  rw [constAt] at h
  rw [constAt, constAt]
  rw [List.length_take, Nat.min_eq_left hn] at h ⊢
  by_cases h1 : n ≤ p + i
  ·rw [if_pos h1] at h; exact absurd rfl h
  ·rw [if_neg h1] at h ⊢
   rw [if_neg (by omega)]
   rw [get_ext (by omega)] at h ⊢
   by_cases h2 : B[p + i]? = some c
   ·rw [if_pos h2] at h ⊢
    rw [if_pos h2]
    exact constAt_ext hn cs (i + 1) h
   ·rw [if_neg h2, if_neg h2]
theorem bytesAt_ext (hn : n ≤ B.length) {p m : Nat} (hp : p ≤ n) (h : (bytesAt (B.take n) p m).2.2 ≠ 1) : bytesAt B p m = bytesAt (B.take n) p m := by
 unfold bytesAt at h ⊢
 rw [List.length_take, Nat.min_eq_left hn] at h ⊢
 by_cases h1 : n - p < m
 ·rw [if_pos h1] at h; exact absurd rfl h
 ·rw [if_neg h1, if_neg (by omega), sub_ext (by omega)]
theorem term_app {t : UInt8} {z : List UInt8} : ∀ (n : Nat) (l : List UInt8), l.length ≤ n → ∀ x, term t l = some x → term t (l ++ z) = some x := by
 intro n
 induction n with
 | zero =>
  intro l hl x h
  have : l = [] := List.eq_nil_of_length_eq_zero (by omega)
  subst this
  simp [term] at h
 | succ n ih =>
  intro l hl x h
  match l with
  | [] => simp [term] at h
  | c :: r =>
   rw [List.cons_append, term_cons]
   rw [term_cons] at h
   simp only [List.length_cons] at hl
   split at h
   ·rename_i hc; rw [if_pos hc]; exact h
   ·rename_i hc
    rw [if_neg hc]
    split at h
    ·rename_i h9
     rw [if_pos h9]
     match r with
     | [] => simp at h
     | d :: r2 =>
      simp only [Option.map_eq_some_iff] at h
      obtain ⟨y, hy, rfl⟩ := h
      simp only [List.cons_append]
      rw [ih r2 (by simp at hl; omega) y hy]
      rfl
    ·rename_i h9
     rw [if_neg h9]
     simp only [Option.map_eq_some_iff] at h
     obtain ⟨y, hy, rfl⟩ := h
     rw [ih r (by omega) y hy]
     rfl
theorem readTerm_ext {p : Nat} {t : UInt8} {x : List UInt8 × Nat} (hp : p ≤ n) (h : readTerm (B.take n) p t = some x) : readTerm B p t = some x := by
 unfold readTerm at h ⊢
 simp only [Option.map_eq_some_iff] at h ⊢
 obtain ⟨y, hy, rfl⟩ := h
 refine ⟨y, ?_, rfl⟩
 have := term_app (z := (B.drop p).drop (n - p)) _ _ (Nat.le_refl _) y hy
 rwa [List.drop_take, List.take_append_drop] at this
theorem rdItems_ext {G g : Nat → Nat → V × Nat × Nat} (hin : ∀ k p, p ≤ n → (g k p).2.1 ≤ n) (H : ∀ k p, p ≤ n → (g k p).2.2 ≠ 1 → G k p = g k p) : ∀ (ks : List Nat) (p : Nat), p ≤ n → (rdItems g ks p).2.2 ≠ 1 → rdItems G ks p = rdItems g ks p
 | [], p, _, _ => rfl
 | k :: ks, p, hp, h => by
  have h1 := H k p hp
  have h2 := hin k p hp
  unfold rdItems at h ⊢
  generalize g k p = x at *
  obtain ⟨v, q, c⟩ := x
  simp only at h h1 h2 ⊢
  by_cases hc : c = 0
  ·have h3 := rdItems_ext hin H ks q h2
   rw [h1 (by omega)]
   simp only [hc, if_true] at h ⊢
   generalize rdItems g ks q = y at *
   obtain ⟨vs, q2, c2⟩ := y
   simp only at h h3 ⊢
   by_cases h4 : c2 = 0
   ·rw [h3 (by omega)]
   ·rw [if_neg h4] at h
    rw [h3 h]
  ·rw [if_neg hc] at h
   rw [h1 h]
   simp only [if_neg hc]
theorem mkItems_c (m : Int) (x : List V × Nat × Nat) : (mkItems m x).2.2 = x.2.2 := by
 unfold mkItems
 split
 ·rename_i h; exact h.symm
 ·rfl
theorem rd_else {D : List RuleD} {b : List UInt8} {f k p : Nat} {r : RuleD} (hr : ruleD D k = r) (h : ¬ (r.kind = 1 ∨ r.kind = 2 ∨ r.kind = 3 ∨ r.kind = 10 ∨ r.kind = 6 ∨ r.kind = 7 ∨ r.kind = 8 ∨ r.kind = 9)) : rd D b (f + 1) k p =
  match intAt (ruleD D (kid0 r)) b p with
   | none => (V0, p, 1)
   | some n =>
    if r.kind = 4 then bytesAt b (p + (ruleD D (kid0 r)).size.toNat) n
    else if 40 < n then (V0, p, 6)
    else mkItems 0 (rdItems (rd D b f) (List.replicate n (kid1 r).toNat) (p + (ruleD D (kid0 r)).size.toNat)) := by
 rw [rd]
 dsimp only
 rw [hr, if_neg (by omega), if_neg (by omega), if_neg (by omega), if_neg (by omega), if_neg (by omega), if_neg (by omega), if_neg (by omega), if_neg (by omega)]
 cases intAt (ruleD D (kid0 r)) b p <;> rfl
theorem rd_ext {D : List RuleD} (hn : n ≤ B.length) : ∀ (f rule p : Nat), p ≤ n → (rd D (B.take n) f rule p).2.2 ≠ 1 → rd D B f rule p = rd D (B.take n) f rule p
 | 0, rule, p, _, _ => rfl
 | f + 1, rule, p, hp, hc => by
  have hl : (B.take n).length = n := by rw [List.length_take, Nat.min_eq_left hn]
  have IN : ∀ k p, p ≤ n → (rd D (B.take n) f k p).2.1 ≤ n := fun k p h => by
   have := (rd_in D (B.take n) f k p (by omega)).2
   omega
  have IT : ∀ (m : Int) (ks : List Nat) (q : Nat), q ≤ n → (mkItems m (rdItems (rd D (B.take n) f) ks q)).2.2 ≠ 1 → mkItems m (rdItems (rd D B f) ks q) = mkItems m (rdItems (rd D (B.take n) f) ks q) := fun m ks q hq h => by
   rw [mkItems_c] at h
   rw [rdItems_ext IN (fun k p hp h => rd_ext hn f k p hp h) ks q hq h]
  obtain ⟨r, hr⟩ : ∃ r, ruleD D (rule : Int) = r := ⟨_, rfl⟩
  by_cases k1 : r.kind = 1
  ·cases h : intAt r (B.take n) p with
   | none => rw [rd_1n hr k1 h] at hc; exact absurd rfl hc
   | some m => rw [rd_1s hr k1 h, rd_1s hr k1 (intAt_ext hn hp h)]
  by_cases k2 : r.kind = 2
  ·rw [rd_2 hr k2] at hc
   rw [rd_2 hr k2, rd_2 hr k2, constAt_ext hn _ _ hc]
  by_cases k3 : r.kind = 3
  ·rw [rd_3 hr k3] at hc
   rw [rd_3 hr k3, rd_3 hr k3, bytesAt_ext hn hp hc]
  by_cases k10 : r.kind = 10
  ·cases h : readTerm (B.take n) p (r.bytes.headD 0) with
   | none => rw [rd_10n hr k10 h] at hc; exact absurd rfl hc
   | some x => rw [rd_10s hr k10 h, rd_10s hr k10 (readTerm_ext hp h)]
  by_cases k6 : r.kind = 6
  ·rw [rd_6 hr k6] at hc
   rw [rd_6 hr k6, rd_6 hr k6, IT _ _ _ hp hc]
  by_cases k7 : r.kind = 7
  ·cases h : intAt (ruleD D (kid0 r)) (B.take n) p with
   | none => rw [rd_7n hr k7 h] at hc; exact absurd rfl hc
   | some m =>
    have h' := intAt_ext hn hp h
    have hin := (intAt_in h (by omega)).1
    cases ht : tagIx r.tags m with
    | none => rw [rd_7t hr k7 h ht, rd_7t hr k7 h' ht]
    | some k =>
     rw [rd_7s hr k7 h ht] at hc
     rw [rd_7s hr k7 h ht, rd_7s hr k7 h' ht, IT _ _ _ (by omega) hc]
  by_cases k8 : r.kind = 8
  ·cases h : (B.take n)[p]? with
   | none => rw [rd_8n hr k8 h] at hc; exact absurd rfl hc
   | some c =>
    have hpn : p < n := by have := get_lt h; omega
    have h' : B[p]? = some c := by rw [← get_ext hpn]; exact h
    by_cases h1 : 1 < c.toNat
    ·rw [rd_8f hr k8 h h1, rd_8f hr k8 h' h1]
    ·rw [rd_8s hr k8 h h1] at hc
     rw [rd_8s hr k8 h h1, rd_8s hr k8 h' h1, IT _ _ _ (by omega) hc]
  by_cases k9 : r.kind = 9
  ·have hit := IT 0 [(kid0 r).toNat] p hp
   have hin : (mkItems 0 (rdItems (rd D (B.take n) f) [(kid0 r).toNat] p)).2.1 ≤ n := by
    rw [mkItems_2, rdItems_one2]
    exact IN _ _ hp
   cases hx : mkItems 0 (rdItems (rd D (B.take n) f) [(kid0 r).toNat] p) with
   | mk v y =>
    obtain ⟨q, c⟩ := y
    rw [hx] at hit hin
    simp only at hit hin
    by_cases h0 : c = 0
    ·subst h0
     have hX := hit (by decide)
     cases hq : (B.take n)[q]? with
     | none => rw [rd_9n hr k9 hx hq] at hc; exact absurd rfl hc
     | some s =>
      have hqn : q < n := by have := get_lt hq; omega
      have hq' : B[q]? = some s := by rw [← get_ext hqn]; exact hq
      have hs : ((B.take n).drop p).take (q - p) = (B.drop p).take (q - p) := sub_ext (by omega)
      by_cases h5 : s.toNat = sumB (((B.take n).drop p).take (q - p))
      ·rw [rd_9s hr k9 hx hq h5, rd_9s hr k9 hX hq' (by rw [← hs]; exact h5)]
      ·rw [rd_9f hr k9 hx hq h5, rd_9f hr k9 hX hq' (by rw [← hs]; exact h5)]
    ·rw [rd_9e hr k9 hx h0] at hc ⊢
     rw [rd_9e hr k9 (hit hc) h0]
  have hne : ¬ (r.kind = 1 ∨ r.kind = 2 ∨ r.kind = 3 ∨ r.kind = 10 ∨ r.kind = 6 ∨ r.kind = 7 ∨ r.kind = 8 ∨ r.kind = 9) := by omega
  rw [rd_else hr hne] at hc
  rw [rd_else hr hne, rd_else hr hne]
  cases h : intAt (ruleD D (kid0 r)) (B.take n) p with
  | none => rw [h] at hc; exact absurd rfl hc
  | some m =>
   have h' := intAt_ext hn hp h
   have hin := (intAt_in h (by omega)).1
   rw [h] at hc
   rw [h']
   simp only at hc ⊢
   by_cases k4 : r.kind = 4
   ·simp only [if_pos k4] at hc ⊢
    exact bytesAt_ext hn (by omega) hc
   ·simp only [if_neg k4] at hc ⊢
    by_cases h40 : 40 < m
    ·simp only [if_pos h40]
    ·simp only [if_neg h40] at hc ⊢
     exact IT _ _ _ (by omega) hc
end
end Go.Proofs.Ytodkkldopciagaa
