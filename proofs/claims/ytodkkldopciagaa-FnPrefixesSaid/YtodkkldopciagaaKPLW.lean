/-
 Plain laws: how many applications of rules a file needs at most.

 Plain laws: beginnings of what may be the beginning of a file.
-/
import Derived.Test.YtodkkldopciagaaKP
import Derived.Test.YtodkkldopciagaaKPure16
import Derived.Test.YtodkkldopciagaaKPLP
import Derived.Test.YtodkkldopciagaaKLWX
set_option linter.unusedSimpArgs false
set_option linter.unusedVariables false
set_option linter.defProp false
set_option maxRecDepth 100000
set_option maxHeartbeats 4000000
namespace Go.Proofs.Ytodkkldopciagaa.Eng
open Go.RowKit

def Wk (N k p : Nat) (x : V × Nat × Nat) (c : Nat) : Prop :=
 p ≤ x.2.1 ∧ 1 ≤ c ∧ (x.2.2 = 0 → p + 1 ≤ x.2.1 ∧ c + N ≤ (x.2.1 - p) * N + (k + 1)) ∧ (x.2.2 ≠ 0 → c ≤ (x.2.1 - p) * N + (k + 1))
theorem wkItems {N : Nat} {f : Nat → Nat → V × Nat × Nat} {g : Nat → Nat → Nat} {k0 : Nat} : ∀ (ks : List Nat) (p : Nat), (∀ k ∈ ks, ∀ p, Wk N k p (f k p) (g k p) ∧ k < k0) → k0 ≤ N →
  p ≤ (rdItems f ks p).2.1 ∧ ((rdItems f ks p).2.2 = 0 → p + ks.length ≤ (rdItems f ks p).2.1 ∧ cntItems f g ks p ≤ ((rdItems f ks p).2.1 - p) * N ∧ (ks ≠ [] → cntItems f g ks p + N ≤ ((rdItems f ks p).2.1 - p) * N + k0)) ∧
   ((rdItems f ks p).2.2 ≠ 0 → cntItems f g ks p ≤ ((rdItems f ks p).2.1 - p) * N + k0)
 | [], p, _, _ => ⟨Nat.le_refl _, fun _ => ⟨Nat.le_refl _, by simp [cntItems, rdItems], fun h => absurd rfl h⟩, fun h => absurd rfl h⟩
 | k :: ks, p, H, hN => by
  obtain ⟨⟨h1, h2, h3, h4⟩, h5⟩ := H k (by simp) p
  have IH := wkItems ks (f k p).2.1 (fun k hk => H k (by simp [hk])) hN
  rw [cntItems]
  unfold rdItems
  generalize g k p = c1 at *
  generalize f k p = x at *
  obtain ⟨v, q, c⟩ := x
  simp only at h1 h3 h4 IH ⊢
  by_cases hc : c = 0
  ·obtain ⟨a1, a2⟩ := h3 hc
   simp only [hc, if_true]
   generalize cntItems f g ks q = c2 at *
   generalize rdItems f ks q = y at *
   obtain ⟨vs, q2, d⟩ := y
   simp only at IH ⊢
   obtain ⟨b1, b2, b3⟩ := IH
   have e1 : (q2 - p) * N = (q - p) * N + (q2 - q) * N := by rw [← Nat.add_mul]; congr 1; omega
   by_cases hd : d = 0
   ·obtain ⟨d1, d2, _⟩ := b2 hd
    rw [if_pos hd]
    simp only [List.length_cons]
    exact ⟨by omega, fun _ => ⟨by omega, by omega, fun _ => by omega⟩, fun h => absurd rfl h⟩
   ·have := b3 hd
    rw [if_neg hd]
    simp only
    exact ⟨by omega, fun h => absurd h hd, fun _ => by omega⟩
  ·have := h4 hc
   simp only [if_neg hc]
   exact ⟨h1, fun h => absurd h hc, fun _ => by omega⟩
section
variable {D : List RuleD} {b : List UInt8}
theorem wk_items {k p s : Nat} {f : Nat → Nat → V × Nat × Nat} {g : Nat → Nat → Nat} {ks : List Nat} {m : Int} {e : Nat} (hN : k < D.length) (H : ∀ j ∈ ks, ∀ p, Wk D.length j p (f j p) (g j p) ∧ j < k)
  (he : 1 ≤ e) (h : (e = 1 ∧ s = 0 ∧ ks ≠ []) ∨ (1 ≤ s ∧ e ≤ k + 1)) : Wk D.length k p (mkItems m (rdItems f ks (p + s))) (e + cntItems f g ks (p + s)) := by
 have IH := wkItems ks (p + s) H (by omega)
 unfold Wk
 have e1 : (mkItems m (rdItems f ks (p + s))).2 = (rdItems f ks (p + s)).2 := mkItems_2 _ _
 rw [show (mkItems m (rdItems f ks (p + s))).2.1 = (rdItems f ks (p + s)).2.1 from congrArg Prod.fst e1, show (mkItems m (rdItems f ks (p + s))).2.2 = (rdItems f ks (p + s)).2.2 from congrArg Prod.snd e1]
 generalize cntItems f g ks (p + s) = c at *
 generalize rdItems f ks (p + s) = y at *
 obtain ⟨vs, q, d⟩ := y
 simp only at IH ⊢
 obtain ⟨b1, b2, b3⟩ := IH
 have e2 : (q - p) * D.length = (q - (p + s)) * D.length + s * D.length := by rw [← Nat.add_mul]; congr 1; omega
 refine ⟨by omega, by omega, fun h0 => ?_, fun h0 => ?_⟩
 ·obtain ⟨d1, d2, d3⟩ := b2 h0
  rcases h with ⟨rfl, rfl, hne⟩ | ⟨h1, h2⟩
  ·have := d3 hne
   have hl : 0 < ks.length := List.length_pos_iff.2 hne
   rw [Nat.zero_mul] at e2
   exact ⟨by omega, by omega⟩
  ·obtain ⟨t, rfl⟩ : ∃ t, s = t + 1 := ⟨s - 1, by omega⟩
   rw [Nat.add_mul, Nat.one_mul] at e2
   exact ⟨by omega, by omega⟩
 ·have h3 := b3 h0
  rcases h with ⟨rfl, rfl, hne⟩ | ⟨h1, h2⟩
  ·rw [Nat.zero_mul] at e2
   omega
  ·obtain ⟨t, rfl⟩ : ∃ t, s = t + 1 := ⟨s - 1, by omega⟩
   rw [Nat.add_mul, Nat.one_mul] at e2
   omega
theorem wk_plain {N k p : Nat} {x : V × Nat × Nat} {c : Nat} (h : p ≤ x.2.1) (hc : 1 ≤ c) (h0 : x.2.2 = 0 → p + 1 ≤ x.2.1) (hk : c ≤ k + 1) : Wk N k p x c := by
 refine ⟨h, hc, fun h1 => ⟨h0 h1, ?_⟩, fun _ => by omega⟩
 have h2 := h0 h1
 obtain ⟨t, ht⟩ : ∃ t, x.2.1 - p = t + 1 := ⟨x.2.1 - p - 1, by omega⟩
 rw [ht, Nat.add_mul, Nat.one_mul]
 omega
theorem constAt_from {b : List UInt8} {p : Nat} : ∀ (cs : List UInt8) (i : Nat), p ≤ (constAt b p i cs).1
 | [], i => Nat.le_add_right _ _
 | c :: cs, i => by
  rw [constAt]
  split
  ·exact Nat.le_refl _
  ·split
   ·exact constAt_from cs (i + 1)
   ·exact Nat.le_add_right _ _
theorem bytesAt_from {b : List UInt8} {p n : Nat} : p ≤ (bytesAt b p n).2.1 := by
 unfold bytesAt
 split
 ·exact Nat.le_refl _
 ·exact Nat.le_add_right _ _
theorem readTerm_from {b : List UInt8} {p : Nat} {t : UInt8} {x : List UInt8 × Nat} (h : readTerm b p t = some x) : p ≤ x.2 := by
 unfold readTerm at h
 simp only [Option.map_eq_some_iff] at h
 obtain ⟨y, _, rfl⟩ := h
 exact Nat.le_add_right _ _
theorem rd_wk (hV : descP D) : ∀ (f rule p : Nat), rule < D.length → rule < f → Wk D.length rule p (rd D b f rule p) (cnt D b f rule p)
 | 0, rule, p, _, h => by omega
 | f + 1, rule, p, hl, hf => by
  obtain ⟨r, hr⟩ : ∃ r, D[rule]? = some r := ⟨_, List.getElem?_eq_getElem hl⟩
  have G := good_of hV hr
  have hrD := ruleD_get hr
  have HT := (rd_tot (b := b) hV (f + 1) rule p hl)
  have HS : (rd D b (f + 1) rule p).2.2 = 0 → p + 1 ≤ (rd D b (f + 1) rule p).2.1 := fun h => (HT h).1
  have HK : ∀ j (hj : j < r.kids.length), ∀ p, Wk D.length (r.kids[j]).toNat p (rd D b f (r.kids[j]).toNat p) (cnt D b f (r.kids[j]).toNat p) ∧ (r.kids[j]).toNat < rule := fun j hj p => by
   have := G.kid j hj
   exact ⟨rd_wk hV f _ p (by omega) (by omega), by omega⟩
  have H0 : 1 ≤ r.kids.length → ∀ p, Wk D.length (kid0 r).toNat p (rd D b f (kid0 r).toNat p) (cnt D b f (kid0 r).toNat p) ∧ (kid0 r).toNat < rule := fun h p => by
   have := HK 0 h p
   rwa [show r.kids[0] = kid0 r by have k := kids0 h; rw [List.getElem?_eq_getElem (by omega)] at k; exact Option.some.inj k] at this
  have H1 : 2 ≤ r.kids.length → ∀ p, Wk D.length (kid1 r).toNat p (rd D b f (kid1 r).toNat p) (cnt D b f (kid1 r).toNat p) ∧ (kid1 r).toNat < rule := fun h p => by
   have := HK 1 h p
   rwa [show r.kids[1] = kid1 r by have k := kids1 h; rw [List.getElem?_eq_getElem (by omega)] at k; exact Option.some.inj k] at this
  have HN : (r.kind = 4 ∨ r.kind = 5 ∨ r.kind = 7) → 1 ≤ (ruleD D (kid0 r)).size.toNat := fun h => by
   obtain ⟨j, q, _, _, hq, hqr, _⟩ := head_kid G h
   rw [hqr]
   omega
  have H2 : (r.kind = 4 ∨ r.kind = 5 ∨ r.kind = 7) → 2 ≤ rule + 1 := fun h => by
   have : 1 ≤ r.kids.length := by
    rcases h with h | h | h
    ·have := (G.k4 h).1; omega
    ·have := (G.k5 h).1; omega
    ·have := (G.k7 h).1; omega
   have := (H0 this 0).2
   omega
  obtain ⟨kd1, kd2⟩ := G.kd
  by_cases k1 : r.kind = 1
  ·rw [cnt_1 hrD k1]
   refine wk_plain ?_ (Nat.le_refl _) HS (by omega)
   cases h : intAt r b p with
   | none => rw [rd_1n hrD k1 h]; exact Nat.le_refl _
   | some m => rw [rd_1s hrD k1 h]; exact Nat.le_add_right _ _
  by_cases k2 : r.kind = 2
  ·rw [cnt_0 hrD (.inl k2)]
   refine wk_plain ?_ (Nat.le_refl _) HS (by omega)
   rw [rd_2 hrD k2]
   exact constAt_from _ _
  by_cases k3 : r.kind = 3
  ·rw [cnt_0 hrD (.inr (.inl k3))]
   refine wk_plain ?_ (Nat.le_refl _) HS (by omega)
   rw [rd_3 hrD k3]
   exact bytesAt_from
  by_cases k10 : r.kind = 10
  ·rw [cnt_0 hrD (.inr (.inr k10))]
   refine wk_plain ?_ (Nat.le_refl _) HS (by omega)
   cases h : readTerm b p (r.bytes.headD 0) with
   | none => rw [rd_10n hrD k10 h]; exact Nat.le_refl _
   | some m => rw [rd_10s hrD k10 h]; exact readTerm_from h
  by_cases k4 : r.kind = 4
  ·rw [cnt_4 hrD k4]
   refine wk_plain ?_ (by omega) HS (H2 (.inl k4))
   cases h : intAt (ruleD D (kid0 r)) b p with
   | none => rw [rd_45n hrD (.inl k4) h]; exact Nat.le_refl _
   | some m => rw [rd_4s hrD k4 h]; exact Nat.le_trans (Nat.le_add_right _ _) bytesAt_from
  by_cases k6 : r.kind = 6
  ·rw [rd_6 hrD k6, cnt_6 hrD k6]
   have hg := seq_ge hV hr k6
   have := wk_items (s := 0) (e := 1) (m := 0) (p := p) (ks := r.kids.map Int.toNat) hl (f := rd D b f) (g := cnt D b f) (fun j hj p => by
    obtain ⟨x, hx, rfl⟩ := List.mem_map.1 hj
    obtain ⟨i, hi, rfl⟩ := List.getElem_of_mem hx
    exact HK i hi p) (Nat.le_refl _) (.inl ⟨rfl, rfl, fun h => by
    rw [List.map_eq_nil_iff] at h
    rw [h] at hg
    simp at hg⟩)
   exact this
  by_cases k7 : r.kind = 7
  ·cases h : intAt (ruleD D (kid0 r)) b p with
   | none =>
    rw [rd_7n hrD k7 h, cnt_7n hrD k7 h]
    exact wk_plain (Nat.le_refl _) (by omega) (fun h => absurd h (by simp)) (H2 (.inr (.inr k7)))
   | some m =>
    cases ht : tagIx r.tags m with
    | none =>
     rw [rd_7t hrD k7 h ht, cnt_7t hrD k7 h ht]
     exact wk_plain (Nat.le_refl _) (by omega) (fun h => absurd h (by simp)) (H2 (.inr (.inr k7)))
    | some k =>
     rw [rd_7s hrD k7 h ht, cnt_7s hrD k7 h ht]
     have hk : k < r.tags.length := by
      unfold tagIx at ht
      rw [List.findIdx?_eq_some_iff_getElem] at ht
      exact ht.1
     have hkl : k + 1 < r.kids.length := by have := (G.k7 k7).1; omega
     refine wk_items hl (fun j hj p => ?_) (by omega) (.inr ⟨HN (.inr (.inr k7)), H2 (.inr (.inr k7))⟩)
     rw [List.mem_singleton] at hj
     subst hj
     rw [List.getD_eq_getElem?_getD, List.getElem?_eq_getElem hkl]
     exact HK _ hkl p
  by_cases k8 : r.kind = 8
  ·cases h : b[p]? with
   | none =>
    rw [rd_8n hrD k8 h, cnt_8n hrD k8 h]
    exact wk_plain (Nat.le_refl _) (by omega) (fun h => absurd h (by simp)) (by omega)
   | some c =>
    by_cases hc : 1 < c.toNat
    ·rw [rd_8f hrD k8 h hc, cnt_8f hrD k8 h hc]
     exact wk_plain (Nat.le_refl _) (by omega) (fun h => absurd h (by simp)) (by omega)
    ·rw [rd_8s hrD k8 h hc, cnt_8s hrD k8 h hc]
     refine wk_items hl (fun j hj p => ?_) (by omega) (.inr ⟨by omega, by omega⟩)
     obtain ⟨_, rfl⟩ := List.mem_replicate.1 hj
     exact H0 (by have := G.k8 k8; omega) p
  by_cases k9 : r.kind = 9
  ·rw [cnt_9 hrD k9]
   have hW := wk_items (s := 0) (e := 1) (m := 0) (p := p) (ks := [(kid0 r).toNat]) hl (f := rd D b f) (g := cnt D b f) (fun j hj p => by
    rw [List.mem_singleton] at hj
    subst hj
    exact H0 (by have := G.k9 k9; omega) p) (Nat.le_refl _) (.inl ⟨rfl, rfl, by simp⟩)
   rw [Nat.add_zero] at hW
   cases hx : mkItems 0 (rdItems (rd D b f) [(kid0 r).toNat] p) with
   | mk v y =>
    obtain ⟨q, c⟩ := y
    rw [hx] at hW
    obtain ⟨w1, w2, w3, w4⟩ := hW
    simp only at w1 w3 w4
    by_cases h0 : c = 0
    ·subst h0
     obtain ⟨w5, w6⟩ := w3 rfl
     cases hq : b[q]? with
     | none =>
      rw [rd_9n hrD k9 hx hq]
      exact ⟨w1, w2, fun h => absurd h (by simp), fun _ => by simp only; omega⟩
     | some s =>
      by_cases h5 : s.toNat = sumB ((b.drop p).take (q - p))
      ·rw [rd_9s hrD k9 hx hq h5]
       refine ⟨by simp only; omega, w2, fun _ => ⟨by simp only; omega, ?_⟩, fun h => absurd rfl h⟩
       have e : (q + 1 - p) * D.length = (q - p) * D.length + D.length := by rw [show q + 1 - p = (q - p) + 1 by omega, Nat.add_mul, Nat.one_mul]
       simp only
       omega
      ·rw [rd_9f hrD k9 hx hq h5]
       exact ⟨w1, w2, fun h => absurd h (by simp), fun _ => by simp only; omega⟩
    ·rw [rd_9e hrD k9 hx h0]
     exact ⟨w1, w2, w3, w4⟩
  have k5 : r.kind = 5 := by omega
  cases h : intAt (ruleD D (kid0 r)) b p with
  | none =>
   rw [rd_45n hrD (.inr k5) h, cnt_5n hrD k5 h]
   exact wk_plain (Nat.le_refl _) (by omega) (fun h => absurd h (by simp)) (H2 (.inr (.inl k5)))
  | some m =>
   by_cases hm : 40 < m
   ·rw [rd_5c hrD k5 h hm, cnt_5c hrD k5 h hm]
    exact wk_plain (Nat.le_refl _) (by omega) (fun h => absurd h (by simp)) (H2 (.inr (.inl k5)))
   ·rw [rd_5s hrD k5 h hm, cnt_5s hrD k5 h hm]
    refine wk_items hl (fun j hj p => ?_) (by omega) (.inr ⟨HN (.inr (.inl k5)), H2 (.inr (.inl k5))⟩)
    obtain ⟨_, rfl⟩ := List.mem_replicate.1 hj
    exact H1 (by have := (G.k5 k5).1; omega) p
theorem cnt_bound (hV : descP D) : 1 ≤ cnt D b D.length (D.length - 1) 0 ∧ cnt D b D.length (D.length - 1) 0 ≤ (b.length + 1) * D.length := by
 have hl : D.length - 1 < D.length := by have := hV.1.1; omega
 obtain ⟨h1, h2, h3, h4⟩ := rd_wk (b := b) hV D.length (D.length - 1) 0 hl hl
 have hin := (rd_in D b D.length (D.length - 1) 0 (Nat.zero_le _)).2
 refine ⟨h2, ?_⟩
 have e : (b.length + 1) * D.length = b.length * D.length + D.length := by rw [Nat.add_mul, Nat.one_mul]
 have hm : ((rd D b D.length (D.length - 1) 0).2.1 - 0) * D.length ≤ b.length * D.length := Nat.mul_le_mul_right _ (by omega)
 by_cases h0 : (rd D b D.length (D.length - 1) 0).2.2 = 0
 ·have := (h3 h0).2
  omega
 ·have := h4 h0
  omega
end
end Go.Proofs.Ytodkkldopciagaa.Eng
namespace Go.Proofs.Ytodkkldopciagaa.Eng
open Go.RowKit

theorem rdItems_1 {g : Nat → Nat → V × Nat × Nat} {k p : Nat} {ks : List Nat} (h : (g k p).2.2 = 1) : (rdItems g (k :: ks) p).2.2 = 1 := by
 unfold rdItems
 generalize g k p = x at h ⊢
 obtain ⟨v, q, c⟩ := x
 simp only at h ⊢
 subst h
 simp
section
variable {D : List RuleD}
theorem intAt_nil {r : RuleD} (h : 1 ≤ r.size.toNat) : intAt r [] 0 = none := by
 cases e : intAt r [] 0 with
 | none => rfl
 | some m =>
  have := (intAt_in e (by simp)).1
  simp at this
  omega
theorem rd_nil (hV : descP D) : ∀ (f rule : Nat), rule < D.length → rule < f → (rd D [] f rule 0).2.2 = 1
 | 0, rule, _, h => by omega
 | f + 1, rule, hl, hf => by
  obtain ⟨r, hr⟩ : ∃ r, D[rule]? = some r := ⟨_, List.getElem?_eq_getElem hl⟩
  have G := good_of hV hr
  have hrD := ruleD_get hr
  have HT := (rd_tot (b := []) hV (f + 1) rule 0 hl)
  have hin : (rd D [] (f + 1) rule 0).2.1 ≤ 0 := (rd_in D [] (f + 1) rule 0 (Nat.zero_le _)).2
  have HS : (rd D [] (f + 1) rule 0).2.2 ≠ 0 := fun h => by
   have := (HT h).1
   omega
  have H0 : 1 ≤ r.kids.length → (rd D [] f (kid0 r).toNat 0).2.2 = 1 := fun h => by
   have := G.kid 0 h
   rw [show r.kids[0] = kid0 r by have k := kids0 h; rw [List.getElem?_eq_getElem (by omega)] at k; exact Option.some.inj k] at this
   exact rd_nil hV f _ (by omega) (by omega)
  have HN : (r.kind = 4 ∨ r.kind = 5 ∨ r.kind = 7) → intAt (ruleD D (kid0 r)) [] 0 = none := fun h => by
   obtain ⟨j, q, _, _, hq, hqr, _⟩ := head_kid G h
   refine intAt_nil ?_
   rw [hqr]
   omega
  obtain ⟨kd1, kd2⟩ := G.kd
  by_cases k1 : r.kind = 1
  ·cases h : intAt r [] 0 with
   | none => rw [rd_1n hrD k1 h]
   | some m => rw [rd_1s hrD k1 h] at HS; exact absurd rfl HS
  by_cases k2 : r.kind = 2
  ·rw [rd_2 hrD k2] at HS ⊢
   cases hb : r.bytes with
   | nil => rw [hb] at HS; exact absurd rfl HS
   | cons c cs => rw [constAt]; simp
  by_cases k3 : r.kind = 3
  ·rw [rd_3 hrD k3] at HS ⊢
   unfold bytesAt at HS ⊢
   split
   ·rfl
   ·rename_i h; rw [if_neg h] at HS; exact absurd rfl HS
  by_cases k10 : r.kind = 10
  ·cases h : readTerm [] 0 (r.bytes.headD 0) with
   | none => rw [rd_10n hrD k10 h]
   | some m => rw [rd_10s hrD k10 h] at HS; exact absurd rfl HS
  by_cases k4 : r.kind = 4
  ·rw [rd_45n hrD (.inl k4) (HN (.inl k4))]
  by_cases k5 : r.kind = 5
  ·rw [rd_45n hrD (.inr k5) (HN (.inr (.inl k5)))]
  by_cases k7 : r.kind = 7
  ·rw [rd_7n hrD k7 (HN (.inr (.inr k7)))]
  by_cases k6 : r.kind = 6
  ·rw [rd_6 hrD k6, mkItems_c]
   have hg := seq_ge hV hr k6
   have hl1 : 1 ≤ r.kids.length := by omega
   have h0 := H0 hl1
   have k := kids0 hl1
   cases hk : r.kids with
   | nil => rw [hk] at hl1; simp at hl1
   | cons x xs =>
    rw [hk] at k
    have e : x = kid0 r := by simpa using k
    rw [List.map_cons, e]
    exact rdItems_1 h0
  by_cases k8 : r.kind = 8
  ·rw [rd_8n hrD k8 (by simp)]
  have k9 : r.kind = 9 := by omega
  have h0 := H0 (by have := G.k9 k9; omega)
  have hc : (mkItems 0 (rdItems (rd D [] f) [(kid0 r).toNat] 0)).2.2 = 1 := by rw [mkItems_c]; exact rdItems_1 h0
  cases hx : mkItems 0 (rdItems (rd D [] f) [(kid0 r).toNat] 0) with
  | mk v y =>
   obtain ⟨q, c⟩ := y
   rw [hx] at hc
   simp only at hc
   subst hc
   rw [rd_9e hrD k9 hx (by decide)]
theorem readV_root (hV : vDesc D = true) {b : List UInt8} (hb : b.length ≤ 400) : readV D b ((D.length : Int) - 1) 0 = rd D b D.length (D.length - 1) 0 := by
 have h1 := (descP_of hV).1.1
 unfold readV
 rw [if_pos ⟨vKnown_yes hV (by omega), ⟨by omega, by omega⟩, hb⟩, show ((D.length : Int) - 1).toNat = D.length - 1 by omega, show (0 : Int).toNat = 0 from rfl]
theorem validP_nil (hV : vDesc D = true) : validP D [] = true := by
 have h1 := (descP_of hV).1.1
 have h := rd_nil (descP_of hV) D.length (D.length - 1) (by omega) (by omega)
 unfold validP readF
 rw [readV_root hV (by simp)]
 generalize rd D [] D.length (D.length - 1) 0 = y at h ⊢
 rw [if_neg (fun k => by rw [h] at k; exact absurd k.1 (by decide)), h]
 rfl
theorem validP_not (hV : ¬ vDesc D = true) (b : List UInt8) : validP D b = false := by
 have e : readV D b ((D.length : Int) - 1) 0 = (V0, 0, 8) := if_neg fun h => by
  rw [vKnown_no1 (by simpa using hV)] at h
  exact absurd h.1 (by decide)
 unfold validP readF
 rw [e]
 simp
theorem validP_pre {b : List UInt8} {n : Nat} (hn : n ≤ b.length) (h : validP D b = true) : validP D (b.take n) = true := by
 by_cases hV : vDesc D = true
 ·by_cases hl : b.length ≤ 400
  ·have hx : (b.take n).length = n := by rw [List.length_take, Nat.min_eq_left hn]
   have hin := (rd_in D (b.take n) D.length (D.length - 1) 0 (Nat.zero_le _)).2
   have e := rd_ext (D := D) hn D.length (D.length - 1) 0 (Nat.zero_le _)
   have hb := h
   unfold validP readF at h ⊢
   rw [readV_root hV hl] at h
   rw [readV_root hV (by omega)]
   generalize rd D (b.take n) D.length (D.length - 1) 0 = y at e hin ⊢
   by_cases hc : y.2.2 = 1
   ·rw [if_neg (fun k => by rw [hc] at k; exact absurd k.1 (by decide)), hc]
    rfl
   ·rw [e hc] at h
    by_cases h0 : y.2.2 = 0
    ·by_cases hq : y.2.1 < b.length
     ·rw [if_pos ⟨h0, hq⟩] at h
      simp at h
     ·have hnb : n = b.length := by
       have : y.2.1 ≤ (b.take n).length := hin
       omega
      rw [if_neg (fun k => by omega), h0]
      rfl
    ·rw [if_neg (fun k => h0 k.1)] at h
     simp only [Bool.or_eq_true, beq_iff_eq] at h
     omega
  ·rw [validP_long (by omega)] at h
   cases h
 ·rw [validP_not hV] at h
  cases h
theorem longP_spec {b : List UInt8} : ∀ n : Nat, (longP D b n = -1 ∧ validP D [] = false) ∨ ∃ m : Nat, m ≤ n ∧ longP D b n = (m : Int) ∧ validP D (b.take m) = true
 | 0 => by
  by_cases h : validP D [] = true
  ·exact .inr ⟨0, Nat.le_refl _, by unfold longP; rw [if_pos h]; rfl, by rw [List.take_zero]; exact h⟩
  ·exact .inl ⟨by unfold longP; rw [if_neg h], by simpa using h⟩
 | n + 1 => by
  rw [longP]
  by_cases h : validP D (b.take (n + 1)) = true
  ·exact .inr ⟨n + 1, Nat.le_refl _, by rw [if_pos h], h⟩
  ·rw [if_neg h]
   rcases longP_spec n with h1 | ⟨m, h1, h2⟩
   ·exact .inl h1
   ·exact .inr ⟨m, by omega, h2⟩
theorem longP_yes (hV : vDesc D = true) (b : List UInt8) : ∃ m : Nat, m ≤ b.length ∧ longP D b b.length = (m : Int) ∧ ∀ k, k ≤ m → validP D (b.take k) = true := by
 rcases longP_spec (D := D) (b := b) b.length with ⟨_, h⟩ | ⟨m, h1, h2, h3⟩
 ·rw [validP_nil hV] at h
  cases h
 ·refine ⟨m, h1, h2, fun k hk => ?_⟩
  have := validP_pre (D := D) (b := b.take m) (n := k) (by rw [List.length_take]; omega) h3
  rwa [List.take_take, Nat.min_eq_left hk] at this
theorem longP_not (hV : ¬ vDesc D = true) (b : List UInt8) : longP D b b.length = -1 := by
 rcases longP_spec (D := D) (b := b) b.length with ⟨h, _⟩ | ⟨m, h1, h2, h3⟩
 ·exact h
 ·rw [validP_not hV] at h3
  cases h3
end
end Go.Proofs.Ytodkkldopciagaa.Eng
