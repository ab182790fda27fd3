/-
  Plain laws: what is read of a beginning of bytes is read of the whole too, unless the beginning is too short.

  Plain laws: what is printed is read again.
-/
import Derived.Test.YtnndpimlfibncaaGreatDoorKP
import Derived.Test.YtnndpimlfibncaaGreatDoorKPure14
set_option linter.unusedSimpArgs false
set_option linter.unusedVariables false
set_option linter.defProp false
set_option maxRecDepth 100000
set_option maxHeartbeats 4000000
namespace Go.Proofs.YtnndpimlfibncaaGreatDoor
open Go.RowKit

section
variable {B : List UInt8} {n : Nat}
theorem sub_ext {p s : Nat} (h : p + s ≤ n) : ((B.take n).drop p).take s = (B.drop p).take s := by
  rw [List.drop_take, List.take_take, Nat.min_eq_left (by omega)]
theorem get_ext {i : Nat} (h : i < n) : (B.take n)[i]? = B[i]? := by
  rw [List.getElem?_take, if_pos h]
theorem intAt_ext (hn : n ≤ B.length) {r : RuleD} {p m : Nat} (hp : p ≤ n) (h : intAt r (B.take n) p = some m) : intAt r B p = some m := by
  unfold intAt at h ⊢
  rw [List.length_take, Nat.min_eq_left hn] at h
  split at h
  · cases h
  · rw [if_neg (by omega)]
    by_cases hs : 0 ≤ r.size
    · rw [sub_ext (by omega)] at h
      exact h
    · rw [show r.size.toNat = 0 by omega] at h ⊢
      simpa using h
theorem constAt_ext (hn : n ≤ B.length) {p : Nat} : ∀ (cs : List UInt8) (i : Nat), (constAt (B.take n) p i cs).2 ≠ 1 → constAt B p i cs = constAt (B.take n) p i cs
  | [], i, _ => rfl
  | c :: cs, i, h => by
    rw [constAt] at h
    rw [constAt, constAt]
    rw [List.length_take, Nat.min_eq_left hn] at h ⊢
    by_cases h1 : n ≤ p + i
    · rw [if_pos h1] at h; exact absurd rfl h
    · rw [if_neg h1] at h ⊢
      rw [if_neg (by omega)]
      rw [get_ext (by omega)] at h ⊢
      by_cases h2 : B[p + i]? = some c
      · rw [if_pos h2] at h ⊢
        rw [if_pos h2]
        exact constAt_ext hn cs (i + 1) h
      · rw [if_neg h2, if_neg h2]
theorem bytesAt_ext (hn : n ≤ B.length) {p m : Nat} (hp : p ≤ n) (h : (bytesAt (B.take n) p m).2.2 ≠ 1) : bytesAt B p m = bytesAt (B.take n) p m := by
  unfold bytesAt at h ⊢
  rw [List.length_take, Nat.min_eq_left hn] at h ⊢
  by_cases h1 : n - p < m
  · rw [if_pos h1] at h; exact absurd rfl h
  · rw [if_neg h1, if_neg (by omega), sub_ext (by omega)]
theorem term_app {t : UInt8} {z : List UInt8} : ∀ (n : Nat) (l : List UInt8), l.length ≤ n → ∀ x, term t l = some x → term t (l ++ z) = some x := by
  intro n
  induction n with
  | zero =>
    intro l hl x h
    have : l = [] := List.eq_nil_of_length_eq_zero (by omega)
    subst this
    simp [term] at h
  | succ n ih =>
    intro l hl x h
    match l with
    | [] => simp [term] at h
    | c :: r =>
      rw [List.cons_append, term_cons]
      rw [term_cons] at h
      simp only [List.length_cons] at hl
      split at h
      · rename_i hc; rw [if_pos hc]; exact h
      · rename_i hc
        rw [if_neg hc]
        split at h
        · rename_i h9
          rw [if_pos h9]
          match r with
          | [] => simp at h
          | d :: r2 =>
            simp only [Option.map_eq_some_iff] at h
            obtain ⟨y, hy, rfl⟩ := h
            simp only [List.cons_append]
            rw [ih r2 (by simp at hl; omega) y hy]
            rfl
        · rename_i h9
          rw [if_neg h9]
          simp only [Option.map_eq_some_iff] at h
          obtain ⟨y, hy, rfl⟩ := h
          rw [ih r (by omega) y hy]
          rfl
theorem readTerm_ext {p : Nat} {t : UInt8} {x : List UInt8 × Nat} (hp : p ≤ n) (h : readTerm (B.take n) p t = some x) : readTerm B p t = some x := by
  unfold readTerm at h ⊢
  simp only [Option.map_eq_some_iff] at h ⊢
  obtain ⟨y, hy, rfl⟩ := h
  refine ⟨y, ?_, rfl⟩
  have := term_app (z := (B.drop p).drop (n - p)) _ _ (Nat.le_refl _) y hy
  rwa [List.drop_take, List.take_append_drop] at this
theorem rdItems_ext {G g : Nat → Nat → V × Nat × Nat} (hin : ∀ k p, p ≤ n → (g k p).2.1 ≤ n) (H : ∀ k p, p ≤ n → (g k p).2.2 ≠ 1 → G k p = g k p) : ∀ (ks : List Nat) (p : Nat), p ≤ n → (rdItems g ks p).2.2 ≠ 1 → rdItems G ks p = rdItems g ks p
  | [], p, _, _ => rfl
  | k :: ks, p, hp, h => by
    have h1 := H k p hp
    have h2 := hin k p hp
    unfold rdItems at h ⊢
    generalize g k p = x at *
    obtain ⟨v, q, c⟩ := x
    simp only at h h1 h2 ⊢
    by_cases hc : c = 0
    · have h3 := rdItems_ext hin H ks q h2
      rw [h1 (by omega)]
      simp only [hc, if_true] at h ⊢
      generalize rdItems g ks q = y at *
      obtain ⟨vs, q2, c2⟩ := y
      simp only at h h3 ⊢
      by_cases h4 : c2 = 0
      · rw [h3 (by omega)]
      · rw [if_neg h4] at h
        rw [h3 h]
    · rw [if_neg hc] at h
      rw [h1 h]
      simp only [if_neg hc]
theorem mkItems_c (m : Int) (x : List V × Nat × Nat) : (mkItems m x).2.2 = x.2.2 := by
  unfold mkItems
  split
  · rename_i h; exact h.symm
  · rfl
theorem rd_else {D : List RuleD} {b : List UInt8} {f k p : Nat} {r : RuleD} (hr : ruleD D k = r) (h : ¬ (r.kind = 1 ∨ r.kind = 2 ∨ r.kind = 3 ∨ r.kind = 10 ∨ r.kind = 6 ∨ r.kind = 7 ∨ r.kind = 8 ∨ r.kind = 9)) : rd D b (f + 1) k p =
    match intAt (ruleD D (kid0 r)) b p with
      | none => (V0, p, 1)
      | some n =>
        if r.kind = 4 then bytesAt b (p + (ruleD D (kid0 r)).size.toNat) n
        else if 40 < n then (V0, p, 6)
        else mkItems 0 (rdItems (rd D b f) (List.replicate n (kid1 r).toNat) (p + (ruleD D (kid0 r)).size.toNat)) := by
  rw [rd]
  dsimp only
  rw [hr, if_neg (by omega), if_neg (by omega), if_neg (by omega), if_neg (by omega), if_neg (by omega), if_neg (by omega), if_neg (by omega), if_neg (by omega)]
  cases intAt (ruleD D (kid0 r)) b p <;> rfl
theorem rd_ext {D : List RuleD} (hn : n ≤ B.length) : ∀ (f rule p : Nat), p ≤ n → (rd D (B.take n) f rule p).2.2 ≠ 1 → rd D B f rule p = rd D (B.take n) f rule p
  | 0, rule, p, _, _ => rfl
  | f + 1, rule, p, hp, hc => by
    have hl : (B.take n).length = n := by rw [List.length_take, Nat.min_eq_left hn]
    have IN : ∀ k p, p ≤ n → (rd D (B.take n) f k p).2.1 ≤ n := fun k p h => by
      have := (rd_in D (B.take n) f k p (by omega)).2
      omega
    have IT : ∀ (m : Int) (ks : List Nat) (q : Nat), q ≤ n → (mkItems m (rdItems (rd D (B.take n) f) ks q)).2.2 ≠ 1 → mkItems m (rdItems (rd D B f) ks q) = mkItems m (rdItems (rd D (B.take n) f) ks q) := fun m ks q hq h => by
      rw [mkItems_c] at h
      rw [rdItems_ext IN (fun k p hp h => rd_ext hn f k p hp h) ks q hq h]
    obtain ⟨r, hr⟩ : ∃ r, ruleD D (rule : Int) = r := ⟨_, rfl⟩
    by_cases k1 : r.kind = 1
    · cases h : intAt r (B.take n) p with
      | none => rw [rd_1n hr k1 h] at hc; exact absurd rfl hc
      | some m => rw [rd_1s hr k1 h, rd_1s hr k1 (intAt_ext hn hp h)]
    by_cases k2 : r.kind = 2
    · rw [rd_2 hr k2] at hc
      rw [rd_2 hr k2, rd_2 hr k2, constAt_ext hn _ _ hc]
    by_cases k3 : r.kind = 3
    · rw [rd_3 hr k3] at hc
      rw [rd_3 hr k3, rd_3 hr k3, bytesAt_ext hn hp hc]
    by_cases k10 : r.kind = 10
    · cases h : readTerm (B.take n) p (r.bytes.headD 0) with
      | none => rw [rd_10n hr k10 h] at hc; exact absurd rfl hc
      | some x => rw [rd_10s hr k10 h, rd_10s hr k10 (readTerm_ext hp h)]
    by_cases k6 : r.kind = 6
    · rw [rd_6 hr k6] at hc
      rw [rd_6 hr k6, rd_6 hr k6, IT _ _ _ hp hc]
    by_cases k7 : r.kind = 7
    · cases h : intAt (ruleD D (kid0 r)) (B.take n) p with
      | none => rw [rd_7n hr k7 h] at hc; exact absurd rfl hc
      | some m =>
        have h' := intAt_ext hn hp h
        have hin := (intAt_in h (by omega)).1
        cases ht : tagIx r.tags m with
        | none => rw [rd_7t hr k7 h ht, rd_7t hr k7 h' ht]
        | some k =>
          rw [rd_7s hr k7 h ht] at hc
          rw [rd_7s hr k7 h ht, rd_7s hr k7 h' ht, IT _ _ _ (by omega) hc]
    by_cases k8 : r.kind = 8
    · cases h : (B.take n)[p]? with
      | none => rw [rd_8n hr k8 h] at hc; exact absurd rfl hc
      | some c =>
        have hpn : p < n := by have := get_lt h; omega
        have h' : B[p]? = some c := by rw [← get_ext hpn]; exact h
        by_cases h1 : 1 < c.toNat
        · rw [rd_8f hr k8 h h1, rd_8f hr k8 h' h1]
        · rw [rd_8s hr k8 h h1] at hc
          rw [rd_8s hr k8 h h1, rd_8s hr k8 h' h1, IT _ _ _ (by omega) hc]
    by_cases k9 : r.kind = 9
    · have hit := IT 0 [(kid0 r).toNat] p hp
      have hin : (mkItems 0 (rdItems (rd D (B.take n) f) [(kid0 r).toNat] p)).2.1 ≤ n := by
        rw [mkItems_2, rdItems_one2]
        exact IN _ _ hp
      cases hx : mkItems 0 (rdItems (rd D (B.take n) f) [(kid0 r).toNat] p) with
      | mk v y =>
        obtain ⟨q, c⟩ := y
        rw [hx] at hit hin
        simp only at hit hin
        by_cases h0 : c = 0
        · subst h0
          have hX := hit (by decide)
          cases hq : (B.take n)[q]? with
          | none => rw [rd_9n hr k9 hx hq] at hc; exact absurd rfl hc
          | some s =>
            have hqn : q < n := by have := get_lt hq; omega
            have hq' : B[q]? = some s := by rw [← get_ext hqn]; exact hq
            have hs : ((B.take n).drop p).take (q - p) = (B.drop p).take (q - p) := sub_ext (by omega)
            by_cases h5 : s.toNat = sumB (((B.take n).drop p).take (q - p))
            · rw [rd_9s hr k9 hx hq h5, rd_9s hr k9 hX hq' (by rw [← hs]; exact h5)]
            · rw [rd_9f hr k9 hx hq h5, rd_9f hr k9 hX hq' (by rw [← hs]; exact h5)]
        · rw [rd_9e hr k9 hx h0] at hc ⊢
          rw [rd_9e hr k9 (hit hc) h0]
    have hne : ¬ (r.kind = 1 ∨ r.kind = 2 ∨ r.kind = 3 ∨ r.kind = 10 ∨ r.kind = 6 ∨ r.kind = 7 ∨ r.kind = 8 ∨ r.kind = 9) := by omega
    rw [rd_else hr hne] at hc
    rw [rd_else hr hne, rd_else hr hne]
    cases h : intAt (ruleD D (kid0 r)) (B.take n) p with
    | none => rw [h] at hc; exact absurd rfl hc
    | some m =>
      have h' := intAt_ext hn hp h
      have hin := (intAt_in h (by omega)).1
      rw [h] at hc
      rw [h']
      simp only at hc ⊢
      by_cases k4 : r.kind = 4
      · simp only [if_pos k4] at hc ⊢
        exact bytesAt_ext hn (by omega) hc
      · simp only [if_neg k4] at hc ⊢
        by_cases h40 : 40 < m
        · simp only [if_pos h40]
        · simp only [if_neg h40] at hc ⊢
          exact IT _ _ _ (by omega) hc
end
end Go.Proofs.YtnndpimlfibncaaGreatDoor
namespace Go.Proofs.YtnndpimlfibncaaGreatDoor.Eng
open Go.RowKit

theorem beNat_beB : ∀ (s n : Nat), n < 256 ^ s → beNat (beB s n) = n
  | 0, n, h => by
    have : n = 0 := by simpa using h
    subst this
    rfl
  | s + 1, n, h => by
    rw [beB, beNat_snoc, beNat_beB s (n / 256) (by rw [Nat.pow_succ] at h; omega)]
    rw [UInt8.toNat_ofNat']
    omega
theorem pow_fitL {r : RuleD} {n : Nat} (hn : (n : Int) ≤ 2 ^ (8 * r.size.toNat) - 1) : n < 256 ^ r.size.toNat := by
  have h : ((2 : Int) ^ (8 * r.size.toNat)) = ((256 ^ r.size.toNat : Nat) : Int) := by rw [Int.pow_mul]; simp
  rw [h] at hn
  omega
theorem readInt_intB {r : RuleD} (hs : 1 ≤ r.size ∧ r.size ≤ 4) {n : Nat} (hn : n < 256 ^ r.size.toNat) : readInt (intB r n) r.little = n := by
  unfold readInt
  rw [intB_len, if_neg (by omega)]
  unfold intB
  split
  · rw [List.reverse_reverse, beNat_beB _ _ hn]
  · exact beNat_beB _ _ hn
section
variable {b x y : List UInt8} {p : Nat}
theorem at_len (h : b.drop p = x ++ y) (hx : x ≠ [] ∨ p ≤ b.length) : b.length = p + x.length + y.length := by
  have := congrArg List.length h
  rw [List.length_drop, List.length_append] at this
  rcases hx with hx | hx
  · have := List.length_pos_iff.2 hx
    omega
  · omega
theorem at_take (h : b.drop p = x ++ y) : (b.drop p).take x.length = x := by rw [h, List.take_left']; rfl
theorem at_drop (h : b.drop p = x ++ y) : b.drop (p + x.length) = y := by
  rw [← List.drop_drop, h, List.drop_left']
  rfl
theorem intAt_pr {r : RuleD} (hs : 1 ≤ r.size ∧ r.size ≤ 4) {n : Nat} (hn : n < 256 ^ r.size.toNat) (hp : p ≤ b.length) (h : b.drop p = intB r n ++ y) : intAt r b p = some n := by
  have hl := at_len h (.inr hp)
  have ht := at_take h
  rw [intB_len] at hl ht
  unfold intAt
  rw [if_neg (by omega), ht, readInt_intB hs hn]
theorem constAt_pr : ∀ (cs : List UInt8) (i : Nat), b.drop (p + i) = cs ++ y → constAt b p i cs = (p + i + cs.length, 0)
  | [], i, _ => rfl
  | c :: cs, i, h => by
    have hl := at_len h (.inl (by simp))
    rw [List.length_cons] at hl
    have hlt : p + i < b.length := by omega
    have h2 := List.drop_eq_getElem_cons hlt
    rw [h] at h2
    injection h2 with h3 h4
    rw [constAt_step hlt h3.symm]
    rw [constAt_pr cs (i + 1) (by rw [← Nat.add_assoc, ← h4]; rfl), List.length_cons]
    congr 1
    omega
theorem term_pr {t : UInt8} (ht : t ≠ 92) : ∀ l : List UInt8, term t (escB t l ++ y) = some (l, (escB t l).length)
  | [] => by
    show term t (t :: y) = _
    rw [term_cons, if_pos rfl]
    rfl
  | c :: l => by
    have ih := term_pr ht l
    rw [escB]
    by_cases hc : c = t ∨ c = 92
    · rw [if_pos hc]
      rw [List.cons_append, term_cons, if_neg (fun e => ht e.symm), if_pos rfl]
      simp only [List.cons_append]
      rw [ih]
      rfl
    · rw [if_neg hc]
      rw [List.cons_append, term_cons, if_neg (fun e => hc (.inl e)), if_neg (fun e => hc (.inr e)), ih]
      rfl
theorem bytesAt_pr (hp : p ≤ b.length) (h : b.drop p = x ++ y) : bytesAt b p x.length = (.mk 0 x [], p + x.length, 0) := by
  have hl := at_len h (.inr hp)
  rw [bytesAt_yes (by omega), at_take h]
end
section
variable {D : List RuleD}
theorem term_ne {D : List RuleD} (h : descP D) {n : Nat} {r : RuleD} (hr : D[n]? = some r) (h2 : r.kind = 10) : r.bytes.headD 0 ≠ 92 := by
  have hn : n < D.length := (List.getElem?_eq_some_iff.1 hr).1
  have hrn : ruleAt D n = some r := by simp [ruleAt, hr]
  have hp : ruleP D n r := by
    refine Classical.byContradiction fun hq => ?_
    have := h.2 n hn
    rw [vRule_no hrn hq] at this
    exact Bool.noConfusion this
  obtain ⟨_, _, _, hk⟩ := hp
  rw [kl_10 h2] at hk
  simp only [Bool.and_eq_true, decide_eq_true_eq] at hk
  exact hk.2
theorem own_tag (hV : descP D) {i : Nat} {r : RuleD} (hr : D[i]? = some r) (G : GoodR D i r) (h7 : r.kind = 7) {n : Int} {lb lv : Nat} (h : ownV D r n lb lv = true) : (0 ≤ n ∧ n ≤ limD D (kid0 r)) ∧ ∃ t, tagIx r.tags n = some t ∧ t + 1 < r.kids.length := by
  rw [ownV_7 h7, decide_eq_true_eq] at h
  obtain ⟨a1, a2, a3⟩ := h
  cases ht : tagIx r.tags n with
  | none => rw [itemK_7n h7 ht] at a3; omega
  | some t =>
    have hlt := tagIx_lt ht
    have e : r.tags[t] = n := by
      unfold tagIx at ht
      rw [List.findIdx?_eq_some_iff_getElem] at ht
      obtain ⟨_, h2, _⟩ := ht
      simpa using h2
    have hn : i < D.length := (List.getElem?_eq_some_iff.1 hr).1
    have hrn : ruleAt D i = some r := by simp [ruleAt, hr]
    have hp : ruleP D i r := by
      refine Classical.byContradiction fun hq => ?_
      have := hV.2 i hn
      rw [vRule_no hrn hq] at this
      exact Bool.noConfusion this
    obtain ⟨_, _, hkid, hk⟩ := hp
    rw [kl_7 h7] at hk
    simp only [Bool.and_eq_true] at hk
    obtain ⟨h1, h2, h3⟩ := tagsP_of hk.2
    have := (h3 t hlt).1
    rw [e] at this
    exact ⟨this, t, rfl, by omega⟩
theorem nil_of_len {α : Type} {l : List α} (h : l.length = 0) : l = [] := List.eq_nil_of_length_eq_zero h
mutual
theorem rd_pr (hV : descP D) {b : List UInt8} : ∀ (v : V) (i f p : Nat) (y : List UInt8), i < D.length → i < f → validV D i v = true → p ≤ b.length → b.drop p = prV D i v ++ y → rd D b f i p = (v, p + (prV D i v).length, 0)
  | .mk n bs vs, i, f, p, y, hi, hf, hv, hp, hb => by
    obtain ⟨f, rfl⟩ : ∃ g, f = g + 1 := ⟨f - 1, by omega⟩
    obtain ⟨r, hr⟩ : ∃ r, D[i]? = some r := ⟨_, List.getElem?_eq_getElem hi⟩
    have G : GoodR D i r := good_of hV hr
    have hrD := ruleD_get hr
    obtain ⟨kd1, kd2⟩ := G.kd
    rw [validV, hrD, Bool.and_eq_true] at hv
    obtain ⟨hO, hs⟩ := hv
    have hpr : prV D i (.mk n bs vs) = headB D r n bs vs.length ++ (prVs D r n 0 vs ++ tailB r (prVs D r n 0 vs)) := by rw [prV, hrD]
    rw [hpr] at hb ⊢
    have hkid : ∀ k, k < vs.length → ∃ j : Nat, itemK r n k = j ∧ j < i := fun k hk => by
      obtain ⟨j, h1, h2⟩ := own_kid G hi hO hk
      refine ⟨j, h1, ?_⟩
      have hall : ∀ x, x ∈ r.kids → x < i := fun x hx => by
        obtain ⟨t, ht, rfl⟩ := List.getElem_of_mem hx
        exact (G.kid t ht).2
      have hj : (j : Int) ∈ r.kids ∨ (j : Int) = -1 ∨ r.kids.length = 0 := by
        rw [← h1]
        unfold itemK
        split
        · by_cases h : 1 < r.kids.length
          · exact .inl (List.mem_of_getElem? (kids1 h))
          · have := (G.k5 ‹_›).1; omega
        split
        · by_cases h : k < r.kids.length
          · left; rw [List.getD_eq_getElem?_getD, List.getElem?_eq_getElem h]; exact List.getElem_mem h
          · right; left; rw [List.getD_eq_getElem?_getD, List.getElem?_eq_none (by omega)]; rfl
        split
        · split
          · rename_i t _
            by_cases h : t + 1 < r.kids.length
            · left; rw [List.getD_eq_getElem?_getD, List.getElem?_eq_getElem h]; exact List.getElem_mem h
            · right; left; rw [List.getD_eq_getElem?_getD, List.getElem?_eq_none (by omega)]; rfl
          · right; left; rfl
        split
        · by_cases h : 0 < r.kids.length
          · exact .inl (List.mem_of_getElem? (kids0 h))
          · right; right; omega
        · right; left; rfl
      rcases hj with hj | hj | hj
      · have := hall _ hj; omega
      · omega
      · exfalso
        unfold itemK at h1
        by_cases e : r.kind = 8 ∨ r.kind = 9
        · rcases e with e | e
          · have := G.k8 e; omega
          · have := G.k9 e; omega
        · by_cases e5 : r.kind = 5
          · have := (G.k5 e5).1; omega
          by_cases e6 : r.kind = 6
          · rw [ownV_6 e6, decide_eq_true_eq] at hO; omega
          by_cases e7 : r.kind = 7
          · have := (G.k7 e7).1; omega
          · rw [if_neg e5, if_neg e6, if_neg e7, if_neg e] at h1; omega
    have IT : ∀ (q : Nat) (ks : List Nat) (z : List UInt8), q ≤ b.length → ks.length = vs.length → (∀ j (h : j < ks.length), itemK r n (j : Nat) = ks[j]) → b.drop q = prVs D r n 0 vs ++ z → rdItems (rd D b f) ks q = (vs, q + (prVs D r n 0 vs).length, 0) := fun q ks z h1 h2 h3 h4 =>
      rd_prs hV vs ks 0 r n f q z h2 (fun j h => by rw [Nat.zero_add]; exact h3 j h) (fun j h => by
        obtain ⟨x, e1, e2⟩ := hkid j (by omega)
        have := h3 j h
        omega) hs h1 h4
    by_cases k1 : r.kind = 1
    · rw [ownV_1 k1, decide_eq_true_eq] at hO
      obtain ⟨h1, h2, h3, h4⟩ := hO
      obtain rfl := nil_of_len h3
      obtain rfl := nil_of_len h4
      obtain ⟨m, rfl⟩ := Int.eq_ofNat_of_zero_le h1
      have e : headB D r (m : Int) [] ([] : List V).length ++ (prVs D r (m : Int) 0 [] ++ tailB r (prVs D r (m : Int) 0 [])) = intB r m := by
        rw [headB, if_pos k1, prVs, tailB, if_neg (by omega)]
        simp
      rw [e] at hb ⊢
      rw [rd_1s hrD k1 (intAt_pr (G.k1 k1) (pow_fitL h2) hp hb), intB_len]
    by_cases k2 : r.kind = 2
    · rw [ownV_2 k2, decide_eq_true_eq] at hO
      obtain ⟨rfl, h3, h4⟩ := hO
      obtain rfl := nil_of_len h3
      obtain rfl := nil_of_len h4
      have e : headB D r 0 [] ([] : List V).length ++ (prVs D r 0 0 [] ++ tailB r (prVs D r 0 0 [])) = r.bytes := by
        rw [headB, if_neg k1, if_pos k2, prVs, tailB, if_neg (by omega)]
        simp
      rw [e] at hb ⊢
      rw [rd_2 hrD k2, constAt_pr r.bytes 0 hb]
      rfl
    by_cases k3 : r.kind = 3
    · rw [ownV_3 k3, decide_eq_true_eq] at hO
      obtain ⟨rfl, h3, h4⟩ := hO
      obtain rfl := nil_of_len h4
      have e : headB D r 0 bs ([] : List V).length ++ (prVs D r 0 0 [] ++ tailB r (prVs D r 0 0 [])) = bs := by
        rw [headB, if_neg k1, if_neg k2, if_pos k3, prVs, tailB, if_neg (by omega)]
        simp
      rw [e] at hb ⊢
      rw [rd_3 hrD k3, show r.size.toNat = bs.length by omega, bytesAt_pr hp hb]
    by_cases k10 : r.kind = 10
    · rw [ownV_10 k10, decide_eq_true_eq] at hO
      obtain ⟨rfl, h3, h4⟩ := hO
      obtain rfl := nil_of_len h4
      have e : headB D r 0 bs ([] : List V).length ++ (prVs D r 0 0 [] ++ tailB r (prVs D r 0 0 [])) = escB (r.bytes.headD 0) bs := by
        rw [headB, if_neg k1, if_neg k2, if_neg k3, if_neg (by omega), if_neg (by omega), if_neg (by omega), if_neg (by omega), if_pos k10, prVs, tailB, if_neg (by omega)]
        simp
      rw [e] at hb ⊢
      have ht : readTerm b p (r.bytes.headD 0) = some (bs, p + (escB (r.bytes.headD 0) bs).length) := by
        unfold readTerm
        rw [hb, term_pr (term_ne hV hr k10)]
        rfl
      rw [rd_10s hrD k10 ht]
    by_cases k6 : r.kind = 6
    · rw [ownV_6 k6, decide_eq_true_eq] at hO
      obtain ⟨rfl, h3, h4⟩ := hO
      obtain rfl := nil_of_len h3
      have e : headB D r 0 [] vs.length ++ (prVs D r 0 0 vs ++ tailB r (prVs D r 0 0 vs)) = prVs D r 0 0 vs := by
        rw [headB, if_neg k1, if_neg k2, if_neg k3, if_neg (by omega), if_neg (by omega), if_neg (by omega), if_neg (by omega), if_neg k10, tailB, if_neg (by omega)]
        simp
      rw [e] at hb ⊢
      rw [rd_6 hrD k6, IT p _ _ hp (by simp; omega) (fun j h => by
        have hj : j < r.kids.length := by simpa using h
        rw [itemK_6 k6 hj, List.getElem_map]
        have := (G.kid j hj).1
        omega) hb]
      rfl
    by_cases k7 : r.kind = 7
    · obtain ⟨hn, t, ht, htl⟩ := own_tag hV hr G k7 hO
      obtain ⟨j, q, ej, hj, hq, hqr, hlim⟩ := head_kid G (.inr (.inr k7))
      obtain ⟨m, rfl⟩ := Int.eq_ofNat_of_zero_le hn.1
      rw [hlim] at hn
      rw [ownV_7 k7, decide_eq_true_eq] at hO
      obtain ⟨h3, h4, _⟩ := hO
      obtain rfl := nil_of_len h3
      have e : headB D r (m : Int) [] vs.length ++ (prVs D r (m : Int) 0 vs ++ tailB r (prVs D r (m : Int) 0 vs)) = intB q m ++ prVs D r (m : Int) 0 vs := by
        rw [headB, if_neg k1, if_neg k2, if_neg k3, if_neg (by omega), if_neg (by omega), if_pos k7, tailB, if_neg (by omega), hqr]
        simp
      rw [e] at hb ⊢
      rw [List.append_assoc] at hb
      have hl := at_len hb (.inr hp)
      have hd := at_drop hb
      rw [intB_len] at hl hd
      have hat := intAt_pr hq (pow_fitL hn.2) hp hb
      rw [← hqr] at hat
      rw [rd_7s hrD k7 hat ht, hqr, IT (p + q.size.toNat) _ _ (by omega) (by simp; omega) (fun j h => by
        obtain rfl : j = 0 := by simp at h; omega
        rw [itemK_7 k7 ht htl, List.getElem_singleton, List.getD_eq_getElem?_getD, List.getElem?_eq_getElem htl]
        have := (G.kid _ htl).1
        simp only [Option.getD_some]
        omega) hd, List.length_append, intB_len, ← Nat.add_assoc]
      rfl
    by_cases k8 : r.kind = 8
    · rw [ownV_8 k8, decide_eq_true_eq] at hO
      obtain ⟨rfl, h3, h4⟩ := hO
      obtain rfl := nil_of_len h3
      have e : headB D r 0 [] vs.length ++ (prVs D r 0 0 vs ++ tailB r (prVs D r 0 0 vs)) = [UInt8.ofNat vs.length] ++ prVs D r 0 0 vs := by
        rw [headB, if_neg k1, if_neg k2, if_neg k3, if_neg (by omega), if_neg (by omega), if_neg (by omega), if_pos k8, tailB, if_neg (by omega)]
        simp
      rw [e] at hb ⊢
      rw [List.append_assoc] at hb
      have hl := at_len hb (.inr hp)
      have hd := at_drop hb
      simp only [List.length_singleton] at hl hd
      have hb0 : b[p]? = some (UInt8.ofNat vs.length) := by
        have h2 := List.drop_eq_getElem_cons (show p < b.length by omega)
        rw [hb] at h2
        injection h2 with h3 h4
        rw [List.getElem?_eq_getElem (by omega), ← h3]
      have hc : (UInt8.ofNat vs.length).toNat = vs.length := by rw [UInt8.toNat_ofNat']; omega
      have hk0 := kids0 (r := r) (by have := G.k8 k8; omega)
      rw [rd_8s hrD k8 hb0 (by omega), hc, IT (p + 1) _ _ (by omega) (by simp) (fun j h => by
        rw [itemK_8 (.inl k8), List.getElem_replicate]
        have hl0 : 0 < r.kids.length := by have := G.k8 k8; omega
        rw [List.getElem?_eq_getElem hl0] at hk0
        have := (G.kid 0 hl0).1
        rw [Option.some.inj hk0] at this
        omega) hd, List.length_append, List.length_singleton, ← Nat.add_assoc]
      rfl
    by_cases k9 : r.kind = 9
    · rw [ownV_9 k9, decide_eq_true_eq] at hO
      obtain ⟨rfl, h3, h4⟩ := hO
      obtain rfl := nil_of_len h3
      have e : headB D r 0 [] vs.length ++ (prVs D r 0 0 vs ++ tailB r (prVs D r 0 0 vs)) = prVs D r 0 0 vs ++ [UInt8.ofNat (sumB (prVs D r 0 0 vs))] := by
        rw [headB, if_neg k1, if_neg k2, if_neg k3, if_neg (by omega), if_neg (by omega), if_neg (by omega), if_neg (by omega), if_neg k10, tailB, if_pos k9]
        simp
      rw [e] at hb ⊢
      rw [List.append_assoc] at hb
      have hl := at_len hb (.inr hp)
      have hd := at_drop hb
      have ht := at_take hb
      have hk0 := kids0 (r := r) (by have := G.k9 k9; omega)
      have hit := IT p [(kid0 r).toNat] _ hp (by simp; omega) (fun j h => by
        obtain rfl : j = 0 := by simp at h; omega
        rw [itemK_8 (.inr k9), List.getElem_singleton]
        have hl0 : 0 < r.kids.length := by have := G.k9 k9; omega
        rw [List.getElem?_eq_getElem hl0] at hk0
        have := (G.kid 0 hl0).1
        rw [Option.some.inj hk0] at this
        omega) hb
      have hm : mkItems 0 (rdItems (rd D b f) [(kid0 r).toNat] p) = (.mk 0 [] vs, p + (prVs D r 0 0 vs).length, 0) := by rw [hit]; rfl
      simp only [List.length_append, List.length_singleton] at hl
      have hq : b[p + (prVs D r 0 0 vs).length]? = some (UInt8.ofNat (sumB (prVs D r 0 0 vs))) := by
        have h2 := List.drop_eq_getElem_cons (show p + (prVs D r 0 0 vs).length < b.length by omega)
        rw [hd] at h2
        injection h2 with h3 h4
        rw [List.getElem?_eq_getElem (by omega), ← h3]
      have hsum : (UInt8.ofNat (sumB (prVs D r 0 0 vs))).toNat = sumB ((b.drop p).take (p + (prVs D r 0 0 vs).length - p)) := by
        rw [Nat.add_sub_cancel_left, ht, UInt8.toNat_ofNat']
        have : sumB (prVs D r 0 0 vs) < 256 := by rw [sumB_eq]; omega
        omega
      rw [rd_9s hrD k9 hm hq hsum, List.length_append, List.length_singleton, ← Nat.add_assoc]
    by_cases k4 : r.kind = 4
    · obtain ⟨j, q, ej, hj, hq, hqr, hlim⟩ := head_kid G (.inl k4)
      rw [ownV_4 k4, decide_eq_true_eq, hlim] at hO
      obtain ⟨rfl, h2, h3, h4⟩ := hO
      obtain rfl := nil_of_len h4
      have e : headB D r 0 bs ([] : List V).length ++ (prVs D r 0 0 [] ++ tailB r (prVs D r 0 0 [])) = intB q bs.length ++ bs := by
        rw [headB, if_neg k1, if_neg k2, if_neg k3, if_pos k4, prVs, tailB, if_neg (by omega), hqr]
        simp
      rw [e] at hb ⊢
      rw [List.append_assoc] at hb
      have hl := at_len hb (.inr hp)
      have hd := at_drop hb
      rw [intB_len] at hl hd
      have hat := intAt_pr hq (pow_fitL h3) hp hb
      rw [← hqr] at hat
      rw [rd_4s hrD k4 hat, hqr, bytesAt_pr (by omega) hd, List.length_append, intB_len, ← Nat.add_assoc]
    have k5 : r.kind = 5 := by omega
    obtain ⟨j, q, ej, hj, hq, hqr, hlim⟩ := head_kid G (.inr (.inl k5))
    rw [ownV_5 k5, decide_eq_true_eq, hlim] at hO
    obtain ⟨rfl, h2, h3, h4⟩ := hO
    obtain rfl := nil_of_len h2
    have e : headB D r 0 [] vs.length ++ (prVs D r 0 0 vs ++ tailB r (prVs D r 0 0 vs)) = intB q vs.length ++ prVs D r 0 0 vs := by
      rw [headB, if_neg k1, if_neg k2, if_neg k3, if_neg k4, if_pos k5, tailB, if_neg (by omega), hqr]
      simp
    rw [e] at hb ⊢
    rw [List.append_assoc] at hb
    have hl := at_len hb (.inr hp)
    have hd := at_drop hb
    rw [intB_len] at hl hd
    have hat := intAt_pr hq (pow_fitL h4) hp hb
    rw [← hqr] at hat
    have hk1 := kids1 (r := r) (by have := (G.k5 k5).1; omega)
    rw [rd_5s hrD k5 hat (by omega), hqr, IT (p + q.size.toNat) _ _ (by omega) (by simp) (fun j h => by
      rw [itemK_5 k5, List.getElem_replicate]
      have hl1 : 1 < r.kids.length := by have := (G.k5 k5).1; omega
      rw [List.getElem?_eq_getElem hl1] at hk1
      have := (G.kid 1 hl1).1
      rw [Option.some.inj hk1] at this
      omega) hd, List.length_append, intB_len, ← Nat.add_assoc]
    rfl
theorem rd_prs (hV : descP D) {b : List UInt8} : ∀ (vs : List V) (ks : List Nat) (k : Nat) (r : RuleD) (n : Int) (f q : Nat) (z : List UInt8), ks.length = vs.length → (∀ j (h : j < ks.length), itemK r n (k + j : Nat) = ks[j]) → (∀ j (h : j < ks.length), ks[j] < f ∧ ks[j] < D.length) → validVs D r n k vs = true → q ≤ b.length → b.drop q = prVs D r n k vs ++ z → rdItems (rd D b f) ks q = (vs, q + (prVs D r n k vs).length, 0)
  | [], ks, k, r, n, f, q, z, h1, _, _, _, _, _ => by
    obtain rfl := nil_of_len (l := ks) (by simpa using h1)
    rfl
  | v :: vs, ks, k, r, n, f, q, z, h1, h2, h3, h4, h5, h6 => by
    cases ks with
    | nil => simp at h1
    | cons x ks =>
      have e0 := h2 0 (by simp)
      rw [Nat.add_zero, List.getElem_cons_zero] at e0
      obtain ⟨e1, e2⟩ := h3 0 (by simp)
      rw [List.getElem_cons_zero] at e1 e2
      rw [validVs, Bool.and_eq_true, e0] at h4
      rw [prVs, e0] at h6 ⊢
      rw [List.append_assoc] at h6
      have hl := at_len h6 (.inr h5)
      have hd := at_drop h6
      have hv := rd_pr hV v x f q _ e2 e1 h4.1 h5 h6
      have hrest := rd_prs hV vs ks (k + 1) r n f (q + (prV D x v).length) z (by simpa using h1) (fun j h => by
        have := h2 (j + 1) (by simpa using h)
        rw [List.getElem_cons_succ] at this
        rw [show k + 1 + j = k + (j + 1) by omega]
        exact this) (fun j h => by
        have := h3 (j + 1) (by simpa using h)
        rwa [List.getElem_cons_succ] at this) h4.2 (by omega) hd
      rw [rdItems, hv]
      simp only [if_true]
      rw [hrest]
      simp only [if_true, List.length_append, Nat.add_assoc]
end
end
end Go.Proofs.YtnndpimlfibncaaGreatDoor.Eng
