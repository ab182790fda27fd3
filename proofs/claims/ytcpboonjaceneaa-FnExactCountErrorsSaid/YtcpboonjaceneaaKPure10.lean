/-
  Plain functions: how the reference counts what is applied.
-/
import Derived.Test.YtcpboonjaceneaaKP
set_option linter.unusedSimpArgs false
set_option linter.unusedVariables false
namespace Go.Proofs.Ytcpboonjaceneaa
open Go.RowKit

/-- Counting items, from a count on: how many, where it ends, whether all were there. -/
def lcItems (g : Nat → Nat → Nat × Nat × Bool) : List Nat → Nat → Nat → Nat × Nat × Bool
  | [], p, n => (n, p, true)
  | k :: ks, p, n => if (g k p).2.2 = true then lcItems g ks (g k p).2.1 (n + (g k p).1) else (n + (g k p).1, (g k p).2.1, false)
/-- The items behind a number. -/
def lcKids (r : RuleD) (m : Nat) : List Nat :=
  if r.kind = 5 then (if 40 < m then [] else List.replicate m (kid1 r).toNat)
  else if r.kind = 7 then (match tagIx r.tags m with | some k => [(r.kids.getD (k + 1) 0).toNat] | none => [])
  else []
/-- The items of rules without a number. -/
def lcKids0 (r : RuleD) (b : List UInt8) (p : Nat) : List Nat :=
  if r.kind = 6 then r.kids.map Int.toNat else if r.kind = 9 then [(kid0 r).toNat] else if r.kind = 8 ∧ b[p]? = some 1 then [(kid0 r).toNat] else []
def lcFin (z : Nat × Nat) (x : Nat × Nat × Bool) : Nat × Nat × Bool := if x.2.2 = true then (x.1, z.1, z.2 == 0) else x
def lc (D : List RuleD) (b : List UInt8) : Nat → Nat → Nat → Nat × Nat × Bool
  | 0, _, p => (0, p, false)
  | f + 1, rule, p =>
    let r := ruleD D rule
    if r.kind = 4 ∨ r.kind = 5 ∨ r.kind = 7 then
      match intAt (ruleD D (kid0 r)) b p with
      | none => (2, p, false)
      | some m => lcFin (rd D b (f + 1) rule p).2 (lcItems (lc D b f) (lcKids r m) (p + (ruleD D (kid0 r)).size.toNat) 2)
    else lcFin (rd D b (f + 1) rule p).2 (lcItems (lc D b f) (lcKids0 r b p) (if r.kind = 8 then p + 1 else p) 1)

section
variable {b : List UInt8} {f : Nat → Nat → V × Nat × Nat} {c : Nat → Nat → Nat} {g : Nat → Nat → Nat × Nat × Bool}
theorem rdItems_code (k : Nat) (ks : List Nat) (p : Nat) : (rdItems f (k :: ks) p).2.2 = 0 ↔ (f k p).2.2 = 0 ∧ (rdItems f ks (f k p).2.1).2.2 = 0 := by
  rw [rdItems]
  generalize f k p = x
  obtain ⟨v, q, e⟩ := x
  simp only
  generalize rdItems f ks q = y
  obtain ⟨vs, q2, e2⟩ := y
  by_cases he : e = 0
  · rw [if_pos he]
    simp only
    by_cases he2 : e2 = 0 <;> simp [he, he2]
  · rw [if_neg he]; simp [he]
theorem lcItems_spec (hin : ∀ k p, p ≤ b.length → (f k p).2.1 ≤ b.length) (IH : ∀ k p, p ≤ b.length → (g k p).1 = c k p ∧ ((g k p).2.2 = true ↔ (f k p).2.2 = 0) ∧ ((g k p).2.2 = true → (g k p).2.1 = (f k p).2.1)) :
    ∀ (ks : List Nat) (p n : Nat), p ≤ b.length → (lcItems g ks p n).1 = n + cntItems f c ks p ∧ ((lcItems g ks p n).2.2 = true ↔ (rdItems f ks p).2.2 = 0)
  | [], p, n, hp => by simp [lcItems, cntItems, rdItems]
  | k :: ks, p, n, hp => by
    obtain ⟨h1, h2, h3⟩ := IH k p hp
    rw [lcItems, cntItems, rdItems_code]
    by_cases hg : (g k p).2.2 = true
    · have h4 := h2.1 hg
      obtain ⟨i1, i2⟩ := lcItems_spec hin IH ks (g k p).2.1 (n + (g k p).1) (by rw [h3 hg]; exact hin k p hp)
      rw [if_pos hg, if_pos h4, i1, i2, h1, h3 hg]
      exact ⟨by omega, by simp [h4]⟩
    · have h4 : ¬ (f k p).2.2 = 0 := fun e => hg (h2.2 e)
      rw [if_neg hg, if_neg h4, h1]
      exact ⟨rfl, by simp [h4]⟩
end

section
variable {D : List RuleD} {b : List UInt8} {f n p : Nat} {r : RuleD}
theorem lc_int (hr : ruleD D n = r) (hk : r.kind = 4 ∨ r.kind = 5 ∨ r.kind = 7) {m : Nat} (h : intAt (ruleD D (kid0 r)) b p = some m) :
    lc D b (f + 1) n p = lcFin (rd D b (f + 1) n p).2 (lcItems (lc D b f) (lcKids r m) (p + (ruleD D (kid0 r)).size.toNat) 2) := by
  rw [lc]; (try dsimp only); rw [hr, if_pos hk, h]
theorem lc_none (hr : ruleD D n = r) (hk : r.kind = 4 ∨ r.kind = 5 ∨ r.kind = 7) (h : intAt (ruleD D (kid0 r)) b p = none) : lc D b (f + 1) n p = (2, p, false) := by
  rw [lc]; (try dsimp only); rw [hr, if_pos hk, h]
theorem lc_else (hr : ruleD D n = r) (hk : ¬ (r.kind = 4 ∨ r.kind = 5 ∨ r.kind = 7)) :
    lc D b (f + 1) n p = lcFin (rd D b (f + 1) n p).2 (lcItems (lc D b f) (lcKids0 r b p) (if r.kind = 8 then p + 1 else p) 1) := by
  rw [lc]; (try dsimp only); rw [hr, if_neg hk]
theorem mkItems_code (m : Int) (x : List V × Nat × Nat) : (mkItems m x).2.2 = x.2.2 := by
  unfold mkItems
  split
  · rename_i h; exact h.symm
  · rfl

/-- What it says of a rule. -/
def LcSpec (D : List RuleD) (b : List UInt8) (f n p : Nat) : Prop := (lc D b f n p).1 = cnt D b f n p ∧ ((lc D b f n p).2.2 = true ↔ (rd D b f n p).2.2 = 0) ∧ ((lc D b f n p).2.2 = true → (lc D b f n p).2.1 = (rd D b f n p).2.1)
theorem lcFin_spec {z : Nat × Nat} {x : Nat × Nat × Bool} (h : x.2.2 = false → z.2 ≠ 0) : (lcFin z x).1 = x.1 ∧ ((lcFin z x).2.2 = true ↔ z.2 = 0) ∧ ((lcFin z x).2.2 = true → (lcFin z x).2.1 = z.1) := by
  unfold lcFin
  split
  · simp
  · rename_i hx
    have hx : x.2.2 = false := by simpa using hx
    simp [hx, h hx]
theorem kid1L {f : Nat → Nat → V × Nat × Nat} {k q : Nat} : rdItems f [k] q = rdItems f [k] q := rfl
theorem u8one {c : UInt8} (h : c.toNat = 1) : c = 1 := UInt8.toNat_inj.1 (by simpa using h)
theorem lc_spec : ∀ (f n p : Nat), p ≤ b.length → LcSpec D b f n p
  | 0, n, p, hp => by
    refine ⟨rfl, ?_, ?_⟩
    · rw [lc, rd]; simp
    · rw [lc]; simp
  | f + 1, n, p, hp => by
    have IH : ∀ k p, p ≤ b.length → (lc D b f k p).1 = cnt D b f k p ∧ ((lc D b f k p).2.2 = true ↔ (rd D b f k p).2.2 = 0) ∧ ((lc D b f k p).2.2 = true → (lc D b f k p).2.1 = (rd D b f k p).2.1) := fun k p hp => lc_spec f k p hp
    have IT := lcItems_spec (fun k p hp => (rd_in D b f k p hp).2) IH
    -- a part whose items decide whether it fails
    have key : ∀ (ks : List Nat) (q m : Nat), q ≤ b.length → ((rdItems (rd D b f) ks q).2.2 ≠ 0 → (rd D b (f + 1) n p).2.2 ≠ 0) → lc D b (f + 1) n p = lcFin (rd D b (f + 1) n p).2 (lcItems (lc D b f) ks q m) → cnt D b (f + 1) n p = m + cntItems (rd D b f) (cnt D b f) ks q → LcSpec D b (f + 1) n p := fun ks q m hq h1 h2 h3 => by
      obtain ⟨i1, i2⟩ := IT ks q m hq
      have := lcFin_spec (z := (rd D b (f + 1) n p).2) (x := lcItems (lc D b f) ks q m) fun e => h1 fun e2 => by rw [i2.2 e2] at e; cases e
      unfold LcSpec
      rw [h2, h3, ← i1]
      exact this
    obtain ⟨r, hr⟩ : ∃ r, ruleD D n = r := ⟨_, rfl⟩
    by_cases hk : r.kind = 4 ∨ r.kind = 5 ∨ r.kind = 7
    · cases hi : intAt (ruleD D (kid0 r)) b p with
      | none =>
        have hl := lc_none (f := f) hr hk hi
        have hrd : rd D b (f + 1) n p = (V0, p, 1) := by
          rcases hk with hk | hk | hk
          · exact rd_45n hr (.inl hk) hi
          · exact rd_45n hr (.inr hk) hi
          · exact rd_7n hr hk hi
        have hc : cnt D b (f + 1) n p = 2 := by
          rcases hk with hk | hk | hk
          · exact cnt_4 hr hk
          · exact cnt_5n hr hk hi
          · exact cnt_7n hr hk hi
        unfold LcSpec
        rw [hl, hrd, hc]
        simp
      | some m =>
        have hl := lc_int (f := f) hr hk hi
        have hq : p + (ruleD D (kid0 r)).size.toNat ≤ b.length := by
          unfold intAt at hi
          split at hi
          · cases hi
          · omega
        rcases hk with hk | hk | hk
        · refine key [] _ 2 hq (fun h => absurd rfl h) ?_ (by rw [cnt_4 hr hk, cntItems])
          rw [hl]; unfold lcKids; rw [if_neg (by omega), if_neg (by omega)]
        · by_cases hm : 40 < m
          · refine key [] _ 2 hq (fun h => absurd rfl h) ?_ (by rw [cnt_5c hr hk hi hm, cntItems])
            rw [hl]; unfold lcKids; rw [if_pos hk, if_pos hm]
          · refine key (List.replicate m (kid1 r).toNat) _ 2 hq (fun h => ?_) ?_ (cnt_5s hr hk hi hm)
            · rw [rd_5s hr hk hi hm, mkItems_code]; exact h
            · rw [hl]; unfold lcKids; rw [if_pos hk, if_neg hm]
        · cases ht : tagIx r.tags m with
          | none =>
            refine key [] _ 2 hq (fun h => absurd rfl h) ?_ (by rw [cnt_7t hr hk hi ht, cntItems])
            rw [hl]; unfold lcKids; rw [if_neg (by omega), if_pos hk, ht]
          | some k =>
            refine key [(r.kids.getD (k + 1) 0).toNat] _ 2 hq (fun h => ?_) ?_ (cnt_7s hr hk hi ht)
            · rw [rd_7s hr hk hi ht, mkItems_code]; exact h
            · rw [hl]; unfold lcKids; rw [if_neg (by omega), if_pos hk, ht]
    · have hl := lc_else (b := b) (f := f) (p := p) hr hk
      by_cases h6 : r.kind = 6
      · refine key (r.kids.map Int.toNat) p 1 hp (fun h => ?_) ?_ (cnt_6 hr h6)
        · rw [rd_6 hr h6, mkItems_code]; exact h
        · rw [hl]; unfold lcKids0; rw [if_pos h6, if_neg (by omega)]
      · by_cases h9 : r.kind = 9
        · refine key [(kid0 r).toNat] p 1 hp (fun h => ?_) ?_ (cnt_9 hr h9)
          · obtain ⟨⟨v, q, e⟩, hx⟩ : ∃ x, mkItems 0 (rdItems (rd D b f) [(kid0 r).toNat] p) = x := ⟨_, rfl⟩
            have he : e ≠ 0 := by
              have := mkItems_code 0 (rdItems (rd D b f) [(kid0 r).toNat] p)
              rw [hx] at this
              simp only at this
              rw [this]; exact h
            rw [rd_9e hr h9 hx he]; exact he
          · rw [hl]; unfold lcKids0; rw [if_neg h6, if_pos h9, if_neg (by omega)]
        · by_cases h8 : r.kind = 8
          · cases hb : b[p]? with
            | none =>
              have hc := cnt_8n (f := f) hr h8 hb
              have hrd := rd_8n (f := f) hr h8 hb
              have e0 : lcKids0 r b p = [] := by unfold lcKids0; rw [if_neg h6, if_neg h9, if_neg (by rw [hb]; simp)]
              rw [e0, hrd] at hl
              unfold LcSpec
              rw [hl, hc, hrd]
              simp [lcItems, lcFin]
            | some x =>
              have hpl : p < b.length := by
                rcases Nat.lt_or_ge p b.length with h | h
                · exact h
                · rw [List.getElem?_eq_none h] at hb; cases hb
              by_cases hx : 1 < x.toNat
              · refine key [] (p + 1) 1 (by omega) (fun h => absurd rfl h) ?_ (by rw [cnt_8f hr h8 hb hx, cntItems])
                rw [hl, if_pos h8]; unfold lcKids0; rw [if_neg h6, if_neg h9, if_neg]
                rintro ⟨_, e⟩
                rw [hb] at e
                have := Option.some.inj e; subst this
                simp at hx
              · have e0 : lcKids0 r b p = List.replicate x.toNat (kid0 r).toNat := by
                  unfold lcKids0
                  rw [if_neg h6, if_neg h9]
                  by_cases h1 : x.toNat = 1
                  · have := u8one h1; subst this
                    rw [if_pos ⟨h8, hb⟩, h1]; rfl
                  · have h0 : x.toNat = 0 := by omega
                    rw [if_neg, h0]; rfl
                    rintro ⟨_, e⟩
                    rw [hb] at e
                    have := Option.some.inj e; subst this
                    simp at h0
                refine key (List.replicate x.toNat (kid0 r).toNat) (p + 1) 1 (by omega) (fun h => ?_) (by rw [hl, if_pos h8, e0]) (cnt_8s hr h8 hb hx)
                rw [rd_8s hr h8 hb hx, mkItems_code]; exact h
          · refine key [] p 1 hp (fun h => absurd rfl h) ?_ ?_
            · rw [hl, if_neg h8]; unfold lcKids0; rw [if_neg h6, if_neg h9, if_neg (by omega)]
            · rw [cnt]; dsimp only; rw [hr]
              by_cases h1 : r.kind = 1
              · rw [if_pos h1, cntItems]
              · rw [if_neg h1, if_neg h6, if_neg (by omega), if_neg h8, if_neg h9, if_neg (by omega), if_neg (by omega), cntItems]
end
end Go.Proofs.Ytcpboonjaceneaa
