/-
  Plain functions: what migrating answers is not long.

  Plain functions: the program's way between rules of one kind comes to the reference's.
-/
import Derived.Test.YtmpokibohbhoeaaKN65
import Derived.Test.YtmpokibohbhoeaaKNM
set_option linter.unusedSimpArgs false
set_option linter.unusedVariables false
set_option linter.defProp false
set_option maxRecDepth 100000
set_option maxHeartbeats 4000000
namespace Go.Proofs.Ytmpokibohbhoeaa
open Go.RowKit

section
variable {Da Dz : List RuleD}
theorem mfin_VB {b : Int} {z : V × Bool} (h : VB 1048576 z.1) : VB 1048576 (mfin Dz b z).1 := by
  unfold mfin
  split
  · exact h
  · exact VB_V0
theorem getD_VB {vs : List V} (h : VBs 1048576 vs) (i : Nat) : VB 1048576 (vs.getD i V0) := by
  by_cases hi : i < vs.length
  · rw [show vs.getD i V0 = vs[i] by simp [List.getD, hi]]
    exact h.el _ (List.getElem_mem hi)
  · rw [show vs.getD i V0 = V0 by simp [List.getD, hi]]
    exact VB_V0
theorem mk_VB {n : Int} {bs : List UInt8} {vs : List V} (h1 : bs.length ≤ 1048576) (h2 : vs.length ≤ 1048576) (h3 : VBs 1048576 vs) : VB 1048576 (.mk n bs vs) := by unfold VB; exact ⟨h1, h2, h3⟩
theorem VBs_nil {M : Nat} : VBs M [] := by unfold VBs; trivial
theorem preM_VB (hVz : descP Dz) {g : Int → Int → V → V × Bool} (H : ∀ a b v, VB 1048576 v → VB 1048576 (g a b v).1) (a b : Int) {n : Int} {bs : List UInt8} {vs : List V} (hv : VB 1048576 (.mk n bs vs)) : VB 1048576 (preM g Da Dz a b n bs vs).1 := by
  have hv' := hv
  unfold VB at hv
  obtain ⟨v1, v2, v3⟩ := hv
  have HA : ∀ (c : Nat) (h : Nat → V × Bool), c ≤ 1048576 → (∀ j, j < c → VB 1048576 (h j).1) → ∀ n : Int, VB 1048576 (.mk n [] (allM h c 0).1) := fun c h hc hh n => by
    have := allM_len (g := h) c 0
    exact mk_VB (Nat.zero_le _) (by omega) (allM_VB c 0 fun j _ hj => hh j (by omega))
  unfold preM
  split
  · rename_i hk
    generalize hq : ruleD Dz b = q at *
    generalize ruleD Da a = p at *
    by_cases h6 : p.kind = 6
    · rw [Eng.alike_6 h6]
      split
      · obtain ⟨iz, e1, hiz⟩ : ∃ iz : Nat, b = iz ∧ Dz[iz]? = some q := by
          unfold ruleD ruleAt at hq
          by_cases h0 : 0 ≤ b
          · rw [if_pos h0] at hq
            cases hz : Dz[b.toNat]? with
            | none => rw [hz] at hq; simp at hq; rw [← hq] at hk; simp at hk; omega
            | some q' => rw [hz] at hq; simp at hq; exact ⟨b.toNat, by omega, by rw [hz, hq]⟩
          · rw [if_neg h0] at hq; simp at hq; rw [← hq] at hk; simp at hk; omega
        have Gq := good_of hVz hiz
        have hil : iz < Dz.length := (List.getElem?_eq_some_iff.1 hiz).1
        have hn := (Eng.seq_names hVz hiz (by omega)).1
        have h8 := Gq.k6 (by omega)
        refine HA _ _ (by omega) (fun j hj => ?_) 0
        unfold partM
        split
        · have hjk : j < q.kids.length := by omega
          rw [show q.kids.getD j 0 = q.kids[j] by simp [List.getD, hjk]]
          have := Gq.kid j hjk
          have h := dflt_VB hVz Dz.length (q.kids[j]).toNat (by omega)
          rwa [Int.toNat_of_nonneg (by omega)] at h
        · exact H _ _ _ (getD_VB v3 _)
      · exact VB_V0
    by_cases h3 : p.kind = 3
    · rw [Eng.alike_3 h3]
      obtain ⟨iz, e1, hiz⟩ : ∃ iz : Nat, b = iz ∧ Dz[iz]? = some q := by
        unfold ruleD ruleAt at hq
        by_cases h0 : 0 ≤ b
        · rw [if_pos h0] at hq
          cases hz : Dz[b.toNat]? with
          | none => rw [hz] at hq; simp at hq; rw [← hq] at hk; simp at hk; omega
          | some q' => rw [hz] at hq; simp at hq; exact ⟨b.toNat, by omega, by rw [hz, hq]⟩
        · rw [if_neg h0] at hq; simp at hq; rw [← hq] at hk; simp at hk; omega
      have := (good_of hVz hiz).k3 (by omega)
      exact mk_VB (by rw [fixB_len]; omega) (Nat.zero_le _) VBs_nil
    by_cases h5 : p.kind = 5
    · rw [Eng.alike_5 h5]
      exact HA _ _ v2 (fun j _ => H _ _ _ (getD_VB v3 _)) 0
    by_cases h89 : p.kind = 8 ∨ p.kind = 9
    · rw [Eng.alike_89 h89]
      exact HA _ _ v2 (fun j _ => H _ _ _ (getD_VB v3 _)) 0
    by_cases h7 : p.kind = 7
    · by_cases hn : itemK q n 0 < 0
      · rw [Eng.alike_7n h7 hn]; exact VB_V0
      · rw [Eng.alike_7 h7 hn]
        exact HA _ _ v2 (fun j _ => H _ _ _ (getD_VB v3 _)) n
    · rw [Eng.alike_o (by omega)]
      exact mk_VB v1 (Nat.zero_le _) VBs_nil
  · split
    · exact mk_VB v1 (Nat.zero_le _) VBs_nil
    · split
      · refine mk_VB (Nat.zero_le _) (by simp) ?_
        unfold VBs
        exact ⟨H _ _ _ hv', VBs_nil⟩
      · split
        · exact H _ _ _ (getD_VB v3 _)
        · exact VB_V0
theorem mig_VB (hVz : descP Dz) : ∀ (f : Nat) (a b : Int) (v : V), VB 1048576 v → VB 1048576 (mig Da Dz f a b v).1
  | 0, _, _, _, _ => by rw [mig]; exact VB_V0
  | f + 1, a, b, .mk n bs vs, hv => by
    rw [mig]
    exact mfin_VB (preM_VB hVz (fun a b v h => mig_VB hVz f a b v h) a b hv)
end
end Go.Proofs.Ytmpokibohbhoeaa
namespace Go.Proofs.Ytmpokibohbhoeaa.Eng
open Go Go.RowKit

def okM (l : List V × Bool) : V × Bool := if l.2 = true then (.mk 0 [] l.1, true) else (V0, false)
def numV (n : Int) : V → V
  | .mk _ bs vs => .mk n bs vs
def sameM (g : Int → Int → V → V × Bool) (B : List RuleD) (b : Int) (x y : RuleD) (n : Int) (bs : List UInt8) (vs : List V) : V × Bool :=
  if y.kind = 2 then (V0, true)
  else if y.kind = 1 then (.mk n [] [], decide (n ≤ limD B b))
  else if y.kind = 3 then (.mk 0 (fixB bs y.size.toNat) [], true)
  else if y.kind = 5 then okM (allM (fun i => g (kid1 x) (kid1 y) (vs.getD i V0)) vs.length 0)
  else if y.kind = 8 ∨ y.kind = 9 then okM (allM (fun i => g (kid0 x) (kid0 y) (vs.getD i V0)) vs.length 0)
  else if y.kind = 6 then okM (allM (partM g B x y vs) y.names.length 0)
  else if y.kind = 7 then
    if itemK y n 0 < 0 then (V0, false)
    else (numV n (okM (allM (fun i => g (itemK x n 0) (itemK y n 0) (vs.getD i V0)) vs.length 0)).1, (okM (allM (fun i => g (itemK x n 0) (itemK y n 0) (vs.getD i V0)) vs.length 0)).2)
  else (.mk 0 bs [], true)
section
variable {Da Dz : List RuleD} {g : Int → Int → V → V × Bool} {p q : RuleD} {ia iz : Nat} {n : Int} {bs : List UInt8} {vs : List V}
theorem mfin_okM {b : Int} {l : List V × Bool} : mfin Dz b (okM l) = mfin Dz b (.mk 0 [] l.1, l.2) := by
  unfold okM
  cases h : l.2 with
  | true => rw [if_pos rfl]
  | false => rw [if_neg (by simp), mfin_f rfl, mfin_f rfl]
theorem same_alike (hVz : descP Dz) (hq : Dz[iz]? = some q) (hpq : p.kind = q.kind) (Gp : GoodR Da ia p) (hown : ownV Da p n bs.length vs.length = true) :
    mfin Dz iz (sameM g Dz iz p q n bs vs) = mfin Dz iz (alikeM g Dz p q n bs vs) := by
  have Gq : GoodR Dz iz q := good_of hVz hq
  have hb : ∀ l : List UInt8, l.length = 0 → l = [] := fun l h => List.eq_nil_of_length_eq_zero h
  unfold sameM
  by_cases h2 : q.kind = 2
  · rw [if_pos h2, alike_o (by omega)]
    rw [ownV_2 (by omega)] at hown
    simp only [decide_eq_true_eq] at hown
    rw [hown.1, hb bs hown.2.1]
    rfl
  rw [if_neg h2]
  by_cases h1 : q.kind = 1
  · rw [if_pos h1, alike_o (by omega)]
    rw [ownV_1 (by omega)] at hown
    simp only [decide_eq_true_eq] at hown
    rw [hb bs hown.2.2.1]
    by_cases hn : n ≤ limD Dz iz
    · rw [decide_eq_true hn]
    · rw [decide_eq_false hn, mfin_f rfl]
      refine (mfin_v ?_).symm
      have hlim := limD_good (D := Dz) (i := (iz : Int)) (r := q) (by simp [ruleAt, hq]) ⟨h1, Gq.k1 h1⟩
      rw [validV, ruleD_get hq, ownV_1 h1, decide_eq_false (by rw [hlim] at hn; omega)]
      rfl
  rw [if_neg h1]
  by_cases h3 : q.kind = 3
  · rw [if_pos h3, alike_3 (by omega)]
  rw [if_neg h3]
  by_cases h5 : q.kind = 5
  · rw [if_pos h5, alike_5 (by omega), mfin_okM]
  rw [if_neg h5]
  by_cases h8 : q.kind = 8 ∨ q.kind = 9
  · rw [if_pos h8, alike_89 (by omega), mfin_okM]
  rw [if_neg h8]
  by_cases h6 : q.kind = 6
  · rw [if_pos h6, alike_6 (by omega)]
    rfl
  rw [if_neg h6]
  by_cases h7 : q.kind = 7
  · rw [if_pos h7]
    by_cases hn : itemK q n 0 < 0
    · rw [if_pos hn, alike_7n (by omega) hn]
    · rw [if_neg hn, alike_7 (by omega) hn]
      generalize allM (fun i => g (itemK p n 0) (itemK q n 0) (vs.getD i V0)) vs.length 0 = l
      unfold okM
      cases h : l.2 with
      | true => rw [if_pos rfl]; rfl
      | false => rw [if_neg (by simp), mfin_f rfl, mfin_f rfl]
  · rw [if_neg h7, alike_o (by omega)]
    have hk : p.kind = 4 ∨ p.kind = 10 := by have := Gp.kd; omega
    rcases hk with hk | hk
    · rw [ownV_4 hk] at hown
      simp only [decide_eq_true_eq] at hown
      rw [hown.1]
    · rw [ownV_10 hk] at hown
      simp only [decide_eq_true_eq] at hown
      rw [hown.1]
theorem okM_VB {l : List V × Bool} (h : VB 1048576 (.mk 0 [] l.1)) : VB 1048576 (okM l).1 := by
  unfold okM
  split
  · exact h
  · exact VB_V0
theorem numV_VB {v : V} (h : VB 1048576 v) : VB 1048576 (numV n v) := by
  obtain ⟨m, b, w⟩ := v
  unfold VB at h
  unfold numV VB
  exact h
theorem same_VB (hVz : descP Dz) (hq : Dz[iz]? = some q) (hpq : p.kind = q.kind) (H : ∀ a b v, VB 1048576 v → VB 1048576 (g a b v).1) (hv : VB 1048576 (.mk n bs vs)) : VB 1048576 (sameM g Dz iz p q n bs vs).1 := by
  have Gq : GoodR Dz iz q := good_of hVz hq
  have hv' := hv
  unfold VB at hv'
  obtain ⟨v1, v2, v3⟩ := hv'
  have HA : ∀ (c : Nat) (h : Nat → V × Bool), c ≤ 1048576 → (∀ j, j < c → VB 1048576 (h j).1) → VB 1048576 (okM (allM h c 0)).1 := fun c h hc hh => by
    have := allM_len (g := h) c 0
    exact okM_VB (mk_VB (Nat.zero_le _) (by omega) (allM_VB c 0 fun j _ hj => hh j (by omega)))
  unfold sameM
  split
  · exact VB_V0
  split
  · exact mk_VB (Nat.zero_le _) (Nat.zero_le _) VBs_nil
  split
  · rename_i h3
    have := Gq.k3 h3
    exact mk_VB (by rw [fixB_len]; omega) (Nat.zero_le _) VBs_nil
  split
  · exact HA _ _ v2 fun j _ => H _ _ _ (getD_VB v3 _)
  split
  · exact HA _ _ v2 fun j _ => H _ _ _ (getD_VB v3 _)
  split
  · rename_i h6
    have hn := (seq_names hVz hq h6).1
    have h8 := Gq.k6 h6
    have hil : iz < Dz.length := (List.getElem?_eq_some_iff.1 hq).1
    refine HA _ _ (by omega) fun j hj => ?_
    unfold partM
    split
    · have hjk : j < q.kids.length := by omega
      rw [show q.kids.getD j 0 = q.kids[j] by simp [List.getD, hjk]]
      have := Gq.kid j hjk
      have h := dflt_VB hVz Dz.length (q.kids[j]).toNat (by omega)
      rwa [Int.toNat_of_nonneg (by omega)] at h
    · exact H _ _ _ (getD_VB v3 _)
  split
  · split
    · exact VB_V0
    · exact numV_VB (HA _ _ v2 fun j _ => H _ _ _ (getD_VB v3 _))
  · exact mk_VB v1 (Nat.zero_le _) VBs_nil
end
end Go.Proofs.Ytmpokibohbhoeaa.Eng
