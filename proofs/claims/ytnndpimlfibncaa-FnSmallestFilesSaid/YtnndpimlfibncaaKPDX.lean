/-
  Plain functions: drawn values are valid, and small.

  Plain functions: drawn files; they are small.
-/
import Derived.Test.YtnndpimlfibncaaKPD
import Derived.Test.YtnndpimlfibncaaKPure14
set_option linter.unusedSimpArgs false
set_option linter.unusedVariables false
set_option linter.defProp false
set_option maxRecDepth 100000
set_option maxHeartbeats 4000000
namespace Go.Proofs.Ytnndpimlfibncaa.Eng
open Go.RowKit

section
variable {D : List RuleD}
theorem tags_inc {l : List Int} {lim : Int} (h : ∀ j (hj : j < l.length), tagOk lim l j hj) : ∀ (j k : Nat) (_ : j < k) (hk : k < l.length), l[j]'(by omega) < l[k]
  | j, 0, h0, _ => by omega
  | j, k + 1, h0, hk => by
    have h1 := (h (k + 1) hk).2 (by omega)
    simp only [Nat.add_sub_cancel] at h1
    by_cases e : j = k
    · subst e; exact h1
    · have := tags_inc h j k (by omega) (by omega)
      omega
theorem tagIx_self {l : List Int} {lim : Int} (h : ∀ j (hj : j < l.length), tagOk lim l j hj) {k : Nat} (hk : k < l.length) : tagIx l l[k] = some k := by
  refine tagIx_hit hk rfl fun j hj hjk => ?_
  have := tags_inc h j k hjk hk
  omega
theorem tagsP_at (hV : descP D) {i : Nat} {r : RuleD} (hr : D[i]? = some r) (h7 : r.kind = 7) : tagsP D r := by
  have hn : i < D.length := (List.getElem?_eq_some_iff.1 hr).1
  have hrn : ruleAt D i = some r := by simp [ruleAt, hr]
  have hp : ruleP D i r := by
    refine Classical.byContradiction fun hq => ?_
    have := hV.2 i hn
    rw [vRule_no hrn hq] at this
    exact Bool.noConfusion this
  obtain ⟨_, _, hkid, hk⟩ := hp
  rw [kl_7 h7] at hk
  simp only [Bool.and_eq_true] at hk
  exact tagsP_of hk.2
def tV (f : Nat) : Nat := 4 * 3 ^ f - 2
theorem tV_step (f : Nat) : 3 + 3 * tV f ≤ tV (f + 1) ∧ 6 ≤ tV (f + 1) := by
  unfold tV
  rw [Nat.pow_succ]
  have h2 : 1 ≤ 3 ^ f := Nat.one_le_pow _ _ (by omega)
  omega
structure Dv (D : List RuleD) (i f : Nat) (v : V) : Prop where
  ok : validV D i v = true
  vb : VB 1048576 v
  tot : totV v ≤ tV f
theorem dv_mk {i f : Nat} {r : RuleD} (hr : ruleD D i = r) {n : Int} {bs : List UInt8} {vs : List V} (ho : ownV D r n bs.length vs.length = true) (hs : validVs D r n 0 vs = true) (hb : bs.length ≤ 6) (hl : vs.length ≤ 3) (hz : vs.length = 0 ∨ bs.length = 0) (hvb : VBs 1048576 vs) (ht : totVs vs ≤ vs.length * tV f) : Dv D i (f + 1) (.mk n bs vs) := by
  refine ⟨?_, ?_, ?_⟩
  · rw [validV, hr, ho, hs]; rfl
  · unfold VB; exact ⟨by omega, by omega, hvb⟩
  · rw [totV]
    have h1 : vs.length * tV f ≤ 3 * tV f := Nat.mul_le_mul_right _ hl
    have h2 := tV_step f
    rcases hz with hz | hz
    · have e : totVs vs = 0 := by rw [List.eq_nil_of_length_eq_zero hz]; unfold totVs; rfl
      omega
    · omega
end
end Go.Proofs.Ytnndpimlfibncaa.Eng
namespace Go.Proofs.Ytnndpimlfibncaa.Eng
open Go.RowKit

theorem DInv.db {D : List RuleD} (h : DInv D) (hl : D.length ≤ 9) : DB 1048576 D := by
  refine ⟨by omega, fun r hr => ?_⟩
  obtain ⟨i, hi, rfl⟩ := List.getElem_of_mem hr
  have hd := h.rule i hi
  obtain ⟨w, hw, e⟩ := hd.name
  refine ⟨?_, ?_, ?_, ?_, ?_, fun s hs => ?_⟩
  · rw [e, ByteArray.size_append]
    have h1 := words_size w hw
    have h2 := fmtN_size (n := i) (by omega)
    omega
  · have := hd.bs; omega
  · have := hd.ns; omega
  · have := hd.ts; omega
  · have := hd.ks; omega
  · have := hd.nz s hs; omega
def fileC (c : Cur) : (List RuleD × List UInt8) × Cur :=
  let d := descC c
  let v := vMk d.1 d.1.length (d.1.length - 1) 8 d.2
  let b := prV d.1 ((d.1.length - 1 : Nat) : Int) v.1
  let p := if 0 < b.length then (if (once v.2 3).1 = true then bentC (once v.2 3).2 b else (b, (once v.2 3).2)) else (b, v.2)
  let s := bel p.2 24
  if s.1 = 0 then ((d.1, List.replicate (400 + (bel s.2 2).1).toNat 0), (bel s.2 2).2)
  else if s.1 = 1 then ((d.1, (bysC (bel s.2 8).1.toNat (bel s.2 8).2).1), (bysC (bel s.2 8).1.toNat (bel s.2 8).2).2)
  else if s.1 = 2 then ((d.1, p.1 ++ [92]), s.2)
  else ((d.1, p.1), s.2)
theorem tV_le {f : Nat} (h : f ≤ 6) : tV f ≤ 2914 := by
  have h1 : (3 : Nat) ^ f ≤ 3 ^ 6 := Nat.pow_le_pow_right (by omega) h
  unfold tV
  omega
end Go.Proofs.Ytnndpimlfibncaa.Eng
