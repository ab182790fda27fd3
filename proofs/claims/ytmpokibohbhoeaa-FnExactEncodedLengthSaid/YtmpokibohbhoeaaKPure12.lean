/-
  Plain functions: bounds of values, equal values.
-/
import Derived.Test.YtmpokibohbhoeaaKP
set_option linter.unusedSimpArgs false
set_option linter.unusedVariables false
namespace Go.Proofs.Ytmpokibohbhoeaa
open Go.RowKit

mutual
/-- Nothing in a value is longer than M. -/
def VB (M : Nat) : V → Prop
  | .mk _ bs vs => bs.length ≤ M ∧ vs.length ≤ M ∧ VBs M vs
def VBs (M : Nat) : List V → Prop
  | [] => True
  | v :: vs => VB M v ∧ VBs M vs
end
theorem VBs.el {M : Nat} : ∀ {vs : List V}, VBs M vs → ∀ v ∈ vs, VB M v
  | [], _, v, hv => by cases hv
  | x :: vs, h, v, hv => by
    unfold VBs at h
    rcases List.mem_cons.1 hv with rfl | hv
    · exact h.1
    · exact VBs.el h.2 v hv
theorem VBs.mk {M : Nat} : ∀ {vs : List V}, (∀ v ∈ vs, VB M v) → VBs M vs
  | [], _ => by unfold VBs; trivial
  | x :: vs, h => by
    unfold VBs
    exact ⟨h x (by simp), VBs.mk fun v hv => h v (by simp [hv])⟩

mutual
/-- Equal in all fields. -/
def eqV : V → V → Bool
  | .mk n bs vs, .mk m cs ws => n == m && (bs == cs && (vs.length == ws.length && eqVs vs ws))
def eqVs : List V → List V → Bool
  | v :: vs, w :: ws => eqV v w && eqVs vs ws
  | _, _ => true
end
mutual
theorem eqV_refl : ∀ v : V, eqV v v = true
  | .mk n bs vs => by unfold eqV; simp [eqVs_refl vs]
theorem eqVs_refl : ∀ vs : List V, eqVs vs vs = true
  | [] => by unfold eqVs; rfl
  | v :: vs => by unfold eqVs; rw [eqV_refl v, eqVs_refl vs]; rfl
end
mutual
theorem eqV_eq : ∀ {v w : V}, eqV v w = true → v = w
  | .mk n bs vs, .mk m cs ws, h => by
    unfold eqV at h
    simp only [Bool.and_eq_true, beq_iff_eq] at h
    obtain ⟨rfl, rfl, hl, h⟩ := h
    rw [eqVs_eq hl h]
theorem eqVs_eq : ∀ {vs ws : List V}, vs.length = ws.length → eqVs vs ws = true → vs = ws
  | [], [], _, _ => rfl
  | v :: vs, w :: ws, hl, h => by
    unfold eqVs at h
    simp only [Bool.and_eq_true] at h
    simp only [List.length_cons] at hl
    rw [eqV_eq h.1, eqVs_eq (by omega) h.2]
  | [], _ :: _, hl, _ => by simp at hl
  | _ :: _, [], hl, _ => by simp at hl
end
/-- How deep, how great: a measure that items lie below. -/
theorem item_lt {n : Int} {bs : List UInt8} {vs : List V} {v : V} (h : v ∈ vs) : SizeOf.sizeOf v < SizeOf.sizeOf (V.mk n bs vs) := by
  have := List.sizeOf_lt_of_mem h
  simp only [V.mk.sizeOf_spec]
  omega
theorem eqVs_step {vs ws : List V} {k : Nat} (hv : k < vs.length) (hw : k < ws.length) : eqVs (vs.drop k) (ws.drop k) = (eqV vs[k] ws[k] && eqVs (vs.drop (k + 1)) (ws.drop (k + 1))) := by
  rw [List.drop_eq_getElem_cons hv, List.drop_eq_getElem_cons hw, eqVs]
end Go.Proofs.Ytmpokibohbhoeaa
