/-
  Plain functions: repairs.
-/
import Derived.Test.YtglacmgeoefcaaaGreatDoorKPure20
set_option linter.unusedSimpArgs false
set_option linter.unusedVariables false
set_option linter.defProp false
set_option maxRecDepth 100000
set_option maxHeartbeats 4000000
namespace Go.Proofs.YtglacmgeoefcaaaGreatDoor
open Go.RowKit

abbrev Mut := Int × Int × Int
def tryR (F : List UInt8 → Bool) (b : List UInt8) (kind : Int) (n m : Nat) : Option (List UInt8 × Mut) :=
  (fstP (fun i c => (mutR b kind i c).2 && F (mutR b kind i c).1) n m).map fun x => ((mutR b kind x.1 x.2).1, (kind, (x.1 : Int), (x.2 : Int)))
def tryX (F : List UInt8 → Bool) (b : List UInt8) (kind : Int) (n m : Nat) : List UInt8 × Mut × Bool := match tryR F b kind n m with
  | some x => (x.1, x.2, true)
  | none => (b, (0, 0, 0), false)
def repR (F : List UInt8 → Bool) (b : List UInt8) : List UInt8 × Mut × Bool :=
  if 40 < b.length then (b, (0, 0, 0), false)
  else if F b = true then (b, (0, 0, 0), true)
  else tryX F b 1 b.length 256
def repL (F : List UInt8 → Bool) (b : List UInt8) : List UInt8 × Mut × Bool :=
  if 40 < b.length then (b, (0, 0, 0), false)
  else if F b = true then (b, (0, 0, 0), true)
  else if (tryX F b 3 b.length 1).2.2 = true then tryX F b 3 b.length 1
  else tryX F b 2 (b.length + 1) 256
theorem tryR_hit {F : List UInt8 → Bool} {b : List UInt8} {kind : Int} {n m i k : Nat} (hi : i < n) (hk : k < m) (h : ((mutR b kind i k).2 && F (mutR b kind i k).1) = true) (hb : ∀ j, j < k → ((mutR b kind i j).2 && F (mutR b kind i j).1) = false)
    (ha : ∀ i' j, i' < i → j < m → ((mutR b kind i' j).2 && F (mutR b kind i' j).1) = false) : tryR F b kind n m = some ((mutR b kind i k).1, (kind, (i : Int), (k : Int))) := by
  unfold tryR
  rw [fstP_hit hi hk (by exact h) (fun j hj => hb j hj) (fun i' j h1 h2 => ha i' j h1 h2)]
  rfl
theorem tryR_none {F : List UInt8 → Bool} {b : List UInt8} {kind : Int} {n m : Nat} (h : ∀ i j, i < n → j < m → ((mutR b kind i j).2 && F (mutR b kind i j).1) = false) : tryR F b kind n m = none := by
  unfold tryR
  rw [fstP_none h]
  rfl
theorem tryR_len {F : List UInt8 → Bool} {b : List UInt8} {kind : Int} {n m : Nat} {x : List UInt8 × Mut} (h : tryR F b kind n m = some x) : x.1.length ≤ b.length + 1 := by
  unfold tryR at h
  simp only [Option.map_eq_some_iff] at h
  obtain ⟨y, _, rfl⟩ := h
  exact mutR_len _ _ _ _
theorem tryX_hit {F : List UInt8 → Bool} {b : List UInt8} {kind : Int} {n m i k : Nat} (hi : i < n) (hk : k < m) (h : ((mutR b kind i k).2 && F (mutR b kind i k).1) = true) (hb : ∀ j, j < k → ((mutR b kind i j).2 && F (mutR b kind i j).1) = false)
    (ha : ∀ i' j, i' < i → j < m → ((mutR b kind i' j).2 && F (mutR b kind i' j).1) = false) : tryX F b kind n m = ((mutR b kind i k).1, (kind, (i : Int), (k : Int)), true) := by
  unfold tryX
  rw [tryR_hit hi hk h hb ha]
theorem tryX_none {F : List UInt8 → Bool} {b : List UInt8} {kind : Int} {n m : Nat} (h : ∀ i j, i < n → j < m → ((mutR b kind i j).2 && F (mutR b kind i j).1) = false) : tryX F b kind n m = (b, (0, 0, 0), false) := by
  unfold tryX
  rw [tryR_none h]
theorem tryX_len (F : List UInt8 → Bool) (b : List UInt8) (kind : Int) (n m : Nat) : (tryX F b kind n m).1.length ≤ b.length + 1 := by
  unfold tryX
  split
  · exact tryR_len ‹_›
  · simp
theorem repR_len (F : List UInt8 → Bool) (b : List UInt8) : (repR F b).1.length ≤ b.length + 1 := by
  unfold repR
  split
  · simp
  split
  · simp
  · exact tryX_len _ _ _ _ _
theorem repL_len (F : List UInt8 → Bool) (b : List UInt8) : (repL F b).1.length ≤ b.length + 1 := by
  unfold repL
  split
  · simp
  split
  · simp
  split
  · exact tryX_len _ _ _ _ _
  · exact tryX_len _ _ _ _ _
theorem repR_lim {F : List UInt8 → Bool} {b : List UInt8} (hb : b.length ≤ 1048576) : (repR F b).1.length ≤ 1048576 := by
  by_cases h : 40 < b.length
  · rw [repR, if_pos h]; exact hb
  · have := repR_len F b; omega
theorem repL_lim {F : List UInt8 → Bool} {b : List UInt8} (hb : b.length ≤ 1048576) : (repL F b).1.length ≤ 1048576 := by
  by_cases h : 40 < b.length
  · rw [repL, if_pos h]; exact hb
  · have := repL_len F b; omega
theorem mutR_1 {b : List UInt8} {i c : Nat} (hi : i < b.length) (hc : c ≤ 255) : mutR b 1 i c = (cutB b i 1 [UInt8.ofNat c], true) := by
  unfold mutR
  rw [if_neg (by omega), if_pos ⟨rfl, by omega⟩]
  simp
theorem mutR_2 {b : List UInt8} {i c : Nat} (hi : i ≤ b.length) (hc : c ≤ 255) : mutR b 2 i c = (cutB b i 0 [UInt8.ofNat c], true) := by
  unfold mutR
  rw [if_neg (by omega), if_neg (by omega), if_pos ⟨rfl, by omega⟩]
  simp
theorem mutR_3 {b : List UInt8} {i : Nat} (hi : i < b.length) : mutR b 3 i 0 = (cutB b i 1 [], true) := by
  unfold mutR
  rw [if_neg (by omega), if_neg (by omega), if_neg (by omega), if_pos ⟨rfl, by omega, rfl⟩]
  simp
end Go.Proofs.YtglacmgeoefcaaaGreatDoor
