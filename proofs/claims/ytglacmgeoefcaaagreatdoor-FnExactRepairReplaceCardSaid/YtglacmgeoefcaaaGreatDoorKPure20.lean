/-
  Plain functions: the first place and byte that make a file.
-/
import Derived.Test.YtglacmgeoefcaaaGreatDoorKP
set_option linter.unusedSimpArgs false
set_option linter.unusedVariables false
set_option linter.defProp false
set_option maxRecDepth 100000
set_option maxHeartbeats 4000000
namespace Go.Proofs.YtglacmgeoefcaaaGreatDoor
open Go.RowKit

def fstN (p : Nat → Bool) (m : Nat) : Option Nat := (List.range m).find? p
def fstP (p : Nat → Nat → Bool) (n m : Nat) : Option (Nat × Nat) := (List.range n).findSome? fun i => (fstN (p i) m).map fun k => (i, k)
theorem fstN_hit {p : Nat → Bool} {m k : Nat} (hk : k < m) (h : p k = true) (hb : ∀ j, j < k → p j = false) : fstN p m = some k := by
  unfold fstN
  rw [List.find?_eq_some_iff_getElem]
  refine ⟨h, k, by simpa using hk, by simp, fun j hj => ?_⟩
  simp [hb j hj]
theorem fstN_none {p : Nat → Bool} {m : Nat} (h : ∀ j, j < m → p j = false) : fstN p m = none := by
  unfold fstN
  rw [List.find?_eq_none]
  intro x hx
  simp [h x (by simpa using hx)]
theorem range_split {n i : Nat} (h : i < n) : List.range n = List.range i ++ i :: (List.range (n - (i + 1))).map (fun x => i + 1 + x) := by
  conv => lhs; rw [show n = i + (1 + (n - (i + 1))) by omega]
  rw [List.range_add, List.range_add]
  simp [List.map_map, Function.comp_def, Nat.add_assoc]
theorem fstP_hit {p : Nat → Nat → Bool} {n m i k : Nat} (hi : i < n) (hk : k < m) (h : p i k = true) (hb : ∀ j, j < k → p i j = false) (ha : ∀ i' j, i' < i → j < m → p i' j = false) : fstP p n m = some (i, k) := by
  unfold fstP
  rw [range_split hi, List.findSome?_append]
  have h1 : (List.range i).findSome? (fun i => (fstN (p i) m).map fun k => (i, k)) = none := by
    rw [List.findSome?_eq_none_iff]
    intro x hx
    rw [fstN_none fun j hj => ha x j (by simpa using hx) hj]
    rfl
  rw [h1, List.findSome?_cons, fstN_hit hk h hb]
  rfl
theorem fstP_none {p : Nat → Nat → Bool} {n m : Nat} (h : ∀ i j, i < n → j < m → p i j = false) : fstP p n m = none := by
  unfold fstP
  rw [List.findSome?_eq_none_iff]
  intro x hx
  rw [fstN_none fun j hj => h x j (by simpa using hx) hj]
  rfl
def cutB (b : List UInt8) (at_ n : Nat) (new : List UInt8) : List UInt8 := b.take at_ ++ new ++ b.drop (at_ + n)
def mutR (b : List UInt8) (kind i c : Int) : List UInt8 × Bool :=
  if i < 0 ∨ c < 0 ∨ 255 < c then (b, false)
  else if kind = 1 ∧ i < b.length then (cutB b i.toNat 1 [UInt8.ofNat c.toNat], true)
  else if kind = 2 ∧ i ≤ b.length then (cutB b i.toNat 0 [UInt8.ofNat c.toNat], true)
  else if kind = 3 ∧ i < b.length ∧ c = 0 then (cutB b i.toNat 1 [], true)
  else (b, false)
theorem cutB_len {b new : List UInt8} {a n : Nat} (h : a + n ≤ b.length) : (cutB b a n new).length + n = b.length + new.length := by
  unfold cutB
  rw [List.length_append, List.length_append, List.length_take, List.length_drop]
  omega
theorem mutR_len (b : List UInt8) (kind i c : Int) : (mutR b kind i c).1.length ≤ b.length + 1 := by
  unfold mutR
  split
  · simp
  · split
    · rename_i h1 h2
      have := cutB_len (b := b) (new := [UInt8.ofNat c.toNat]) (a := i.toNat) (n := 1) (by omega)
      simp only [List.length_singleton] at this
      simp only
      omega
    · split
      · rename_i h1 h2 h3
        have := cutB_len (b := b) (new := [UInt8.ofNat c.toNat]) (a := i.toNat) (n := 0) (by omega)
        simp only [List.length_singleton] at this
        simp only
        omega
      · split
        · rename_i h1 h2 h3 h4
          have := cutB_len (b := b) (new := []) (a := i.toNat) (n := 1) (by omega)
          simp only [List.length_nil] at this
          simp only
          omega
        · simp
theorem set_cut {b : List UInt8} {i : Nat} (h : i < b.length) (c : UInt8) : b.set i c = cutB b i 1 [c] := by
  unfold cutB
  rw [List.set_eq_take_append_cons_drop, if_pos h]
  simp
end Go.Proofs.YtglacmgeoefcaaaGreatDoor
