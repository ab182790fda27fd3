/-
  Plain law: what is printed is read.
-/
import Derived.Test.YtnndpimlfibncaaDoorKPLP
import Derived.Test.YtnndpimlfibncaaDoorKPure16
import Derived.Test.YtnndpimlfibncaaDoorKN9
import Derived.Test.YtnndpimlfibncaaDoorKNRF
set_option linter.unusedSimpArgs false
set_option linter.unusedVariables false
set_option linter.defProp false
set_option maxRecDepth 100000
set_option maxHeartbeats 4000000
namespace Go.Proofs.YtnndpimlfibncaaDoor.Eng
open Go Go.RowKit

section
variable {D : List RuleD}
theorem vKnown_of (hV : vDesc D = true) (hl : 0 < D.length) : vKnown D ((D.length : Int) - 1) = true := vKnown_yes hV (by omega)
theorem readV_at (hV : vDesc D = true) {i : Nat} (hi : i < D.length) {b : List UInt8} {p : Nat} (hp : p ≤ b.length) (hb : b.length ≤ 400) : readV D b (i : Int) (p : Int) = rd D b D.length i p := by
  unfold readV
  rw [if_pos ⟨vKnown_yes hV (by omega), by omega, hb⟩, Int.toNat_natCast, Int.toNat_natCast]
theorem printed_read (hV : vDesc D = true) (hP : descP D) {i : Nat} (hi : i < D.length) (hr : (D.length : Int) - 1 = (i : Int)) {v : V} (hv : validV D i v = true) (hb : (prV D i v).length ≤ 392) :
    readF D (prV D i v) = (v, (prV D i v).length, 0) ∧ (∀ x y : List UInt8, x.length = 3 → y.length = 2 → readV D (x ++ prV D i v ++ y) (i : Int) 3 = (v, 3 + (prV D i v).length, 0)) ∧
    (∀ z : UInt8, (readF D (prV D i v ++ [z])).2.2 = 7) ∧ (readF D ((prV D i v).take ((prV D i v).length - 1))).2.2 ≠ 0 ∧ 1 ≤ (prV D i v).length := by
  have h1 : rd D (prV D i v) D.length i 0 = (v, 0 + (prV D i v).length, 0) := rd_pr hP v i D.length 0 [] hi hi hv (Nat.zero_le _) (by simp)
  rw [Nat.zero_add] at h1
  have hpos : 1 ≤ (prV D i v).length := by
    have := rd_tot (b := prV D i v) hP D.length i 0 hi
    unfold Tq at this
    rw [h1] at this
    have := (this rfl).1
    simp only at this
    omega
  refine ⟨?_, fun x y hx hy => ?_, fun z => ?_, fun h => ?_, hpos⟩
  · unfold readF
    rw [hr, show (0 : Int) = ((0 : Nat) : Int) from rfl, readV_at hV hi (Nat.zero_le _) (by omega), h1]
    simp
  · rw [show (3 : Int) = ((3 : Nat) : Int) from rfl, readV_at hV hi (by simp; omega) (by simp; omega)]
    refine rd_pr hP v i D.length 3 y hi hi hv (by simp; omega) ?_
    rw [List.append_assoc, List.drop_left' hx]
  · unfold readF
    have h2 : rd D (prV D i v ++ [z]) D.length i 0 = (v, 0 + (prV D i v).length, 0) := rd_pr hP v i D.length 0 [z] hi hi hv (Nat.zero_le _) (by simp)
    rw [hr, show (0 : Int) = ((0 : Nat) : Int) from rfl, readV_at hV hi (Nat.zero_le _) (by simp; omega), h2]
    simp
  · have hlt : ((prV D i v).take ((prV D i v).length - 1)).length = (prV D i v).length - 1 := by rw [List.length_take]; omega
    have hle := rd_in D ((prV D i v).take ((prV D i v).length - 1)) D.length i 0 (Nat.zero_le _)
    have h0 : (rd D ((prV D i v).take ((prV D i v).length - 1)) D.length i 0).2.2 = 0 := by
      unfold readF at h
      rw [hr, show (0 : Int) = ((0 : Nat) : Int) from rfl, readV_at hV hi (Nat.zero_le _) (by omega)] at h
      split at h
      · simp at h
      · exact h
    have h3 := rd_ext (D := D) (B := prV D i v) (n := (prV D i v).length - 1) (by omega) D.length i 0 (Nat.zero_le _) (by rw [h0]; omega)
    rw [h1] at h3
    have h4 := congrArg (fun z => z.2.1) h3
    simp only at h4
    have := hle.2
    omega
end
end Go.Proofs.YtnndpimlfibncaaDoor.Eng
