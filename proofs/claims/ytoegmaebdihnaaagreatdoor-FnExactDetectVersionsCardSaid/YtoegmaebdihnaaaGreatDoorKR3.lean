/-
  Registries that came in.
-/
import Derived.Test.YtoegmaebdihnaaaGreatDoorKR
import Derived.Test.YtoegmaebdihnaaaGreatDoorKLR1
set_option linter.unusedSimpArgs false
set_option linter.unusedVariables false
namespace Go.Proofs.YtoegmaebdihnaaaGreatDoor.Eng
open Go Go.RowKit

theorem open_Gs : OpenT Tryz.prog 50 (fun l : List (List RuleD) => [encDss l]) (fun l => l.length ≤ maxLen ∧ ∀ x ∈ l, DB maxLen x ∧ ∀ r ∈ x, RI r) := open_sl Tryz.underlying50 (by kernel_rfl) (fun _ => rfl) (by decide) open_D
theorem open_G : OpenT Tryz.prog 52 (fun l : List (List RuleD) => [encDss l]) (fun l => GB maxLen l)
  | 0 => fun enc w base spare held cs x hx _ => by simp [DataW.trod] at hx
  | n + 1 => fun enc w base spare held cs x hx hz => by
    obtain ⟨hl, a0, r0, o0, k0⟩ := open_fld tf52_0 (z := 1) (by kernel_rfl) (open_Gs n) hx hz
    have hC : Tryz.prog.cellsOf 52 = 1 := by kernel_rfl
    rw [hC] at hl
    obtain ⟨c0, rfl⟩ := List.length_eq_one_iff.1 hl
    exact ⟨a0, r0, o0, ⟨k0.1, fun x hx => (k0.2 x hx).1⟩⟩
end Go.Proofs.YtoegmaebdihnaaaGreatDoor.Eng
