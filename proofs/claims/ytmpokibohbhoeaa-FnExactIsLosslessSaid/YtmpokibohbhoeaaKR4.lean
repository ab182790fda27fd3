/-
  Values that came in.
-/
import Derived.Test.YtmpokibohbhoeaaKR
import Derived.Test.YtmpokibohbhoeaaKP2
import Derived.Test.YtmpokibohbhoeaaKN0
set_option linter.unusedSimpArgs false
set_option linter.unusedVariables false
set_option linter.defProp false
set_option maxRecDepth 100000
set_option maxHeartbeats 4000000
namespace Go.Proofs.Ytmpokibohbhoeaa.Eng
open Go Go.RowKit

theorem len3 : ∀ {cs : List Value}, cs.length = 3 → ∃ c0 c1 c2, cs = [c0, c1, c2]
  | [c0, c1, c2], _ => ⟨c0, c1, c2, rfl⟩
theorem encVc_len3 : ∀ v : V, (encVc v).length = 3
  | .mk n bs vs => by rw [encVc_mk]; rfl
theorem open_VsN {n : Nat} (h : OpenN Try.prog n 37 encVc (fun v => VB maxLen v)) : OpenN Try.prog (n + 1) 35 (fun l : List V => [.sl 3 (l.map encVc)]) (fun l => l.length ≤ maxLen ∧ ∀ v ∈ l, VB maxLen v) := open_slN Try.underlying35 (by kernel_rfl) encVc_len3 (by decide) h
theorem open_Vs0 : OpenN Try.prog 0 35 (fun l : List V => [.sl 3 (l.map encVc)]) (fun l => l.length ≤ maxLen ∧ ∀ v ∈ l, VB maxLen v) :=
  fun enc w base spare held cs x hx _ => by simp [DataW.trod] at hx
theorem open_Vstep {n : Nat} (h : OpenN Try.prog n 35 (fun l : List V => [.sl 3 (l.map encVc)]) (fun l => l.length ≤ maxLen ∧ ∀ v ∈ l, VB maxLen v)) : OpenN Try.prog (n + 1) 37 encVc (fun v => VB maxLen v) :=
  fun enc w base spare held cs x hx hz => by
    obtain ⟨hl, a0, r0, o0, k0⟩ := open_fld tf37_0 (z := 1) (by kernel_rfl) (open_int Try.underlying3 n) hx hz
    obtain ⟨_, a1, r1, o1, k1⟩ := open_fld tf37_1 (z := 1) (by kernel_rfl) (open_B n) hx hz
    obtain ⟨_, a2, r2, o2, k2⟩ := open_fld tf37_2 (z := 1) (by kernel_rfl) h hx hz
    have hC : Try.prog.cellsOf 37 = 3 := by kernel_rfl
    rw [hC] at hl
    obtain ⟨c0, c1, c2, rfl⟩ : ∃ c0 c1 c2, cs = [c0, c1, c2] := len3 hl
    simp only [List.drop_succ_cons, List.drop_zero, List.take_succ_cons, List.take_zero, List.mem_singleton, forall_eq] at r0 r1 r2 o0 o1 o2
    refine ⟨.mk a0 a1 a2, ?_, ?_, ?_⟩
    · rw [encVc_mk, encVs_eq]
      exact (r0.append r1).append r2
    · intro c hc
      simp only [List.mem_cons, List.not_mem_nil, or_false] at hc
      rcases hc with rfl | rfl | rfl <;> assumption
    · unfold VB
      exact ⟨k1.1, k2.1, VBs.mk k2.2⟩
theorem open_V : OpenT Try.prog 37 encVc (fun v => VB maxLen v)
  | 0 => fun enc w base spare held cs x hx _ => by simp [DataW.trod] at hx
  | 1 => open_Vstep open_Vs0
  | n + 2 => open_Vstep (open_VsN (open_V n))
end Go.Proofs.Ytmpokibohbhoeaa.Eng
