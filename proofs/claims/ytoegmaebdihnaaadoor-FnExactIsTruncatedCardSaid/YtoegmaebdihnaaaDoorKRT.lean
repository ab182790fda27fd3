/-
  What the row's condition on impl.errTruncated gives; a world that meets it.
-/
import Derived.Test.YtoegmaebdihnaaaDoorKR
import Derived.Test.YtoegmaebdihnaaaDoorRows
import Derived.ChangeSame
import Derived.ChangeVars
import Derived.JoinedOf
import Derived.RowKitTokens
import Derived.LaidLaws
import Derived.LaidHandle
import Derived.MakeChecks
import Derived.Stop.Joined
import Derived.Stop.LaidErr
set_option linter.unusedSimpArgs false
set_option linter.unusedVariables false
namespace Go.Proofs.YtoegmaebdihnaaaDoor
open Go.ChangeShapes Go.WideShapes Go.RowKit Go.MakeChecks

theorem tr_named : Tryd.prog.globalNamed "loop.example/g00518/impl.errTruncated" = some 0 := by kernel_rfl
theorem tr_type : (Tryd.prog.globals[0]?).map (·.type) = some 42 := by kernel_rfl
theorem tr_star : "*" ++ "errors.errorString" = "*errors.errorString" := by decide
theorem tr_row (u : TypeId) (h : Tryd.prog.typeName? 3 u = some "*errors.errorString") : u = 119 :=
  typeName_ptr_named (nm := "errors.errorString") (by rw [tr_star]; kernel_rfl) (by kernel_rfl) (by decide) u (by rw [tr_star]; exact h)
theorem tr_c1 : Tryd.prog.cellsOf 145 = 1 := by kernel_rfl
theorem tr_c2 : Tryd.prog.cellsOf 9 = 1 := by kernel_rfl

/-- WHAT THE CONDITION GIVES A WALK: the variable's one cell. -/
theorem trunc_of_laid {W : World} (h : laidMetH Tryd.prog [("loop.example/g00518/impl.errTruncated", Rows.laid_loop_example_g00518_impl_errTruncated)] W) :
    ∃ a : Addr, W.var? Tryd.prog "loop.example/g00518/impl.errTruncated" = some #[.iface 119 (.pointer (some a))] ∧ W.cell? ⟨0, 0, none⟩ = some (.iface 119 (.pointer (some a))) := by
  have h' : laidMet Tryd.prog [("loop.example/g00518/impl.errTruncated", Rows.laid_loop_example_g00518_impl_errTruncated)] W := by
    have := h
    rwa [laidMetH_plain _ _ _ (by kernel_rfl)] at this
  obtain ⟨a, s, hv, _, _, _⟩ := laid_sentinel h' tr_named tr_type Tryd.underlying42 tr_row Tryd.underlying119 Tryd.underlying145 rfl rfl Tryd.underlying9 tr_c1 tr_c2
  exact ⟨a, hv, by simpa using World.var?_cell tr_named hv 0⟩
theorem var_below {w w' : World} {B : Nat} (h : Below B w w') (hb : 0 < B) : w'.var? Tryd.prog "loop.example/g00518/impl.errTruncated" = w.var? Tryd.prog "loop.example/g00518/impl.errTruncated" := by
  unfold World.var?
  rw [tr_named]
  simp only [Option.bind_some]
  rw [h.block _ hb]
abbrev truncS : ByteArray := { data := #[116, 114, 117, 110, 99, 97, 116, 101, 100] }
noncomputable def low : Nat := (World.holding Tryd.prog default ⟨#[], #[], []⟩).heap.size
/-- A world that meets the condition: the settled one, the variable's cell laid. -/
noncomputable def laidWorld (os : Os) : World :=
  let w0 := World.holding Tryd.prog os ⟨#[.cells #[.string truncS] 145], #[], []⟩
  { w0 with heap := w0.heap.modify 0 fun
      | .cells _ t frozen => .cells #[.iface 119 (.pointer (some ⟨low, 0, none⟩))] t frozen
      | o => o }
theorem laidWorld_met (os : Os) (args : Array Value) : laidMetH Tryd.prog [("loop.example/g00518/impl.errTruncated", Rows.laid_loop_example_g00518_impl_errTruncated)] ((laidWorld os).forCall (fun _ _ => 0) ⟨#[], args, []⟩).memory := by
  rw [laidMetH_plain _ _ _ (by kernel_rfl)]
  exact laidMet_of_run (ps := [.cell 0 0, .cell low 0]) 8 (by kernel_rfl) (by kernel_rfl) (by kernel_rfl)
end Go.Proofs.YtoegmaebdihnaaaDoor
