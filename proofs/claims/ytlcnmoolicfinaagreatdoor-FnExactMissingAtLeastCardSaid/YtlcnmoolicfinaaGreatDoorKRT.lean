/-
  What the row's condition on impl.errTruncated gives; a world that meets it.
-/
import Derived.Test.YtlcnmoolicfinaaGreatDoorKR
import Derived.Test.YtlcnmoolicfinaaGreatDoorRows
import Derived.ChangeSame
import Derived.ChangeVars
import Derived.JoinedOf
import Derived.RowKitTokens
import Derived.LaidLaws
import Derived.LaidHandle
import Derived.MakeChecks
import Derived.Stop.Joined
import Derived.Stop.LaidErr
set_option linter.unusedSimpArgs false
set_option linter.unusedVariables false
set_option linter.defProp false
set_option maxRecDepth 100000
set_option maxHeartbeats 4000000
namespace Go.Proofs.YtlcnmoolicfinaaGreatDoor
open Go.ChangeShapes Go.WideShapes Go.RowKit Go.MakeChecks

theorem tr_named : Tryz.prog.globalNamed "loop.example/g00518/impl.errTruncated" = some 0 := by kernel_rfl
theorem tr_type : (Tryz.prog.globals[0]?).map (·.type) = some 56 := by kernel_rfl
theorem tr_star : "*" ++ "errors.errorString" = "*errors.errorString" := by decide
theorem tr_row (u : TypeId) (h : Tryz.prog.typeName? 3 u = some "*errors.errorString") : u = 130 :=
  typeName_ptr_named (nm := "errors.errorString") (by rw [tr_star]; kernel_rfl) (by kernel_rfl) (by decide) u (by rw [tr_star]; exact h)
theorem tr_c1 : Tryz.prog.cellsOf 156 = 1 := by kernel_rfl
theorem tr_c2 : Tryz.prog.cellsOf 9 = 1 := by kernel_rfl

theorem trunc_of_laid {W : World} (h : laidMetH Tryz.prog [("loop.example/g00518/impl.errTruncated", Rows.laid_loop_example_g00518_impl_errTruncated)] W) :
    ∃ a : Addr, W.var? Tryz.prog "loop.example/g00518/impl.errTruncated" = some #[.iface 130 (.pointer (some a))] ∧ W.cell? ⟨0, 0, none⟩ = some (.iface 130 (.pointer (some a))) := by
  have h' : laidMet Tryz.prog [("loop.example/g00518/impl.errTruncated", Rows.laid_loop_example_g00518_impl_errTruncated)] W := by
    have := h
    rwa [laidMetH_plain _ _ _ (by kernel_rfl)] at this
  obtain ⟨a, s, hv, _, _, _⟩ := laid_sentinel h' tr_named tr_type Tryz.underlying56 tr_row Tryz.underlying130 Tryz.underlying156 rfl rfl Tryz.underlying9 tr_c1 tr_c2
  exact ⟨a, hv, by simpa using World.var?_cell tr_named hv 0⟩
theorem var_below {w w' : World} {B : Nat} (h : Below B w w') (hb : 0 < B) : w'.var? Tryz.prog "loop.example/g00518/impl.errTruncated" = w.var? Tryz.prog "loop.example/g00518/impl.errTruncated" := by
  unfold World.var?
  rw [tr_named]
  simp only [Option.bind_some]
  rw [h.block _ hb]
abbrev truncS : ByteArray := { data := #[116, 114, 117, 110, 99, 97, 116, 101, 100] }
noncomputable def low : Nat := (World.holding Tryz.prog default ⟨#[], #[], []⟩).heap.size
noncomputable def laidWorld (os : Os) : World :=
  let w0 := World.holding Tryz.prog os ⟨#[.cells #[.string truncS] 156], #[], []⟩
  { w0 with heap := w0.heap.modify 0 fun
      | .cells _ t frozen => .cells #[.iface 130 (.pointer (some ⟨low, 0, none⟩))] t frozen
      | o => o }
theorem laidWorld_met (os : Os) (args : Array Value) : laidMetH Tryz.prog [("loop.example/g00518/impl.errTruncated", Rows.laid_loop_example_g00518_impl_errTruncated)] ((laidWorld os).forCall (fun _ _ => 0) ⟨#[], args, []⟩).memory := by
  rw [laidMetH_plain _ _ _ (by kernel_rfl)]
  exact laidMet_of_run (ps := [.cell 0 0, .cell low 0]) 8 (by kernel_rfl) (by kernel_rfl) (by kernel_rfl)
end Go.Proofs.YtlcnmoolicfinaaGreatDoor
