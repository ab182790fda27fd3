/-
  Arguments that came in, as the engine has them: whatever a reading reads is data.

  What the row's condition on errors.errorType gives; a world that meets it.
-/
import Derived.Test.YtnndpimlfibncaaGreatDoorKN0
import Derived.Test.YtnndpimlfibncaaGreatDoorKTy
import Derived.Deep.Slices
import Derived.Lib.LaidU8
import Derived.WideShapes
import Derived.KernelRfl
import Derived.Test.YtnndpimlfibncaaGreatDoorRows
import Derived.ChangeSame
import Derived.ChangeVars
import Derived.JoinedOf
import Derived.RowKitTokens
import Derived.LaidLaws
import Derived.LaidHandle
import Derived.Stop.Joined
set_option linter.unusedSimpArgs false
set_option linter.unusedVariables false
set_option linter.defProp false
set_option maxRecDepth 100000
set_option maxHeartbeats 4000000
namespace Go.Proofs.YtnndpimlfibncaaGreatDoor.Eng
open Go Go.RowKit

def CW (w : World) : CellR := fun b o u => (w.cell? ⟨b, o, none⟩ = some u ∧ u.oneCell' = true) ∧ (¬ Lst b → w.frozen? ⟨b, o, none⟩ = false)
theorem CW_ok {w : World} (h : GL (CW w)) : Cok (CW w) w := ⟨fun _ _ _ h => h.1, fun _ _ _ h => h.2, h⟩
theorem GL0 {C : CellR} (he : GLe C) (ht : GLt C) : GL C := ⟨he, ht⟩

def OpenN (P : Program) (n : Nat) (t : TypeId) {α : Type} (f : α → List D) (ok : α → Prop) : Prop :=
  ∀ {H : Type} (enc : TypeId × Value → H) (w : World) (base : Nat) (spare : Nat → Bool) (held : Bool) (cs : List Value) (x : DataW H × List MemPlace),
    DataW.trod enc P w base spare held n t cs = some x → w.noneFrozen x.2 → ∃ a : α, RepL (CW w) (f a) cs ∧ (∀ c ∈ cs, c.oneCell' = true) ∧ ok a
def OpenT (P : Program) (t : TypeId) {α : Type} (f : α → List D) (ok : α → Prop) : Prop := ∀ n, OpenN P n t f ok

section
variable {P : Program} {t e : TypeId}
theorem open_arg1 {α : Type} {f : α → List D} {ok : α → Prop} (h : OpenT P t f ok) {H : Type} {enc : TypeId × Value → H} {w : World} {base : Nat} {spare : Nat → Bool} {held : Bool} {v : Value} {d : DataW H} {p : List MemPlace} (hT : DataW.Trod enc P w base spare held t v d p) (hz : w.noneFrozen p) (hv : v.cells.toList = [v]) : ∃ a : α, RepL (CW w) (f a) [v] ∧ ok a := by
  obtain ⟨fuel, hf⟩ := hT
  rw [hv] at hf
  obtain ⟨a, h1, _, h2⟩ := h fuel enc w base spare held _ _ hf hz
  exact ⟨a, h1, h2⟩
theorem repL1 {C : CellR} {x : D} {v : Value} (h : RepL C [x] [v]) : RepD C x v := by
  unfold RepL at h
  obtain ⟨u, us, h1, h2, _⟩ := h
  simp only [List.cons.injEq] at h1
  rw [h1.1]; exact h2
end

theorem AC.law {P : Program} {f : FuncId} {ds : List D} (h : AC P f (ds.map .d) none fun r _ => r = .d (bD true)) {w : World} (hgl : GL (CW w)) {vs : List Value} (hr : RepL (CW w) ds vs) : Calls P f ⟨vs⟩ w fun e w' => e = .returned (.bool true) ∧ Below w.heap.size w w' := by
  refine (h.2 w (CW w) 0 [] vs (CW_ok hgl) (RepL_map (G := argG (CW w) none 0) hr) rfl List.nodup_nil).mono fun e w' ⟨v, r, bx', C', F, F', he, hq, hb, _, _, hfw, _, hz, _, _, _⟩ => ?_
  subst hq
  unfold RepZ RepD at hz
  obtain ⟨_, rfl⟩ := hz
  exact ⟨he, hfw.below fun k _ hk => by simp [XO] at hk⟩
end Go.Proofs.YtnndpimlfibncaaGreatDoor.Eng
namespace Go.Proofs.YtnndpimlfibncaaGreatDoor
open Go.ChangeShapes Go.WideShapes Go.RowKit

theorem et_named : Tryz.prog.globalNamed "errors.errorType" = some 0 := by kernel_rfl
theorem et_rt : (Tryz.prog.cutTypes.find? (·.1 == "internal/reflectlite.rtype")).map (·.2) = some 153 := by kernel_rfl
theorem et_one : ((List.range Tryz.prog.types.size).filter fun t => Tryz.prog.rowNamed t [101, 114, 114, 111, 114]) = [88] := by kernel_rfl

theorem handle_of_laid {W : World} (h : laidMetH Tryz.prog [("errors.errorType", Rows.laid_errors_errorType)] W) : W.cell? ⟨0, 0, none⟩ = some (.iface 153 (.agg #[.pointer (some ⟨Eng.glN, 88, none⟩)])) := by
  have h' : laidMet Tryz.prog [] W ∧ handlesMet Tryz.prog [("errors.errorType", Rows.laid_errors_errorType)] W := h
  obtain ⟨name, u, ty, e1, e2, e3, e4, e5⟩ := h'.2 _ (List.mem_singleton.2 rfl)
  have en : name = [101, 114, 114, 111, 114] := (Option.some.inj e1).symm
  subst en
  obtain rfl := Option.some.inj (et_rt.symm.trans e2)
  have hm : ty ∈ (List.range Tryz.prog.types.size).filter fun t => Tryz.prog.rowNamed t [101, 114, 114, 111, 114] := List.mem_filter.2 ⟨List.mem_range.2 e3, e4⟩
  rw [et_one] at hm
  obtain rfl := List.mem_singleton.1 hm
  have hh : typeHandle Tryz.prog 88 = .pointer (some ⟨Eng.glN, 88, none⟩) := by kernel_rfl
  rw [hh] at e5
  simpa using World.var?_cell et_named e5 0

noncomputable def laidWorld (os : Os) : World :=
  let w0 := World.holding Tryz.prog os ⟨#[], #[], []⟩
  { w0 with heap := w0.heap.modify 0 fun
      | .cells _ t frozen => .cells #[.iface 153 (.agg #[.pointer (some ⟨Eng.glN, 88, none⟩)])] t frozen
      | o => o }
theorem laidWorld_met (os : Os) (args : Array Value) : laidMetH Tryz.prog [("errors.errorType", Rows.laid_errors_errorType)] ((laidWorld os).forCall (fun _ _ => 0) ⟨#[], args, []⟩).memory :=
  laidMetH_of_parts (laidMet_nil _ _) (by kernel_rfl)
end Go.Proofs.YtnndpimlfibncaaGreatDoor
