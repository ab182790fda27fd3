/-
  errors.Is in the engine: at nil and at a *truncation.
-/
import Derived.Test.YtlcnmoolicfinaaGreatDoorKN0
import Derived.Test.YtlcnmoolicfinaaGreatDoorKIS
set_option linter.unusedSimpArgs false
set_option linter.unusedVariables false
set_option linter.defProp false
set_option maxRecDepth 100000
set_option maxHeartbeats 4000000
namespace Go.Proofs.YtlcnmoolicfinaaGreatDoor.Eng
open Go Go.RowKit
theorem gl_val {C : CellR} {w : World} (h : Cok C w) {u : Value} (hu : C 0 0 u) : ∃ b, u = .iface 130 (.pointer (some b)) := by
  obtain ⟨b, hb⟩ := h.gl.t
  have h1 := (h.cell _ _ _ hu).1
  rw [(h.cell _ _ _ hb).1] at h1
  exact ⟨b, (Option.some.inj h1).symm⟩
theorem is_nil_c : AC Tryz.prog 27 [.d (.v .nilIface), .d (.gl 0)] none fun r _ => r = .d (bD false) :=
  .of_flat Tryz.call27 fun w C vs hC hr => by
    unfold RepAL at hr
    obtain ⟨u, us, rfl, h1, hr⟩ := hr
    unfold RepAL at hr
    obtain ⟨u2, us2, rfl, h2, hr⟩ := hr
    unfold RepAL at hr
    subst hr
    unfold RepA RepD at h1 h2
    subst h1
    obtain ⟨b, rfl⟩ := gl_val hC h2
    refine (is_nil b w).mono fun e w' ⟨g1, g2⟩ => ?_
    subst g2
    exact ⟨g1, Below.refl _ _⟩
theorem is_trunc_c (cs : List D) : AC Tryz.prog 27 [.d (.ifc 81 (.rp cs)), .d (.gl 0)] none fun r _ => r = .d (bD true) :=
  .of_flat Tryz.call27 fun w C vs hC hr => by
    unfold RepAL at hr
    obtain ⟨u, us, rfl, h1, hr⟩ := hr
    unfold RepAL at hr
    obtain ⟨u2, us2, rfl, h2, hr⟩ := hr
    unfold RepAL at hr
    subst hr
    unfold RepA RepD at h1 h2
    obtain ⟨y, rfl, hy⟩ := h1
    unfold RepD at hy
    obtain ⟨p, o, rfl, _⟩ := hy
    obtain ⟨b, rfl⟩ := gl_val hC h2
    refine (is_trunc _ b w (hC.cell _ _ _ h2).1).mono fun e w' ⟨g1, g2⟩ => ?_
    subst g2
    exact ⟨g1, Below.refl _ _⟩
end Go.Proofs.YtlcnmoolicfinaaGreatDoor.Eng
