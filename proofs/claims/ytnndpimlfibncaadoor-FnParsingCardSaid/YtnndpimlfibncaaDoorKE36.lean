/-
  The engine, part 36: copying into a row that is ours.
-/
import Derived.Test.YtnndpimlfibncaaDoorKE4
import Derived.Laws.IdiomCopy
set_option linter.unusedSimpArgs false
set_option linter.unusedVariables false
set_option linter.defProp false
set_option maxRecDepth 100000
set_option maxHeartbeats 4000000
namespace Go.Proofs.YtnndpimlfibncaaDoor.Eng
open Go Go.RowKit

section
variable {P : Program} {en : En} {ops : Array Oper} {o : Oper} {l : List Oper} {K : St → Prop} {s : St}
end
theorem wkD_own1 (z k : Nat) (e : TypeId) (c : List D) : wkD (.sl z [c]) (.own k e z [c]) = True := eq_true (by unfold wkD; exact .inr ⟨_, _, _, rfl, dleLL_refl _⟩)
theorem wkDS2 {p : Prop} (h : p := by first | exact wkD_self _ | (simp (decide := true) only [wkD_own1, wkD_selfT, wkD_ownB, wkD_ownB0, wkD_ownV0, wkD_nilB, wkD_ownV, wkD_nilV, wkD_agg, wkD_tup, wkDL_nil, wkDL_cons, encVs_append, encVs_one, encVs_nil, encV_mk, V0, dle_agg, dle_tup, dleL_nil, dleL_cons, dle_nil, dle_nilB, wkD_tupd, wkD_aggd, dle_selfT, and_true, true_and, List.map_cons, List.map_nil])) : p := h
end Go.Proofs.YtnndpimlfibncaaDoor.Eng
