/-
  The statement FnExactMissingAtLeast holds: the program's MissingAtLeast returns what the reference's returns, for all arguments; each argument reads afterwards as before. Condition: impl.errTruncated holds what the program's text lays (tied).
-/
import Derived.Test.YtlcnmoolicfinaaGreatDoorCards
import Derived.Test.YtlcnmoolicfinaaGreatDoorTie
import Derived.ProofKit
import Derived.OpenShut
import Derived.ShutString
import Derived.ChangeOld
import Derived.Test.YtlcnmoolicfinaaGreatDoorKLW19
import Derived.Test.YtlcnmoolicfinaaGreatDoorKRT
set_option linter.unusedSimpArgs false
set_option linter.unusedVariables false
set_option linter.defProp false
set_option maxRecDepth 100000
set_option maxHeartbeats 4000000
namespace Go.Proofs.YtlcnmoolicfinaaGreatDoor
open Go.ChangeShapes Go.WideShapes Go.ChangeAt Go.RowKit
open Go.ChangeMaps (open_string shut_string)
set_option linter.unusedVariables false

set_option maxRecDepth 100000 in
theorem fnExactMissingAtLeast_lifted (os : Os) (started : os.Started) (H : Type) (enc : TypeId × Value → H) :
    ReturnsInHanded {} Tryz.checked os 3 .any (fun w args => (Rows.fnExactMissingAtLeastSpec.pre enc Tryz.prog Tryz.f3 [] false w args ∧ laidMetH Tryz.prog Rows.fnExactMissingAtLeastRow.laid w) ∧ sizedMet enc Tryz.prog Tryz.f3 (OpenSpec.ofChange Rows.fnExactMissingAtLeastSpec) false w args) (Rows.fnExactMissingAtLeastSpec.post enc Tryz.prog Tryz.f3 false true false false) := by
  refine returnsInHanded_of_change_and (C := Tryz.checked) (X := fun w _ => laidMetH Tryz.prog Rows.fnExactMissingAtLeastRow.laid w) (fun _ _ _ hh h => h.of_heap hh) Eng.own started (by kernel_rfl) Tryz.func3
    (ChangeSpec.witness_at (enc := enc) (C := Tryz.checked) (os := os) (X := fun w _ => laidMetH Tryz.prog Rows.fnExactMissingAtLeastRow.laid w) false (laidWorld os) #[.agg #[.slice none 0 0], .slice none 0 0] 8 rfl (by kernel_rfl) (by kernel_rfl) (by kernel_rfl) (by kernel_rfl) (by kernel_rfl) (laidWorld_met os _)) ?_
  intro W base args ds gs before hval0 hW _ _ hL _
  have hval : ∀ (j : Nat) t v, Tryz.f3.params[j]? = some t → args[j]? = some v → Value.okWide Tryz.prog W .any base t v := hval0
  have hW' := hW
  obtain ⟨p, q, hA0, hV, rfl, hfz, hnd⟩ := hW
  have hA : DataW.TrodAll enc Tryz.prog W 0 (fun _ => true) true Tryz.f3.params.toList args.toList ds p := hA0
  rw [Tryz.params3] at hA hval
  obtain ⟨v0, vs0, d0, ds0, p0, q0, hargs, rfl, rfl, h0, r0⟩ := trodAll_cons hA
  obtain ⟨v1, vs1, d1, ds1, p1, q1, rfl, rfl, rfl, h1, r1⟩ := trodAll_cons r0
  obtain ⟨rfl, rfl, rfl⟩ := trodAll_nil r1
  obtain rfl : args = #[v0, v1] := by cases args; simp_all
  obtain ⟨aT, hvT, hcT⟩ := trunc_of_laid hL
  have vr : ∀ {X : World}, X.var? Tryz.prog "loop.example/g00518/impl.errTruncated" = some #[.iface 130 (.pointer (some aT))] → ∀ sp : Nat → Bool, DataW.TrodVars enc Tryz.prog X sp ["loop.example/g00518/impl.errTruncated"] [tok enc (.iface 130 (.pointer (some aT)))] [.cell 0 0] := fun x0 sp => vars_read1 enc tr_named tr_type Tryz.underlying56 x0 trivial sp
  have hV9 : DataW.TrodVars enc Tryz.prog W (fun _ => true) ["loop.example/g00518/impl.errTruncated"] gs q := hV
  obtain ⟨rfl, rfl⟩ := hV9.unique (vr hvT _)
  obtain ⟨c0, rfl, _⟩ := okWide_struct Tryz.underlying24 (hval 0 24 v0 rfl rfl)
  have lt0 : ∀ x ∈ p0, x.block < W.heap.size := by obtain ⟨m, hm⟩ := h0; exact DataW.trod_lt m _ _ _ hm
  have z0 : W.noneFrozen p0 := fun b o h => hfz b o (by simp [h])
  obtain ⟨a0, m0, k0⟩ := Eng.open_argS Eng.open_D h0 z0
  obtain ⟨c1, _, _, rfl⟩ := okWide_slice Tryz.underlying25 (hval 1 25 v1 rfl rfl)
  have lt1 : ∀ x ∈ p1, x.block < W.heap.size := by obtain ⟨m, hm⟩ := h1; exact DataW.trod_lt m _ _ _ hm
  have z1 : W.noneFrozen p1 := fun b o h => hfz b o (by simp [h])
  obtain ⟨a1, m1, k1⟩ := Eng.open_arg1 (Eng.open_B) h1 z1 rfl
  clear hA0 hval0
  refine (Eng.AC.law (ds := [Eng.encD a0, Eng.encB a1]) (Eng.lawMissingAtLeast_c (D := a0) k0.1 (b := a1) k1.1) (Eng.GL0 trivial ⟨aT, ⟨hcT, rfl⟩, fun h => absurd (Or.inr rfl) h⟩) (Eng.repL_cons m0 (Eng.repL_cons (Eng.repL1 m1) Eng.repL_nil))).mono fun e W' ⟨he, bel⟩ => ?_
  subst he
  exact ⟨_, rfl, _, _, _, [], _, [.cell 0 0], hW', trodAll_mk1 (shut_bool Tryz.underlying4 _), (trodAll_cons_mk (Below.trod Eng.laidOut (by kernel_rfl) (of_decide_eq_true (by kernel_rfl)) h0 bel lt0) (trodAll_cons_mk (Below.trod Eng.laidOut (by kernel_rfl) (of_decide_eq_true (by kernel_rfl)) h1 bel lt1) trodAll_mk0)), vr ((var_below bel (Eng.cell_lt hcT)).trans hvT) _, bel.frame _, fun h => by cases h⟩
theorem fnExactMissingAtLeast_may : Tryz.prog.mayEnter = true := by kernel_rfl
theorem fnExactMissingAtLeast_lift : (Rows.fnExactMissingAtLeastRow.lifted == Tryz.prog.liftsFinal) = true := by kernel_rfl
theorem fnExactMissingAtLeast_make : (Tryz.prog.make == some Rows.fnExactMissingAtLeastRow.make) = true := by kernel_rfl
set_option maxRecDepth 100000 in
theorem fnExactMissingAtLeast_closed : joinedFacts Tryz.prog 3 Tryz.f3 Rows.fnExactMissingAtLeastSpec Rows.fnExactMissingAtLeastRow = true := by
  unfold joinedFacts
  rw [fnExactMissingAtLeast_may, fnExactMissingAtLeast_lift, fnExactMissingAtLeast_make]
  kernel_rfl
theorem fnExactMissingAtLeast_over : Rows.fnExactMissingAtLeastRow.holds Tryz.pinned (OpenSpec.ofChange Rows.fnExactMissingAtLeastSpec) :=
  OpenClaim.holds_of_wide 3 Tryz.f3 rfl rfl rfl rfl rfl rfl rfl ⟨rfl, rfl, rfl, rfl, rfl⟩ rfl rfl rfl rfl rfl (by kernel_rfl) Tryz.func3 fnExactMissingAtLeast_closed
    (of_decide_eq_true (by kernel_rfl)) (by unfold Func.isWrapper; first | (rw [if_pos (by decide +kernel)]; kernel_rfl) | (rw [if_neg (by decide +kernel)]; exact ⟨rfl, rfl⟩))
    (fun os started H enc _ => fnExactMissingAtLeast_lifted os started H enc)
theorem fnExactMissingAtLeast_card : Rows.FnExactMissingAtLeastCardSaid :=
  Claim7.holds_tied_plain_at .later [] [.sentinel] true (true, "3f0ad3365d20dd5fd50b47ea2b3e1e4769f20b59c94b452e57b1a0cb16294e7b") true
    fnExactMissingAtLeast_over (fun _ h => by cases h) (by kernel_rfl) (fun _ h => by cases h) fnExactMissingAtLeast_row_tie rfl ⟨rfl, rfl⟩ (by kernel_rfl) rfl
    (fun f fn hf hfn => by
      obtain rfl : f = 3 := Option.some.inj ((show Tryz.prog.funcNamed "loop.example/g00518/laws.FnExactMissingAtLeast" = some 3 by kernel_rfl).symm.trans hf) |>.symm
      obtain rfl : fn = Tryz.f3 := (Option.some.inj (Tryz.func3.symm.trans hfn)).symm
      exact ⟨by kernel_rfl, fun j t ht => by
        rw [Tryz.params3] at ht
        have hm : t ∈ [24, 25] := by
          have := Array.mem_of_getElem? ht
          simpa using this
        simp only [List.mem_cons, List.not_mem_nil, or_false] at hm
        rcases hm with rfl | rfl
        · exact (show Tryz.prog.wantsStandIn 24 = false by kernel_rfl)
        · exact (show Tryz.prog.wantsStandIn 25 = false by kernel_rfl)⟩)
    (by kernel_rfl)
#print axioms fnExactMissingAtLeast_card
end Go.Proofs.YtlcnmoolicfinaaGreatDoor
