/-
 The statement FnLengthRepairs holds.
-/
import Derived.Test.YtndnefealooolaaGreatDoorCards
import Derived.Test.YtndnefealooolaaGreatDoorTie
import Derived.ProofKit
import Derived.OpenShut
import Derived.ShutString
import Derived.ChangeOld
import Derived.Test.YtndnefealooolaaGreatDoorKLLR
import Derived.Test.YtndnefealooolaaGreatDoorKREF
set_option linter.unusedSimpArgs false
set_option linter.unusedVariables false
set_option linter.defProp false
set_option maxRecDepth 100000
set_option maxHeartbeats 4000000
namespace Go.Proofs.YtndnefealooolaaGreatDoor
open Go.ChangeShapes Go.WideShapes Go.ChangeAt Go.RowKit
open Go.ChangeMaps (open_string shut_string)
set_option linter.unusedVariables false

set_option maxRecDepth 100000 in
theorem fnLengthRepairs_lifted (os:Os) (started:os.Started) (H:Type) (enc:TypeId × Value→H) :
  ReturnsInHanded {} Tryz.checked os 6 .any (fun w args=>(Rows.fnLengthRepairsSpec.pre enc Tryz.prog Tryz.f6 [] false w args∧laidMetH Tryz.prog Rows.fnLengthRepairsRow.laid w)∧sizedMet enc Tryz.prog Tryz.f6 (OpenSpec.ofChange Rows.fnLengthRepairsSpec) false w args) (Rows.fnLengthRepairsSpec.post enc Tryz.prog Tryz.f6 false true false false):=by
 refine returnsInHanded_of_change_and (C:=Tryz.checked) (X:=fun w _=>laidMetH Tryz.prog Rows.fnLengthRepairsRow.laid w) (fun _ _ _ hh h=>h.of_heap hh) Eng.own started (by kernel_rfl) Tryz.func6
  (ChangeSpec.witness_at (enc:=enc) (C:=Tryz.checked) (os:=os) (X:=fun w _=>laidMetH Tryz.prog Rows.fnLengthRepairsRow.laid w) false (laidWorld4 os) #[.slice none 0 0] 8 rfl (by kernel_rfl) (by kernel_rfl) (by kernel_rfl) (by kernel_rfl) (by kernel_rfl) (laidWorld4_met os _)) ?_
 intro W base args ds gs before hval0 hW _ _ hL _
 have hval:∀ (j:Nat) t v,Tryz.f6.params[j]?=some t→args[j]?=some v→Value.okWide Tryz.prog W .any base t v:=hval0
 have hW':=hW
 obtain ⟨p,q,hA0,hV,rfl,hfz,hnd⟩:=hW
 have hA:DataW.TrodAll enc Tryz.prog W 0 (fun _=>true) true Tryz.f6.params.toList args.toList ds p:=hA0
 rw [Tryz.params6] at hA hval
 obtain ⟨v0,vs0,d0,ds0,p0,q0,hargs,rfl,rfl,h0,r0⟩:=trodAll_cons hA
 obtain ⟨rfl,rfl,rfl⟩:=trodAll_nil r0
 obtain rfl:args=#[v0]:=by cases args;simp_all
 obtain ⟨rfl,rfl⟩:=trodVars_none hV
 obtain ⟨c0,_,_,rfl⟩:=okWide_slice Tryz.underlying22 (hval 0 22 v0 rfl rfl)
 have lt0:∀ x∈p0,x.block<W.heap.size:=by obtain ⟨m,hm⟩:=h0;exact DataW.trod_lt m _ _ _ hm
 have z0:W.noneFrozen p0:=fun b o h=>hfz b o (by simp [h])
 obtain ⟨a0,m0,k0⟩:=Eng.open_arg1 (Eng.open_B) h0 z0 rfl
 clear hA0 hval0
 refine (Eng.AC.law (ds:=[Eng.encB a0]) (Eng.lawLengthRepairs_c a0) (Eng.GL0 ⟨⟨handle_of_laid4 hL,rfl⟩,fun h=>absurd (Or.inl rfl) h⟩ trivial (tab_of_laid4 hL)) (Eng.repL_cons (Eng.repL1 m0) Eng.repL_nil)).mono fun e W' ⟨he,bel⟩=>?_
 subst he
 exact ⟨_,rfl,_,_,_,[],_,[],hW',trodAll_mk1 (shut_bool Tryz.underlying4 _),(trodAll_cons_mk (Below.trod Eng.laidOut (by kernel_rfl) (of_decide_eq_true (by kernel_rfl)) h0 bel lt0) trodAll_mk0),rfl,bel.frame _,fun h=>by cases h⟩
theorem fnLengthRepairs_may:Tryz.prog.mayEnter=true:=by kernel_rfl
theorem fnLengthRepairs_lift:(Rows.fnLengthRepairsRow.lifted==Tryz.prog.liftsFinal)=true:=by kernel_rfl
theorem fnLengthRepairs_make:(Tryz.prog.make==some Rows.fnLengthRepairsRow.make)=true:=by kernel_rfl
set_option maxRecDepth 100000 in
theorem fnLengthRepairs_closed:joinedFacts Tryz.prog 6 Tryz.f6 Rows.fnLengthRepairsSpec Rows.fnLengthRepairsRow=true:=by
 unfold joinedFacts
 rw [fnLengthRepairs_may,fnLengthRepairs_lift,fnLengthRepairs_make]
 kernel_rfl
theorem fnLengthRepairs_over:Rows.fnLengthRepairsRow.holds Tryz.pinned (OpenSpec.ofChange Rows.fnLengthRepairsSpec):=
 OpenClaim.holds_of_wide 6 Tryz.f6 rfl rfl rfl rfl rfl rfl rfl ⟨rfl,rfl,rfl,rfl,rfl⟩ rfl rfl rfl rfl rfl (by kernel_rfl) Tryz.func6 fnLengthRepairs_closed
  (of_decide_eq_true (by kernel_rfl)) (by unfold Func.isWrapper;first|(rw [if_pos (by decide +kernel)];kernel_rfl)|(rw [if_neg (by decide +kernel)];exact ⟨rfl,rfl⟩))
  (fun os started H enc _=>fnLengthRepairs_lifted os started H enc)
theorem fnLengthRepairs_card:Rows.FnLengthRepairsCardSaid:=
 Claim7.holds_tied_plain_at .later [] [.data, .data, .data, .handle] true (true, "fb1e32c181ddb892b0e96edca2aab0582375797f79ef4aab78b9f67b495fc06e") true
  fnLengthRepairs_over (fun _ h=>by cases h) (by kernel_rfl) (fun _ h=>by cases h) fnLengthRepairs_row_tie rfl ⟨rfl,rfl⟩ (by kernel_rfl) rfl
  (fun f fn hf hfn=>by
   obtain rfl : f = 6 := Option.some.inj ((show Tryz.prog.funcNamed "loop.example/g00518/laws.FnLengthRepairs" = some 6 by kernel_rfl).symm.trans hf) |>.symm
   obtain rfl:fn=Tryz.f6:=(Option.some.inj (Tryz.func6.symm.trans hfn)).symm
   exact ⟨by kernel_rfl,fun j t ht=>by
    rw [Tryz.params6] at ht
    have hm:t∈[22]:=by
     have:=Array.mem_of_getElem? ht
     simpa using this
    simp only [List.mem_cons,List.not_mem_nil,or_false] at hm
    rcases hm with rfl
    ·exact (show Tryz.prog.wantsStandIn 22=false by kernel_rfl)⟩)
  (by kernel_rfl)
#print axioms fnLengthRepairs_card
end Go.Proofs.YtndnefealooolaaGreatDoor
