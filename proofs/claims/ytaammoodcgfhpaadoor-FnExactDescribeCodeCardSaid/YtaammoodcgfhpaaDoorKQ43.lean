/-
 The statement FnExactDescribeCode holds: the program's DescribeCode returns what the reference's returns, for all arguments; each argument reads afterwards as before. No condition.
-/
import Derived.Test.YtaammoodcgfhpaaDoorCards
import Derived.Test.YtaammoodcgfhpaaDoorTie
import Derived.ProofKit
import Derived.OpenShut
import Derived.ShutString
import Derived.ChangeOld
import Derived.Test.YtaammoodcgfhpaaDoorKLDC
import Derived.Test.YtaammoodcgfhpaaDoorKREH
set_option linter.unusedSimpArgs false
set_option linter.unusedVariables false
set_option linter.defProp false
set_option maxRecDepth 100000
set_option maxHeartbeats 4000000
namespace Go.Proofs.YtaammoodcgfhpaaDoor
open Go.ChangeShapes Go.WideShapes Go.ChangeAt Go.RowKit
open Go.ChangeMaps (open_string shut_string)
set_option linter.unusedVariables false

set_option maxRecDepth 100000 in
theorem fnExactDescribeCode_lifted (os:Os) (started:os.Started) (H:Type) (enc:TypeId × Value→H) :
  ReturnsInHanded {} Tryd.checked os 3 .any (fun w args=>(Rows.fnExactDescribeCodeSpec.pre enc Tryd.prog Tryd.f3 [] false w args∧laidMetH Tryd.prog Rows.fnExactDescribeCodeRow.laid w)∧sizedMet enc Tryd.prog Tryd.f3 (OpenSpec.ofChange Rows.fnExactDescribeCodeSpec) false w args) (Rows.fnExactDescribeCodeSpec.post enc Tryd.prog Tryd.f3 false true false false):=by
 refine returnsInHanded_of_change_and (C:=Tryd.checked) (X:=fun w _=>laidMetH Tryd.prog Rows.fnExactDescribeCodeRow.laid w) (fun _ _ _ hh h=>h.of_heap hh) Eng.own started (by kernel_rfl) Tryd.func3
  (ChangeSpec.witness_at (enc:=enc) (C:=Tryd.checked) (os:=os) (X:=fun w _=>laidMetH Tryd.prog Rows.fnExactDescribeCodeRow.laid w) false (laidWorld3 os) #[.agg #[.slice none 0 0]] 8 rfl (by kernel_rfl) (by kernel_rfl) (by kernel_rfl) (by kernel_rfl) (by kernel_rfl) (laidWorld3_met os _)) ?_
 intro W base args ds gs before hval0 hW _ _ hL _
 have hval:∀ (j:Nat) t v,Tryd.f3.params[j]?=some t→args[j]?=some v→Value.okWide Tryd.prog W .any base t v:=hval0
 have hW':=hW
 obtain ⟨p,q,hA0,hV,rfl,hfz,hnd⟩:=hW
 have hA:DataW.TrodAll enc Tryd.prog W 0 (fun _=>true) true Tryd.f3.params.toList args.toList ds p:=hA0
 rw [Tryd.params3] at hA hval
 obtain ⟨v0,vs0,d0,ds0,p0,q0,hargs,rfl,rfl,h0,r0⟩:=trodAll_cons hA
 obtain ⟨rfl,rfl,rfl⟩:=trodAll_nil r0
 obtain rfl:args=#[v0]:=by cases args;simp_all
 obtain ⟨rfl,rfl⟩:=trodVars_none hV
 obtain ⟨c0,rfl,_⟩:=okWide_struct Tryd.underlying24 (hval 0 24 v0 rfl rfl)
 have lt0:∀ x∈p0,x.block<W.heap.size:=by obtain ⟨m,hm⟩:=h0;exact DataW.trod_lt m _ _ _ hm
 have z0:W.noneFrozen p0:=fun b o h=>hfz b o (by simp [h])
 obtain ⟨a0,m0,k0⟩:=Eng.open_argS Eng.open_D h0 z0
 clear hA0 hval0
 refine (Eng.AC.law (ds:=[Eng.encD a0]) (Eng.lawCode_c (D:=a0) k0.1) (Eng.GL0 trivial trivial (tab_of_laid3 hL)) (Eng.repL_cons m0 Eng.repL_nil)).mono fun e W' ⟨he,bel⟩=>?_
 subst he
 exact ⟨_,rfl,_,_,_,[],_,[],hW',trodAll_mk1 (shut_bool Tryd.underlying4 _),(trodAll_cons_mk (Below.trod Eng.laidOut (by kernel_rfl) (of_decide_eq_true (by kernel_rfl)) h0 bel lt0) trodAll_mk0),rfl,bel.frame _,fun h=>by cases h⟩
theorem fnExactDescribeCode_may:Tryd.prog.mayEnter=true:=by kernel_rfl
theorem fnExactDescribeCode_lift:(Rows.fnExactDescribeCodeRow.lifted==Tryd.prog.liftsFinal)=true:=by kernel_rfl
theorem fnExactDescribeCode_make:(Tryd.prog.make==some Rows.fnExactDescribeCodeRow.make)=true:=by kernel_rfl
set_option maxRecDepth 100000 in
theorem fnExactDescribeCode_closed:joinedFacts Tryd.prog 3 Tryd.f3 Rows.fnExactDescribeCodeSpec Rows.fnExactDescribeCodeRow=true:=by
 unfold joinedFacts
 rw [fnExactDescribeCode_may,fnExactDescribeCode_lift,fnExactDescribeCode_make]
 kernel_rfl
theorem fnExactDescribeCode_over:Rows.fnExactDescribeCodeRow.holds Tryd.pinned (OpenSpec.ofChange Rows.fnExactDescribeCodeSpec):=
 OpenClaim.holds_of_wide 3 Tryd.f3 rfl rfl rfl rfl rfl rfl rfl ⟨rfl,rfl,rfl,rfl,rfl⟩ rfl rfl rfl rfl rfl (by kernel_rfl) Tryd.func3 fnExactDescribeCode_closed
  (of_decide_eq_true (by kernel_rfl)) (by unfold Func.isWrapper;first|(rw [if_pos (by decide +kernel)];kernel_rfl)|(rw [if_neg (by decide +kernel)];exact ⟨rfl,rfl⟩))
  (fun os started H enc _=>fnExactDescribeCode_lifted os started H enc)
theorem fnExactDescribeCode_card:Rows.FnExactDescribeCodeCardSaid:=
 Claim7.holds_tied_plain_at .later [] [.data, .data, .data] true (true, "a94c874591ac91ce63328227ca9da6491fd858e9b2dca36b7dd33c52d521b105") false
  fnExactDescribeCode_over (fun _ h=>by cases h) (by kernel_rfl) (fun _ h=>by cases h) fnExactDescribeCode_row_tie rfl ⟨rfl,rfl⟩ (by kernel_rfl) rfl
  (fun f fn hf hfn=>by
   obtain rfl : f = 3 := Option.some.inj ((show Tryd.prog.funcNamed "loop.example/g00518/laws.FnExactDescribeCode" = some 3 by kernel_rfl).symm.trans hf) |>.symm
   obtain rfl:fn=Tryd.f3:=(Option.some.inj (Tryd.func3.symm.trans hfn)).symm
   exact ⟨by kernel_rfl,fun j t ht=>by
    rw [Tryd.params3] at ht
    have hm:t∈[24]:=by
     have:=Array.mem_of_getElem? ht
     simpa using this
    simp only [List.mem_cons,List.not_mem_nil,or_false] at hm
    rcases hm with rfl
    ·exact (show Tryd.prog.wantsStandIn 24=false by kernel_rfl)⟩)
  (by kernel_rfl)
#print axioms fnExactDescribeCode_card
end Go.Proofs.YtaammoodcgfhpaaDoor
