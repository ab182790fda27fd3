/-
 The statement FnExactReadFile holds: the program's ReadFile returns what the reference's returns, for all arguments; each argument reads afterwards as before. Condition: errors.errorType holds what the program's text lays (tied).
-/
import Derived.Test.YtomfggmmhkpeeaaGreatDoorCards
import Derived.Test.YtomfggmmhkpeeaaGreatDoorTie
import Derived.ProofKit
import Derived.OpenShut
import Derived.ShutString
import Derived.ChangeOld
import Derived.Test.YtomfggmmhkpeeaaGreatDoorKLRF
import Derived.Test.YtomfggmmhkpeeaaGreatDoorKR
set_option linter.unusedSimpArgs false
set_option linter.unusedVariables false
set_option linter.defProp false
set_option maxRecDepth 100000
set_option maxHeartbeats 4000000
namespace Go.Proofs.YtomfggmmhkpeeaaGreatDoor
open Go.ChangeShapes Go.WideShapes Go.ChangeAt Go.RowKit
open Go.ChangeMaps (open_string shut_string)
set_option linter.unusedVariables false

set_option maxRecDepth 100000 in
theorem fnExactReadFile_lifted (os:Os) (started:os.Started) (H:Type) (enc:TypeId × Value→H) :
  ReturnsInHanded {} Tryz.checked os 4 .any (fun w args=>(Rows.fnExactReadFileSpec.pre enc Tryz.prog Tryz.f4 [] false w args∧laidMetH Tryz.prog Rows.fnExactReadFileRow.laid w)∧sizedMet enc Tryz.prog Tryz.f4 (OpenSpec.ofChange Rows.fnExactReadFileSpec) false w args) (Rows.fnExactReadFileSpec.post enc Tryz.prog Tryz.f4 false true false false):=by
 refine returnsInHanded_of_change_and (C:=Tryz.checked) (X:=fun w _=>laidMetH Tryz.prog Rows.fnExactReadFileRow.laid w) (fun _ _ _ hh h=>h.of_heap hh) Eng.own started (by kernel_rfl) Tryz.func4
  (ChangeSpec.witness_at (enc:=enc) (C:=Tryz.checked) (os:=os) (X:=fun w _=>laidMetH Tryz.prog Rows.fnExactReadFileRow.laid w) false (laidWorld os) #[.agg #[.slice none 0 0],.slice none 0 0] 8 rfl (by kernel_rfl) (by kernel_rfl) (by kernel_rfl) (by kernel_rfl) (by kernel_rfl) (laidWorld_met os _)) ?_
 intro W base args ds gs before hval0 hW _ _ hL _
 have hval:∀ (j:Nat) t v,Tryz.f4.params[j]?=some t→args[j]?=some v→Value.okWide Tryz.prog W .any base t v:=hval0
 have hW':=hW
 obtain ⟨p,q,hA0,hV,rfl,hfz,hnd⟩:=hW
 have hA:DataW.TrodAll enc Tryz.prog W 0 (fun _=>true) true Tryz.f4.params.toList args.toList ds p:=hA0
 rw [Tryz.params4] at hA hval
 obtain ⟨v0,vs0,d0,ds0,p0,q0,hargs,rfl,rfl,h0,r0⟩:=trodAll_cons hA
 obtain ⟨v1,vs1,d1,ds1,p1,q1,rfl,rfl,rfl,h1,r1⟩:=trodAll_cons r0
 obtain ⟨rfl,rfl,rfl⟩:=trodAll_nil r1
 obtain rfl:args=#[v0,v1]:=by cases args;simp_all
 obtain ⟨rfl,rfl⟩:=trodVars_none hV
 obtain ⟨c0,rfl,_⟩:=okWide_struct Tryz.underlying24 (hval 0 24 v0 rfl rfl)
 have lt0:∀ x∈p0,x.block<W.heap.size:=by obtain ⟨m,hm⟩:=h0;exact DataW.trod_lt m _ _ _ hm
 have z0:W.noneFrozen p0:=fun b o h=>hfz b o (by simp [h])
 obtain ⟨a0,m0,k0⟩:=Eng.open_argS Eng.open_D h0 z0
 obtain ⟨c1,_,_,rfl⟩:=okWide_slice Tryz.underlying25 (hval 1 25 v1 rfl rfl)
 have lt1:∀ x∈p1,x.block<W.heap.size:=by obtain ⟨m,hm⟩:=h1;exact DataW.trod_lt m _ _ _ hm
 have z1:W.noneFrozen p1:=fun b o h=>hfz b o (by simp [h])
 obtain ⟨a1,m1,k1⟩:=Eng.open_arg1 (Eng.open_B) h1 z1 rfl
 clear hA0 hval0
 refine (Eng.AC.law (ds:=[Eng.encD a0,Eng.encB a1]) (Eng.lawReadFile_c (D:=a0) k0.1 (b:=a1) k1.1) (Eng.GL0 ⟨⟨handle_of_laid hL,rfl⟩,fun h=>absurd (Or.inl rfl) h⟩ trivial) (Eng.repL_cons m0 (Eng.repL_cons (Eng.repL1 m1) Eng.repL_nil))).mono fun e W' ⟨he,bel⟩=>?_
 subst he
 exact ⟨_,rfl,_,_,_,[],_,[],hW',trodAll_mk1 (shut_bool Tryz.underlying4 _),(trodAll_cons_mk (Below.trod Eng.laidOut (by kernel_rfl) (of_decide_eq_true (by kernel_rfl)) h0 bel lt0) (trodAll_cons_mk (Below.trod Eng.laidOut (by kernel_rfl) (of_decide_eq_true (by kernel_rfl)) h1 bel lt1) trodAll_mk0)),rfl,bel.frame _,fun h=>by cases h⟩
theorem fnExactReadFile_may:Tryz.prog.mayEnter=true:=by kernel_rfl
theorem fnExactReadFile_lift:(Rows.fnExactReadFileRow.lifted==Tryz.prog.liftsFinal)=true:=by kernel_rfl
theorem fnExactReadFile_make:(Tryz.prog.make==some Rows.fnExactReadFileRow.make)=true:=by kernel_rfl
set_option maxRecDepth 100000 in
theorem fnExactReadFile_closed:joinedFacts Tryz.prog 4 Tryz.f4 Rows.fnExactReadFileSpec Rows.fnExactReadFileRow=true:=by
 unfold joinedFacts
 rw [fnExactReadFile_may,fnExactReadFile_lift,fnExactReadFile_make]
 kernel_rfl
theorem fnExactReadFile_over:Rows.fnExactReadFileRow.holds Tryz.pinned (OpenSpec.ofChange Rows.fnExactReadFileSpec):=
 OpenClaim.holds_of_wide 4 Tryz.f4 rfl rfl rfl rfl rfl rfl rfl ⟨rfl,rfl,rfl,rfl,rfl⟩ rfl rfl rfl rfl rfl (by kernel_rfl) Tryz.func4 fnExactReadFile_closed
  (of_decide_eq_true (by kernel_rfl)) (by unfold Func.isWrapper;first|(rw [if_pos (by decide +kernel)];kernel_rfl)|(rw [if_neg (by decide +kernel)];exact ⟨rfl,rfl⟩))
  (fun os started H enc _=>fnExactReadFile_lifted os started H enc)
theorem fnExactReadFile_card:Rows.FnExactReadFileCardSaid:=
 Claim7.holds_tied_plain_at .later [] [.handle] true (true, "a049cafa66899a98fcba7bfb45fcadba79b8f4dfec57a224262c7e6d59e210d3") true
  fnExactReadFile_over (fun _ h=>by cases h) (by kernel_rfl) (fun _ h=>by cases h) fnExactReadFile_row_tie rfl ⟨rfl,rfl⟩ (by kernel_rfl) rfl
  (fun f fn hf hfn=>by
   obtain rfl : f = 4 := Option.some.inj ((show Tryz.prog.funcNamed "loop.example/g00518/laws.FnExactReadFile" = some 4 by kernel_rfl).symm.trans hf) |>.symm
   obtain rfl:fn=Tryz.f4:=(Option.some.inj (Tryz.func4.symm.trans hfn)).symm
   exact ⟨by kernel_rfl,fun j t ht=>by
    rw [Tryz.params4] at ht
    have hm:t∈[24,25]:=by
     have:=Array.mem_of_getElem? ht
     simpa using this
    simp only [List.mem_cons,List.not_mem_nil,or_false] at hm
    rcases hm with rfl|rfl
    ·exact (show Tryz.prog.wantsStandIn 24=false by kernel_rfl)
    ·exact (show Tryz.prog.wantsStandIn 25=false by kernel_rfl)⟩)
  (by kernel_rfl)
#print axioms fnExactReadFile_card
end Go.Proofs.YtomfggmmhkpeeaaGreatDoor
