/-
 The statement FnExactReadValue holds: the program's ReadValue returns what the reference's returns, for all arguments; each argument reads afterwards as before. Condition: errors.errorType holds what the program's text lays (tied).
-/
import Derived.Test.YtomfggmmhkpeeaaGreatDoorCards
import Derived.Test.YtomfggmmhkpeeaaGreatDoorTie
import Derived.ProofKit
import Derived.OpenShut
import Derived.ShutString
import Derived.ChangeOld
import Derived.Test.YtomfggmmhkpeeaaGreatDoorKLRV
import Derived.Test.YtomfggmmhkpeeaaGreatDoorKR
set_option linter.unusedSimpArgs false
set_option linter.unusedVariables false
set_option linter.defProp false
set_option maxRecDepth 100000
set_option maxHeartbeats 4000000
namespace Go.Proofs.YtomfggmmhkpeeaaGreatDoor
open Go.ChangeShapes Go.WideShapes Go.ChangeAt Go.RowKit
open Go.ChangeMaps (open_string shut_string)
set_option linter.unusedVariables false

set_option maxRecDepth 100000 in
theorem fnExactReadValue_lifted (os:Os) (started:os.Started) (H:Type) (enc:TypeId × Value→H) :
  ReturnsInHanded {} Tryz.checked os 3 .any (fun w args=>(Rows.fnExactReadValueSpec.pre enc Tryz.prog Tryz.f3 [] false w args∧laidMetH Tryz.prog Rows.fnExactReadValueRow.laid w)∧sizedMet enc Tryz.prog Tryz.f3 (OpenSpec.ofChange Rows.fnExactReadValueSpec) false w args) (Rows.fnExactReadValueSpec.post enc Tryz.prog Tryz.f3 false true false false):=by
 refine returnsInHanded_of_change_and (C:=Tryz.checked) (X:=fun w _=>laidMetH Tryz.prog Rows.fnExactReadValueRow.laid w) (fun _ _ _ hh h=>h.of_heap hh) Eng.own started (by kernel_rfl) Tryz.func3
  (ChangeSpec.witness_at (enc:=enc) (C:=Tryz.checked) (os:=os) (X:=fun w _=>laidMetH Tryz.prog Rows.fnExactReadValueRow.laid w) false (laidWorld os) #[.agg #[.slice none 0 0],.int .i64 0,.slice none 0 0,.int .i64 0] 8 rfl (by kernel_rfl) (by kernel_rfl) (by kernel_rfl) (by kernel_rfl) (by kernel_rfl) (laidWorld_met os _)) ?_
 intro W base args ds gs before hval0 hW _ _ hL _
 have hval:∀ (j:Nat) t v,Tryz.f3.params[j]?=some t→args[j]?=some v→Value.okWide Tryz.prog W .any base t v:=hval0
 have hW':=hW
 obtain ⟨p,q,hA0,hV,rfl,hfz,hnd⟩:=hW
 have hA:DataW.TrodAll enc Tryz.prog W 0 (fun _=>true) true Tryz.f3.params.toList args.toList ds p:=hA0
 rw [Tryz.params3] at hA hval
 obtain ⟨v0,vs0,d0,ds0,p0,q0,hargs,rfl,rfl,h0,r0⟩:=trodAll_cons hA
 obtain ⟨v1,vs1,d1,ds1,p1,q1,rfl,rfl,rfl,h1,r1⟩:=trodAll_cons r0
 obtain ⟨v2,vs2,d2,ds2,p2,q2,rfl,rfl,rfl,h2,r2⟩:=trodAll_cons r1
 obtain ⟨v3,vs3,d3,ds3,p3,q3,rfl,rfl,rfl,h3,r3⟩:=trodAll_cons r2
 obtain ⟨rfl,rfl,rfl⟩:=trodAll_nil r3
 obtain rfl:args=#[v0,v1,v2,v3]:=by cases args;simp_all
 obtain ⟨rfl,rfl⟩:=trodVars_none hV
 obtain ⟨c0,rfl,_⟩:=okWide_struct Tryz.underlying24 (hval 0 24 v0 rfl rfl)
 have lt0:∀ x∈p0,x.block<W.heap.size:=by obtain ⟨m,hm⟩:=h0;exact DataW.trod_lt m _ _ _ hm
 have z0:W.noneFrozen p0:=fun b o h=>hfz b o (by simp [h])
 obtain ⟨a0,m0,k0⟩:=Eng.open_argS Eng.open_D h0 z0
 obtain ⟨c1,rfl⟩:=okWide_int Tryz.underlying3 (hval 1 3 v1 rfl rfl)
 have lt1:∀ x∈p1,x.block<W.heap.size:=by obtain ⟨m,hm⟩:=h1;exact DataW.trod_lt m _ _ _ hm
 have z1:W.noneFrozen p1:=fun b o h=>hfz b o (by simp [h])
 obtain ⟨a1,m1,k1⟩:=Eng.open_arg1 (Eng.open_int Tryz.underlying3) h1 z1 rfl
 obtain ⟨c2,_,_,rfl⟩:=okWide_slice Tryz.underlying25 (hval 2 25 v2 rfl rfl)
 have lt2:∀ x∈p2,x.block<W.heap.size:=by obtain ⟨m,hm⟩:=h2;exact DataW.trod_lt m _ _ _ hm
 have z2:W.noneFrozen p2:=fun b o h=>hfz b o (by simp [h])
 obtain ⟨a2,m2,k2⟩:=Eng.open_arg1 (Eng.open_B) h2 z2 rfl
 obtain ⟨c3,rfl⟩:=okWide_int Tryz.underlying3 (hval 3 3 v3 rfl rfl)
 have lt3:∀ x∈p3,x.block<W.heap.size:=by obtain ⟨m,hm⟩:=h3;exact DataW.trod_lt m _ _ _ hm
 have z3:W.noneFrozen p3:=fun b o h=>hfz b o (by simp [h])
 obtain ⟨a3,m3,k3⟩:=Eng.open_arg1 (Eng.open_int Tryz.underlying3) h3 z3 rfl
 clear hA0 hval0
 refine (Eng.AC.law (ds:=[Eng.encD a0,Eng.iD a1,Eng.encB a2,Eng.iD a3]) (Eng.lawReadValue_c a1 a3 (D:=a0) k0.1 (b:=a2) k2.1) (Eng.GL0 ⟨⟨handle_of_laid hL,rfl⟩,fun h=>absurd (Or.inl rfl) h⟩ trivial) (Eng.repL_cons m0 (Eng.repL_cons (Eng.repL1 m1) (Eng.repL_cons (Eng.repL1 m2) (Eng.repL_cons (Eng.repL1 m3) Eng.repL_nil))))).mono fun e W' ⟨he,bel⟩=>?_
 subst he
 exact ⟨_,rfl,_,_,_,[],_,[],hW',trodAll_mk1 (shut_bool Tryz.underlying4 _),(trodAll_cons_mk (Below.trod Eng.laidOut (by kernel_rfl) (of_decide_eq_true (by kernel_rfl)) h0 bel lt0) (trodAll_cons_mk (Below.trod Eng.laidOut (by kernel_rfl) (of_decide_eq_true (by kernel_rfl)) h1 bel lt1) (trodAll_cons_mk (Below.trod Eng.laidOut (by kernel_rfl) (of_decide_eq_true (by kernel_rfl)) h2 bel lt2) (trodAll_cons_mk (Below.trod Eng.laidOut (by kernel_rfl) (of_decide_eq_true (by kernel_rfl)) h3 bel lt3) trodAll_mk0)))),rfl,bel.frame _,fun h=>by cases h⟩
theorem fnExactReadValue_may:Tryz.prog.mayEnter=true:=by kernel_rfl
theorem fnExactReadValue_lift:(Rows.fnExactReadValueRow.lifted==Tryz.prog.liftsFinal)=true:=by kernel_rfl
theorem fnExactReadValue_make:(Tryz.prog.make==some Rows.fnExactReadValueRow.make)=true:=by kernel_rfl
set_option maxRecDepth 100000 in
theorem fnExactReadValue_closed:joinedFacts Tryz.prog 3 Tryz.f3 Rows.fnExactReadValueSpec Rows.fnExactReadValueRow=true:=by
 unfold joinedFacts
 rw [fnExactReadValue_may,fnExactReadValue_lift,fnExactReadValue_make]
 kernel_rfl
theorem fnExactReadValue_over:Rows.fnExactReadValueRow.holds Tryz.pinned (OpenSpec.ofChange Rows.fnExactReadValueSpec):=
 OpenClaim.holds_of_wide 3 Tryz.f3 rfl rfl rfl rfl rfl rfl rfl ⟨rfl,rfl,rfl,rfl,rfl⟩ rfl rfl rfl rfl rfl (by kernel_rfl) Tryz.func3 fnExactReadValue_closed
  (of_decide_eq_true (by kernel_rfl)) (by unfold Func.isWrapper;first|(rw [if_pos (by decide +kernel)];kernel_rfl)|(rw [if_neg (by decide +kernel)];exact ⟨rfl,rfl⟩))
  (fun os started H enc _=>fnExactReadValue_lifted os started H enc)
theorem fnExactReadValue_card:Rows.FnExactReadValueCardSaid:=
 Claim7.holds_tied_plain_at .later [] [.handle] true (true, "a049cafa66899a98fcba7bfb45fcadba79b8f4dfec57a224262c7e6d59e210d3") true
  fnExactReadValue_over (fun _ h=>by cases h) (by kernel_rfl) (fun _ h=>by cases h) fnExactReadValue_row_tie rfl ⟨rfl,rfl⟩ (by kernel_rfl) rfl
  (fun f fn hf hfn=>by
   obtain rfl : f = 3 := Option.some.inj ((show Tryz.prog.funcNamed "loop.example/g00518/laws.FnExactReadValue" = some 3 by kernel_rfl).symm.trans hf) |>.symm
   obtain rfl:fn=Tryz.f3:=(Option.some.inj (Tryz.func3.symm.trans hfn)).symm
   exact ⟨by kernel_rfl,fun j t ht=>by
    rw [Tryz.params3] at ht
    have hm:t∈[24,3,25,3]:=by
     have:=Array.mem_of_getElem? ht
     simpa using this
    simp only [List.mem_cons,List.not_mem_nil,or_false] at hm
    rcases hm with rfl|rfl|rfl|rfl
    ·exact (show Tryz.prog.wantsStandIn 24=false by kernel_rfl)
    ·exact (show Tryz.prog.wantsStandIn 3=false by kernel_rfl)
    ·exact (show Tryz.prog.wantsStandIn 25=false by kernel_rfl)
    ·exact (show Tryz.prog.wantsStandIn 3=false by kernel_rfl)⟩)
  (by kernel_rfl)
#print axioms fnExactReadValue_card
end Go.Proofs.YtomfggmmhkpeeaaGreatDoor
