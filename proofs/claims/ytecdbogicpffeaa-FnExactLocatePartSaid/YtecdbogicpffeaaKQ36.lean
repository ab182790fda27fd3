/-
 The statement FnExactLocatePart holds: the program's LocatePart returns what the reference's returns, for all arguments; each argument reads afterwards as before. No condition.
-/
import Derived.Test.YtecdbogicpffeaaRows
import Derived.ProofKit
import Derived.OpenShut
import Derived.ShutString
import Derived.ChangeOld
import Derived.Test.YtecdbogicpffeaaKLLO
import Derived.Test.YtecdbogicpffeaaKR
set_option linter.unusedSimpArgs false
set_option linter.unusedVariables false
set_option linter.defProp false
set_option maxRecDepth 100000
set_option maxHeartbeats 4000000
namespace Go.Proofs.Ytecdbogicpffeaa
open Go.ChangeShapes Go.WideShapes Go.ChangeAt Go.RowKit
open Go.ChangeMaps (open_string shut_string)
set_option linter.unusedVariables false

set_option maxRecDepth 100000 in
theorem fnExactLocatePart_lifted (os:Os) (started:os.Started) (H:Type) (enc:TypeId × Value→H) :
  ReturnsInHanded {} Try.checked os 6 .any (Rows.fnExactLocatePartSpec.pre6 enc Try.prog Try.f6 Rows.fnExactLocatePartRow.domain false) (Rows.fnExactLocatePartSpec.post enc Try.prog Try.f6 false true false false):=by
 refine returnsInHanded_of_change (C:=Try.checked) Eng.own started (by kernel_rfl) Try.func6
  (ChangeSpec.witness6 (enc:=enc) (C:=Try.checked) false ⟨#[],#[.agg #[.slice none 0 0],.slice none 0 0,.string ByteArray.empty],[]⟩ 8 (by kernel_rfl) (by kernel_rfl) (by kernel_rfl) (by kernel_rfl)) ?_
 intro W base args ds gs before hval0 hW hcnd _
 have hval:∀ (j:Nat) t v,Try.f6.params[j]?=some t→args[j]?=some v→Value.okWide Try.prog W .any base t v:=hval0
 have hW':=hW
 obtain ⟨p,q,hA0,hV,rfl,hfz,hnd⟩:=hW
 have hA:DataW.TrodAll enc Try.prog W 0 (fun _=>true) true Try.f6.params.toList args.toList ds p:=hA0
 rw [Try.params6] at hA hval
 obtain ⟨v0,vs0,d0,ds0,p0,q0,hargs,rfl,rfl,h0,r0⟩:=trodAll_cons hA
 obtain ⟨v1,vs1,d1,ds1,p1,q1,rfl,rfl,rfl,h1,r1⟩:=trodAll_cons r0
 obtain ⟨v2,vs2,d2,ds2,p2,q2,rfl,rfl,rfl,h2,r2⟩:=trodAll_cons r1
 obtain ⟨rfl,rfl,rfl⟩:=trodAll_nil r2
 obtain rfl:args=#[v0,v1,v2]:=by cases args;simp_all
 obtain ⟨rfl,rfl⟩:=trodVars_none hV
 obtain ⟨c0,rfl,_⟩:=okWide_struct Try.underlying60 (hval 0 60 v0 rfl rfl)
 have lt0:∀ x∈p0,x.block<W.heap.size:=by obtain ⟨m,hm⟩:=h0;exact DataW.trod_lt m _ _ _ hm
 have z0:W.noneFrozen p0:=fun b o h=>hfz b o (by simp [h])
 obtain ⟨a0,m0,k0⟩:=Eng.open_argS Eng.open_D h0 z0
 obtain ⟨c1,_,_,rfl⟩:=okWide_slice Try.underlying22 (hval 1 22 v1 rfl rfl)
 have lt1:∀ x∈p1,x.block<W.heap.size:=by obtain ⟨m,hm⟩:=h1;exact DataW.trod_lt m _ _ _ hm
 have z1:W.noneFrozen p1:=fun b o h=>hfz b o (by simp [h])
 obtain ⟨a1,m1,k1⟩:=Eng.open_arg1 (Eng.open_B) h1 z1 rfl
 obtain ⟨c2,rfl⟩:=okWide_string Try.underlying9 (hval 2 9 v2 rfl rfl)
 have lt2:∀ x∈p2,x.block<W.heap.size:=by obtain ⟨m,hm⟩:=h2;exact DataW.trod_lt m _ _ _ hm
 have z2:W.noneFrozen p2:=fun b o h=>hfz b o (by simp [h])
 obtain ⟨a2,m2,k2⟩:=Eng.open_arg1 (Eng.open_str Try.underlying9) h2 z2 rfl
 clear hA0 hval0
 refine (Eng.AC.law (ds:=[Eng.encD a0,Eng.encB a1,Eng.sD a2]) (Eng.lawLoc_c (D:=a0) k0.1 (b:=a1) k1.1 (s:=a2) k2) (Eng.GL0 trivial trivial) (Eng.repL_cons m0 (Eng.repL_cons (Eng.repL1 m1) (Eng.repL_cons (Eng.repL1 m2) Eng.repL_nil)))).mono fun e W' ⟨he,bel⟩=>?_
 subst he
 exact ⟨_,rfl,_,_,_,[],_,[],hW',trodAll_mk1 (shut_bool Try.underlying4 _),(trodAll_cons_mk (Below.trod Eng.laidOut (by kernel_rfl) (of_decide_eq_true (by kernel_rfl)) h0 bel lt0) (trodAll_cons_mk (Below.trod Eng.laidOut (by kernel_rfl) (of_decide_eq_true (by kernel_rfl)) h1 bel lt1) (trodAll_cons_mk (Below.trod Eng.laidOut (by kernel_rfl) (of_decide_eq_true (by kernel_rfl)) h2 bel lt2) trodAll_mk0))),rfl,bel.frame _,fun h=>by cases h⟩
theorem fnExactLocatePart_over:Rows.fnExactLocatePartRow.holds Try.pinned (OpenSpec.ofChange Rows.fnExactLocatePartSpec):=
 OpenClaim.holds_of_wide 6 Try.f6 rfl rfl rfl rfl rfl rfl rfl ⟨rfl,rfl,rfl,rfl,rfl⟩ rfl rfl rfl rfl rfl (by kernel_rfl) Try.func6 (by kernel_rfl)
  (of_decide_eq_true (by kernel_rfl)) (by unfold Func.isWrapper;first|(rw [if_pos (by decide +kernel)];kernel_rfl)|(rw [if_neg (by decide +kernel)];exact ⟨rfl,rfl⟩))
  (fun os started H enc _=>fnExactLocatePart_lifted os started H enc)
theorem fnExactLocatePart_holds:Rows.FnExactLocatePartSaid:=fnExactLocatePart_over
#print axioms fnExactLocatePart_holds
end Go.Proofs.Ytecdbogicpffeaa
