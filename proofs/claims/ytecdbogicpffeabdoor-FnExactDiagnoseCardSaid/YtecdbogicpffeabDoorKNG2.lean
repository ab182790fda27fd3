/-
 Parts of files: where reading fails (the reference).
-/
import Derived.Test.YtecdbogicpffeabDoorKNG1
import Derived.Test.YtecdbogicpffeabDoorKN10
set_option linter.unusedSimpArgs false
set_option linter.unusedVariables false
set_option linter.defProp false
set_option maxRecDepth 100000
set_option maxHeartbeats 4000000
namespace Go.Proofs.YtecdbogicpffeabDoor.Eng
open Go Go.RowKit

section
variable {M:Nat}{D:List RuleD}{b:List UInt8}
theorem names_6 (hV:descP D) {n:Nat}{r:RuleD} (hr:D[n]?=some r) (he:r.kind=6):r.kids.length=r.names.length:=by
 have hn:n<D.length:=(List.getElem?_eq_some_iff.1 hr).1
 have hrn:ruleAt D n=some r:=by simp [ruleAt,hr]
 have hp:ruleP D n r:=by
  refine Classical.byContradiction fun hq=>?_
  have:=hV.2 n hn
  rw [vRule_no hrn hq] at this
  exact Bool.noConfusion this
 obtain ⟨_,_,_,hk⟩:=hp
 rw [kl_6 he] at hk
 simp only [Bool.and_eq_true] at hk
 have h1:=shape_len (by omega) (shapeL_b hk.1)
 omega
theorem items_ok (hV:descP D) {n:Nat}{r:RuleD} (hr:D[n]?=some r) (G:GoodR D n r) {p q:Nat} (hp:p≤b.length) {m:Int}{ks:List Nat} (h:itemsAt D r b p=some (q,m,ks)) :
  q≤b.length∧ks.length≤40∧(∀ i (hi:i<ks.length),itemK r m i=(ks[i]:Int)∧ks[i]<n)∧∀ i,i<ks.length→r.kind=5∨(r.kind=6∧i<r.names.length)∨((r.kind=7∨r.kind=8∨r.kind=9)∧i=0):=by
 have kidn:∀ j (hj:j<r.kids.length),(r.kids[j].toNat:Int)=r.kids[j]∧r.kids[j].toNat<n:=fun j hj=>by have:=G.kid j hj;omega
 by_cases k6:r.kind=6
 ·rw [items_6 k6] at h
  simp only [Option.some.injEq,Prod.mk.injEq] at h
  obtain ⟨rfl,rfl,rfl⟩:=h
  have hl:=names_6 hV hr k6
  have h8:=G.k6 k6
  refine ⟨hp,by rw [List.length_map];omega,fun i hi=>?_,fun i hi=>.inr (.inl ⟨k6,by rw [List.length_map] at hi;omega⟩)⟩
  rw [List.length_map] at hi
  rw [itemK_6 k6 hi,List.getElem_map]
  exact ⟨(kidn i hi).1.symm,(kidn i hi).2⟩
 by_cases k9:r.kind=9
 ·rw [items_9 k9] at h
  simp only [Option.some.injEq,Prod.mk.injEq] at h
  obtain ⟨rfl,rfl,rfl⟩:=h
  have hl:=G.k9 k9
  have h0:=kidn 0 (by omega)
  refine ⟨hp,by simp,fun i hi=>?_,fun i hi=>.inr (.inr ⟨.inr (.inr k9),by simpa using hi⟩)⟩
  obtain rfl:i=0:=by simpa using hi
  rw [itemK_8 (.inr k9)]
  simp only [List.getElem_cons_zero]
  rw [show kid0 r=r.kids[0]'(by omega) by simp [kid0,List.headD_eq_head?_getD,List.head?_eq_getElem?,show 0<r.kids.length by omega]]
  exact ⟨h0.1.symm,h0.2⟩
 by_cases k8:r.kind=8
 ·rw [items_8 k8] at h
  split at h
  ·rename_i hb
   simp only [Option.some.injEq,Prod.mk.injEq] at h
   obtain ⟨rfl,rfl,rfl⟩:=h
   have hlt:=get_lt hb
   have hl:=G.k8 k8
   have h0:=kidn 0 (by omega)
   refine ⟨hlt,by simp,fun i hi=>?_,fun i hi=>.inr (.inr ⟨.inr (.inl k8),by simpa using hi⟩)⟩
   obtain rfl:i=0:=by simpa using hi
   rw [itemK_8 (.inl k8)]
   simp only [List.getElem_cons_zero]
   rw [show kid0 r=r.kids[0]'(by omega) by simp [kid0,List.headD_eq_head?_getD,List.head?_eq_getElem?,show 0<r.kids.length by omega]]
   exact ⟨h0.1.symm,h0.2⟩
  ·cases h
 by_cases k5:r.kind=5
 ·cases hi:intAt (ruleD D (kid0 r)) b p with
  | none=>rw [items_5n k5 hi] at h;cases h
  | some c=>
   rw [items_5 k5 hi] at h
   split at h
   ·rename_i hc
    simp only [Option.some.injEq,Prod.mk.injEq] at h
    obtain ⟨rfl,rfl,rfl⟩:=h
    have hl:=G.k5 k5
    have h1:=kidn 1 (by omega)
    refine ⟨(intAt_in hi hp).1,by rw [List.length_replicate];exact hc,fun i hi=>?_,fun i hi=>.inl k5⟩
    rw [itemK_5 k5,List.getElem_replicate]
    rw [show kid1 r=r.kids[1]'(by omega) by simp [kid1,List.getD,show 1<r.kids.length by omega]]
    exact ⟨h1.1.symm,h1.2⟩
   ·cases h
 by_cases k7:r.kind=7
 ·cases hi:intAt (ruleD D (kid0 r)) b p with
  | none=>rw [items_7n k7 hi] at h;cases h
  | some c=>
   cases ht:tagIx r.tags c with
   | none=>rw [items_7t k7 hi ht] at h;cases h
   | some k=>
    rw [items_7 k7 hi ht] at h
    simp only [Option.some.injEq,Prod.mk.injEq] at h
    obtain ⟨rfl,rfl,rfl⟩:=h
    have hl:=(G.k7 k7).1
    have hkl:=tagIx_lt ht
    have h1:=kidn (k+1) (by omega)
    refine ⟨(intAt_in hi hp).1,by simp,fun i hi=>?_,fun i hi=>.inr (.inr ⟨.inl k7,by simpa using hi⟩)⟩
    obtain rfl:i=0:=by simpa using hi
    rw [itemK_7 k7 ht (by omega)]
    simp only [List.getElem_cons_zero]
    rw [show r.kids.getD (k+1) 0=r.kids[k+1]'(by omega) by simp [List.getD,show k+1<r.kids.length by omega]]
    exact ⟨h1.1.symm,h1.2⟩
 rw [items_no k5 k6 k7 k8 k9] at h
 cases h
def DigOK (D:List RuleD) (b:List UInt8) (f:Nat):Prop:=∀ (n p:Nat) (path:ByteArray),n<f→n<D.length→p≤b.length→path.size+f*1048600≤2199023255552→AC Tryd.prog 15 [.d (encD D),.d (iD n),.d (encB b),.d (iD p),.d (sD path)] none (fun r _=>r=.d (.tup [sD (dig D b f n p path).1,iD (dig D b f n p path).2]))
private def tyF:=ai (ai (ai tg25 (ai tg30 tg52)) (ai tg53 (ai tg56 tg32))) (ai (ai tg58 (ai tg61 tg3)) (ai tg4 (ai tg5 tg9)))
theorem digS_step (hD:DB M D) (hM:M≤1048576) (hb:b.length≤1048576) (hV:descP D) {f:Nat} (H:DigOK D b f):DigOK D b (f+1):=fun n p path hnf hnl hp hpath=>by
 obtain ⟨r,hr⟩:∃ r,D[n]?=some r:=⟨_,List.getElem?_eq_getElem hnl⟩
 have hrb:=hD.rule r (List.mem_of_getElem? hr)
 have G:GoodR D n r:=good_of hV hr
 have hrd:=ruleD_get hr
 have HE:=enterS_c hD hM hb hr G p hp
 cases hx:itemsAt D r b p with
 | none=>
  rw [hx] at HE
  rw [dig_none hrd hx]
  have HE':AC Tryd.prog 23 [.d (encD D),.d (encR r),.d (encB b),.d (iD p)] none (fun r' _=>r'=.d (.tup [iD p,iD (-1),iD 0])):=HE
  refine cbS Tryd.func15 rfl Tryd.call15 Tryd.ntmps15 fun en hsz hks hk0=>?_;refine enS ?_
  (repeat (first|refine walkS ?_|refine cS (HE') ?_))
  refine aw_loopS [1,2,4,5,10,11,12,13,14,15] (fun _ _=>[]) (fun _ z=>[(16,.d (iD (z:Nat)))]) [] (fun _ _=>[]) [] (fun _ _=>[]) (fun z:Nat=>z=0) (fun z=>0) (0) hks (fun _=>rfl) rfl wkS ?_;intro x hx;refine headS ?_
  obtain rfl:x=0:=hx
  have d0:decide (((0:Nat):Int)<(-1))=false:=rfl
  (repeat (first|refine ctlS ?_|(refine ol_go ?_ (fun K1 hK1=>?_);exact trS;refine evS ?_;(try simp only [d0]);refine hK1 _ _ ?_;clear hK1 K1)|(refine ow_go ?_ dsS (fun K1 hK1=>?_);exact trS;refine evS ?_;(try simp only [d0]);refine hK1 _ ?_;clear hK1 K1)|refine skipS ?_|refine aw_condT rfl ?_|refine aw_condF rfl ?_))
  (refine rtS Tryd.results15 ?_;exact ⟨_,_,.inl ⟨rfl,rfl⟩,List.nodup_nil,rfl⟩)
 | some y=>
  obtain ⟨q,m,ks⟩:=y
  rw [hx] at HE
  obtain ⟨o1,o2,o3,o4⟩:=items_ok hV hr G hp hx
  rw [dig_some hrd hx]
  have HE':AC Tryd.prog 23 [.d (encD D),.d (encR r),.d (encB b),.d (iD p)] none (fun r' _=>r'=.d (.tup [iD q,iD (ks.length:Nat),iD m])):=HE
  have HR:∀ k q':Nat,k<D.length→q'≤b.length→AC Tryd.prog 25 [.d (encD D),.d (iD k),.d (encB b),.d (iD q')] none (fun r _=>r=rdR (rd D b D.length k q')):=fun k q' h1 h2=>l11Read_all hD hM hb hV D.length k q' h1 h1 h2
  have HI:∀ k q',q'≤b.length→(rd D b D.length k q').2.1≤b.length:=fun k q' h=>(rd_in D b D.length k q' h).2
  generalize hg:rd D b D.length=g at *
  refine cbS Tryd.func15 rfl Tryd.call15 Tryd.ntmps15 fun en hsz hks hk0=>?_;refine enS ?_
  (repeat (first|refine walkS ?_|refine cS (HE') ?_))
  refine aw_loopS [1,2,4,5,10,11,12,14,15] (fun _ _=>[]) (fun _ z=>[(16,.d (iD (z.1:Nat))),(13,.d (iD (z.2:Nat)))]) [] (fun _ _=>[]) [] (fun _ _=>[]) (fun z:Nat × Nat=>z.1≤ks.length∧z.2≤b.length∧badI g ks 0 q=badI g (ks.drop z.1) z.1 z.2) (fun z=>ks.length - z.1) ((0,q)) hks (fun _=>rfl) ⟨Nat.zero_le _,o1,rfl⟩ wkS ?_;intro x hx;refine headS ?_
  revert hx
  revert x
  rintro ⟨i,q'⟩ ⟨hx1,hx2,hx3⟩
  simp only at hx1 hx2 hx3 ⊢
  refine walkS ?_
  refine aw_condS rfl (fun hi=>?_) (fun hi=>?_)
  ·have hil:i<ks.length:=by omega
   obtain ⟨oi1,oi2⟩:=o3 i hil
   have hL:=l9Item_c hrb hM m i (fun h=>by have:=(G.k5 h).1;omega) (fun h=>(G.k7 h).1) (fun h=>by rcases h with h|h;(have:=G.k8 h;omega);(have:=G.k9 h;omega))
   rw [oi1] at hL
   have hR:=HR ks[i] q' (by omega) hx2
   have hin:=HI ks[i] q' hx2
   have hst:=stepS_c hrb hM (i:=i) (by omega) (o4 i hil)
   have hstz:=stepT_size (r:=r) (M:=1048576) (i:=i) (by omega) (fun s hs=>by have:=hrb.nm s hs;omega) (fun _=>by omega)
   have y1:ByteArray.size ⟨#[47]⟩=1:=rfl
   have y2:(path++⟨#[47]⟩).size=path.size+1:=by rw [ByteArray.size_append,y1]
   have y3:(path++⟨#[47]⟩++stepT r i).size=path.size+1+(stepT r i).size:=by rw [ByteArray.size_append,y2]
   have HF:=H ks[i] q' (path++⟨#[47]⟩++stepT r i) (by omega) (by omega) hx2 (by rw [y3];omega)
   by_cases hc:(g ks[i] q').2.2=0
   ·rw [badI_at hil hc] at hx3
    generalize g ks[i] q'=res at *
    obtain ⟨v,q2,c⟩:=res
    simp only at hc hin hx3 hR
    subst hc
    (repeat (first|refine walkS ?_|refine cS (hL) ?_))
    (repeat (first|refine walkS ?_|refine cS (hR) ?_))
    refine aw_condS rfl (fun hc=>?_) (fun hc=>?_)
    ·(first|exact absurd trivial hc|exact absurd rfl hc|(cases hc;done)|omega|exact absurd hc (by decide)|(simp at hc;done))
    have e1:IntKind.i64.wrap ((i:Int)+1)=((i+1:Nat):Int):=by rw [wrap_small (by omega) (by omega)];omega
    (repeat (first|refine ctlS ?_|(refine ol_go ?_ (fun K1 hK1=>?_);exact trS;refine evS ?_;(try simp only [e1]);refine hK1 _ _ ?_;clear hK1 K1)|(refine ow_go ?_ dsS (fun K1 hK1=>?_);exact trS;refine evS ?_;(try simp only [e1]);refine hK1 _ ?_;clear hK1 K1)|refine skipS ?_))
    refine ⟨(i+1,q2),⟨by simp only;omega,hin,hx3⟩,by simp only;omega,?_⟩
    exact wkS
   ·rw [badI_at' hil hc] at hx3
    rw [hx3]
    generalize g ks[i] q'=res at *
    obtain ⟨v,q2,c⟩:=res
    simp only at hc hR
    (repeat (first|refine walkS ?_|refine cS (hL) ?_))
    (repeat (first|refine walkS ?_|refine cS (hR) ?_))
    refine aw_condS rfl (fun hc=>?_) (fun hc=>?_)
    ·(repeat (first|refine walkS ?_|refine cS (hst) ?_))
     (repeat (first|refine walkS ?_|refine cS (HF) ?_))
     (refine rtS Tryd.results15 ?_;exact ⟨_,_,.inl ⟨rfl,rfl⟩,List.nodup_nil,rfl⟩)
    ·(first|exact absurd trivial hc|exact absurd rfl hc|(cases hc;done)|omega|exact absurd hc (by decide)|(simp at hc;done))
  ·rw [badI_end (by omega)] at hx3
   rw [hx3]
   refine walkS ?_
   (refine rtS Tryd.results15 ?_;exact ⟨_,_,.inl ⟨rfl,rfl⟩,List.nodup_nil,rfl⟩)
theorem digS_all (hD:DB M D) (hM:M≤1048576) (hb:b.length≤1048576) (hV:descP D):∀ f,DigOK D b f
 | 0=>fun n p path h=>by omega
 | f+1=>digS_step hD hM hb hV (digS_all hD hM hb hV f)
end
end Go.Proofs.YtecdbogicpffeabDoor.Eng
