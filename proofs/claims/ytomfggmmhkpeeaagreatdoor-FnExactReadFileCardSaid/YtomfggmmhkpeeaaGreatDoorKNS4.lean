/-
 The program's reader: choices, in blocks of their own.
-/
import Derived.Test.YtomfggmmhkpeeaaGreatDoorKNS3
import Derived.Test.YtomfggmmhkpeeaaGreatDoorKNH
set_option linter.unusedSimpArgs false
set_option linter.unusedVariables false
set_option linter.defProp false
set_option maxRecDepth 100000
set_option maxHeartbeats 4000000
namespace Go.Proofs.YtomfggmmhkpeeaaGreatDoor.Eng
open Go Go.RowKit

section
variable {M:Nat}{D:List RuleD}{b:List UInt8}
private def tyF:=ai (ai (ai tg25 (ai tg27 tg86)) (ai (ai tg87 tg29) (ai tg89 tg3))) (ai (ai (ai tg4 tg5) (ai tg57 tg61)) (ai (ai tg9 encWi_len) (ai mkAgg_W cells1_W)))
theorem choiceW_c (hD:DB M D) (hM:M≤1048576) (hb:b.length≤1048576) {f:Nat} (H:RdOKW D b f) {n:Nat}{r:RuleD} (hr:D[n]?=some r) (hn:n≤f) (G:GoodR D n r) (hk:r.kind=7) (p:Nat) (hp:p≤b.length):RdCW D b 69 [.d (frD D b),.d (encR r),.d (iD p)] (rd D b (f+1) n p):=by
 have hrb:=hD.rule r (List.mem_of_getElem? hr)
 have hlt:=hrb.lt
 obtain ⟨g1,g2⟩:=G.k7 hk
 obtain ⟨j,q,ej,hj,hq,hqr⟩:=kid_int g2
 have hkid:r.kids[0]?=some (j:Int):=by rw [kids0 (by omega),ej]
 have hrd:=ruleD_get hr
 have hnl:n<D.length:=(List.getElem?_eq_some_iff.1 hr).1
 have HN:=integerI_c hD hM hb hj hq p hp
 cases hi:intAt q b p with
 | none=>
  rw [hi] at HN
  rw [rd_7n hrd hk (by rw [hqr];exact hi)]
  refine ⟨p,fun h=>(by cases h),?_⟩
  refine calls_bodyI Tryz.func69 rfl Tryz.call69 Tryz.ntmps69 (by simp) (by simp [ArgsOk]) fun en hsz hcok hX hks=>?_;refine enS ?_
  (repeat (first|refine walkS ?_|refine cS (HN) ?_))
  refine aw_condS rfl (fun hc=>?_) (fun hc=>?_)
  ·refine walkS ?_
   (refine rtS Tryz.results69 ?_;refine ⟨_,[],.inr (.inr ⟨.tup [.agg [iD 0,.iv (fun b=>en.w.heap.size≤b) (encB []),.iv (fun b=>en.w.heap.size≤b) (.sp 3 [])],iD (p:Nat),erD p 1],_,rfl,rfl,rfl,?_⟩),List.nodup_nil,rfl⟩;exact semS)
  ·(first|exact absurd trivial hc|exact absurd rfl hc|(cases hc;done)|omega|exact absurd hc (by decide)|(simp at hc;done))
 | some m=>
  rw [hi] at HN
  obtain ⟨hi1,hi2⟩:=intAt_in hi hp
  have hnone:tagIx r.tags m=none→rd D b (f+1) n p=(V0,p,3):=fun ht=>rd_7t hrd hk (by rw [hqr];exact hi) ht
  have hsome:∀ k,tagIx r.tags m=some k→rd D b (f+1) n p=mkItems m (rdItems (rd D b f) [(r.kids.getD (k+1) 0).toNat] (p+q.size.toNat)):=fun k ht=>by rw [rd_7s hrd hk (by rw [hqr];exact hi) ht,hqr]
  have hkids:∀ k (h:k<r.tags.length),((r.kids.drop (k+1)).take (k+2 - (k+1)))=[r.kids[k+1]'(by omega)]:=fun k h=>by
   rw [List.drop_eq_getElem_cons (by omega),show k+2 - (k+1)=1 by omega];rfl
  have HI:∀ k (h:k<r.tags.length),ACN Tryz.prog 68 [.d (frD D b),.d (V0d m),.d (encI [r.kids[k+1]'(by omega)]),.d (iD (p+q.size.toNat:Nat))] (rdW (atItems (rd D b f) [(r.kids.getD (k+1) 0).toNat] (p+q.size.toNat)) (mkItems m (rdItems (rd D b f) [(r.kids.getD (k+1) 0).toNat] (p+q.size.toNat)))):=fun k h=>by
   have h1:=G.kid (k+1) (by omega)
   have:=itemsW_k H (m:Int) [r.kids[k+1]'(by omega)] (by simp) (fun i hi=>by
    have:i=0:=by simpa using hi
    subst this
    simp only [List.getElem_cons_zero]
    omega) (p+q.size.toNat) hi1
   rw [show r.kids.getD (k+1) 0=r.kids[k+1]'(by omega) by rw [List.getD_eq_getElem?_getD,List.getElem?_eq_getElem (by omega),Option.getD_some]]
   exact this
  have hex:∃ am:Nat,((rd D b (f+1) n p).2.2=0→am=(rd D b (f+1) n p).2.1)∧(tagIx r.tags m=none→am=p)∧∀ k,tagIx r.tags m=some k→am=atItems (rd D b f) [(r.kids.getD (k+1) 0).toNat] (p+q.size.toNat):=by
   cases ht:tagIx r.tags m with
   | none=>exact ⟨p,fun h=>(by rw [hnone ht] at h;cases h),fun _=>rfl,fun k h=>(by cases h)⟩
   | some k=>exact ⟨atItems (rd D b f) [(r.kids.getD (k+1) 0).toNat] (p+q.size.toNat),fun h=>(by rw [hsome k ht] at h;rw [hsome k ht];exact atItems_mk h),fun h=>(by cases h),fun k' h=>(by cases h;rfl)⟩
  obtain ⟨am,e1,e2,e3⟩:=hex
  refine ⟨am,e1,?_⟩
  refine calls_bodyI Tryz.func69 rfl Tryz.call69 Tryz.ntmps69 (by simp) (by simp [ArgsOk]) fun en hsz hcok hX hks=>?_;refine enS ?_
  (repeat (first|refine walkS ?_|refine cS (HN) ?_))
  refine aw_condS rfl (fun hc=>?_) (fun hc=>?_)
  ·(first|exact absurd trivial hc|exact absurd rfl hc|(cases hc;done)|omega|exact absurd hc (by decide)|(simp at hc;done))
  refine walkS ?_
  refine aw_loopS [0,2,4,6,7,8,9,10,31,32] (fun _ _=>[]) (fun _ k=>[(33,.d (iD (k:Nat)))]) [] (fun _ _=>[]) [] (fun _ _=>[]) (fun k=>k≤r.tags.length∧∀ j (hj:j<r.tags.length),j<k→r.tags[j]≠(m:Int)) (fun k=>r.tags.length - k) (0) hks (fun _=>rfl) ⟨Nat.zero_le _,fun _ _ h=>absurd h (Nat.not_lt_zero _)⟩ wkS ?_;intro x hx;refine headS ?_
  obtain ⟨hx1,hx2⟩:=hx
  refine walkS ?_
  refine aw_condS rfl (fun hk1=>?_) (fun hk1=>?_)
  ·refine walkS ?_
   refine aw_condS rfl (fun he=>?_) (fun he=>?_)
   ·have ht:tagIx r.tags m=some x:=tagIx_hit (by omega) he (fun j hj h=>hx2 j hj h)
    rw [hsome x ht,e3 x ht]
    have HIx:=HI x (by omega)
    generalize atItems (rd D b f) [(r.kids.getD (x+1) 0).toNat] (p+q.size.toNat)=am' at *
    generalize mkItems m (rdItems (rd D b f) [(r.kids.getD (x+1) 0).toNat] (p+q.size.toNat))=y at *
    have hkx:=hkids x (by omega)
    have e5:((x:Int)+2).toNat=x+2:=by omega
    have hanti:=rdW_anti y.1 (iD am') (eD y.2.1 y.2.2)
    (repeat (first|refine ctlS ?_|(refine ol_go ?_ (fun K1 hK1=>?_);exact trS;refine evS ?_;(try rw [e5,hkx]);refine hK1 _ _ ?_;clear hK1 K1)|(refine ow_go ?_ dsS (fun K1 hK1=>?_);exact trS;refine evS ?_;(try rw [e5,hkx]);refine hK1 _ ?_;clear hK1 K1)|refine skipS ?_|(refine ow_callFA ?_ dsS rfl (HIx) ?_;exact trS;simp only [St.set,List.map_cons,List.map_nil])|(refine ol_callN ?_ rfl (HIx) ?_;exact trS;simp only [St.set,List.map_cons,List.map_nil])))
    (refine rtS Tryz.results69 ?_;refine ⟨_,[],.inr (.inr ⟨.tup [.agg (encWi (fun b=>en.w.heap.size≤b) y.1),iD am',eD y.2.1 y.2.2],_,rfl,rfl,rfl,?_⟩),List.nodup_nil,rfl⟩;exact semS)
   ·refine walkS ?_
    refine ⟨x+1,⟨by omega,upto_succ (fun h=>he) hx2⟩,by omega,?_⟩
    exact wkS
  ·have ht:tagIx r.tags m=none:=tagIx_none (k:=x) (by omega) (fun j hj h=>hx2 j hj (by omega))
   rw [hnone ht,e2 ht]
   (repeat (first|refine walkS ?_|refine cS (fail_c p 3) ?_))
   (refine rtS Tryz.results69 ?_;refine ⟨_,[],.inr (.inr ⟨.tup [.agg [iD 0,.iv (fun b=>en.w.heap.size≤b) (encB []),.iv (fun b=>en.w.heap.size≤b) (.sp 3 [])],iD (p:Nat),erD p 3],_,rfl,rfl,rfl,?_⟩),List.nodup_nil,rfl⟩;exact semS)
end
end Go.Proofs.YtomfggmmhkpeeaaGreatDoor.Eng
