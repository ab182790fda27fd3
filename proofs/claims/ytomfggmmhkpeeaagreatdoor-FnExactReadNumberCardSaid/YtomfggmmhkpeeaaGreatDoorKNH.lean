/-
 The program's reader: choices.

 The program's reader: options.

 The program's reader: what is checked.
-/
import Derived.Test.YtomfggmmhkpeeaaGreatDoorKN26
set_option linter.unusedSimpArgs false
set_option linter.unusedVariables false
set_option linter.defProp false
set_option maxRecDepth 100000
set_option maxHeartbeats 4000000
namespace Go.Proofs.YtomfggmmhkpeeaaGreatDoor.Eng
open Go Go.RowKit

section
variable {M:Nat}{D:List RuleD}{b:List UInt8}
private def tyF:=ai (ai (ai tg25 (ai tg27 tg32)) (ai (ai tg86 tg87) (ai tg29 tg34))) (ai (ai (ai tg59 tg89) (ai tg3 tg4)) (ai (ai tg5 tg57) (ai tg61 tg9)))
theorem choiceI_c (hD:DB M D) (hM:M≤1048576) (hb:b.length≤1048576) {f:Nat} (H:RdOK D b f) {n:Nat}{r:RuleD} (hr:D[n]?=some r) (hn:n≤f) (G:GoodR D n r) (hk:r.kind=7) (p:Nat) (hp:p≤b.length):RdC D b 69 [.d (frD D b),.d (encR r),.d (iD p)] (rd D b (f+1) n p):=by
 have hrb:=hD.rule r (List.mem_of_getElem? hr)
 have hlt:=hrb.lt
 obtain ⟨g1,g2⟩:=G.k7 hk
 obtain ⟨j,q,ej,hj,hq,hqr⟩:=kid_int g2
 have hkid:r.kids[0]?=some (j:Int):=by rw [kids0 (by omega),ej]
 have hrd:=ruleD_get hr
 have hnl:n<D.length:=(List.getElem?_eq_some_iff.1 hr).1
 have HN:=integerI_c hD hM hb hj hq p hp
 cases hi:intAt q b p with
 | none=>
  rw [hi] at HN
  rw [rd_7n hrd hk (by rw [hqr];exact hi)]
  refine ⟨p,fun h=>(by cases h),?_⟩
  refine cbS Tryz.func69 rfl Tryz.call69 Tryz.ntmps69 fun en hsz hks hk0=>?_;refine enS ?_
  (repeat (first|refine walkS ?_|refine cS (HN) ?_))
  refine aw_condS rfl (fun hc=>?_) (fun hc=>?_)
  ·refine walkS ?_
   (refine rtS Tryz.results69 ?_;refine ⟨_,[],.inr (.inl ⟨.tup [encV V0,iD (p:Nat),erD p 1],rfl,rfl,?_⟩),List.nodup_nil,rfl⟩;exact wkDS)
  ·(first|exact absurd trivial hc|exact absurd rfl hc|(cases hc;done)|omega|exact absurd hc (by decide)|(simp at hc;done))
 | some m=>
  rw [hi] at HN
  obtain ⟨hi1,hi2⟩:=intAt_in hi hp
  have hnone:tagIx r.tags m=none→rd D b (f+1) n p=(V0,p,3):=fun ht=>rd_7t hrd hk (by rw [hqr];exact hi) ht
  have hsome:∀ k,tagIx r.tags m=some k→rd D b (f+1) n p=mkItems m (rdItems (rd D b f) [(r.kids.getD (k+1) 0).toNat] (p+q.size.toNat)):=fun k ht=>by rw [rd_7s hrd hk (by rw [hqr];exact hi) ht,hqr]
  have hkids:∀ k (h:k<r.tags.length),((r.kids.drop (k+1)).take (k+2 - (k+1)))=[r.kids[k+1]'(by omega)]:=fun k h=>by
   rw [List.drop_eq_getElem_cons (by omega),show k+2 - (k+1)=1 by omega];rfl
  have HI:∀ k (h:k<r.tags.length),AC Tryz.prog 68 [.d (frD D b),.d (V0d m),.d (encI [r.kids[k+1]'(by omega)]),.d (iD (p+q.size.toNat:Nat))] none (fun r' _=>r'=rdE (atItems (rd D b f) [(r.kids.getD (k+1) 0).toNat] (p+q.size.toNat)) (mkItems m (rdItems (rd D b f) [(r.kids.getD (k+1) 0).toNat] (p+q.size.toNat)))):=fun k h=>by
   have h1:=G.kid (k+1) (by omega)
   have:=itemsI_k H (m:Int) [r.kids[k+1]'(by omega)] (by simp) (fun i hi=>by
    have:i=0:=by simpa using hi
    subst this
    simp only [List.getElem_cons_zero]
    omega) (p+q.size.toNat) hi1
   rw [show r.kids.getD (k+1) 0=r.kids[k+1]'(by omega) by rw [List.getD_eq_getElem?_getD,List.getElem?_eq_getElem (by omega),Option.getD_some]]
   exact this
  have hex:∃ am:Nat,((rd D b (f+1) n p).2.2=0→am=(rd D b (f+1) n p).2.1)∧(tagIx r.tags m=none→am=p)∧∀ k,tagIx r.tags m=some k→am=atItems (rd D b f) [(r.kids.getD (k+1) 0).toNat] (p+q.size.toNat):=by
   cases ht:tagIx r.tags m with
   | none=>exact ⟨p,fun h=>(by rw [hnone ht] at h;cases h),fun _=>rfl,fun k h=>(by cases h)⟩
   | some k=>exact ⟨atItems (rd D b f) [(r.kids.getD (k+1) 0).toNat] (p+q.size.toNat),fun h=>(by rw [hsome k ht] at h;rw [hsome k ht];exact atItems_mk h),fun h=>(by cases h),fun k' h=>(by cases h;rfl)⟩
  obtain ⟨am,e1,e2,e3⟩:=hex
  refine ⟨am,e1,?_⟩
  refine cbS Tryz.func69 rfl Tryz.call69 Tryz.ntmps69 fun en hsz hks hk0=>?_;refine enS ?_
  (repeat (first|refine walkS ?_|refine cS (HN) ?_))
  refine aw_condS rfl (fun hc=>?_) (fun hc=>?_)
  ·(first|exact absurd trivial hc|exact absurd rfl hc|(cases hc;done)|omega|exact absurd hc (by decide)|(simp at hc;done))
  refine walkS ?_
  refine aw_loopS [0,2,4,6,7,8,9,10,31,32] (fun _ _=>[]) (fun _ k=>[(33,.d (iD (k:Nat)))]) [] (fun _ _=>[]) [] (fun _ _=>[]) (fun k=>k≤r.tags.length∧∀ j (hj:j<r.tags.length),j<k→r.tags[j]≠(m:Int)) (fun k=>r.tags.length - k) (0) hks (fun _=>rfl) ⟨Nat.zero_le _,fun _ _ h=>absurd h (Nat.not_lt_zero _)⟩ wkS ?_;intro x hx;refine headS ?_
  obtain ⟨hx1,hx2⟩:=hx
  refine walkS ?_
  refine aw_condS rfl (fun hk1=>?_) (fun hk1=>?_)
  ·refine walkS ?_
   refine aw_condS rfl (fun he=>?_) (fun he=>?_)
   ·have ht:tagIx r.tags m=some x:=tagIx_hit (by omega) he (fun j hj h=>hx2 j hj h)
    rw [hsome x ht,e3 x ht]
    have HIx:=HI x (by omega)
    generalize atItems (rd D b f) [(r.kids.getD (x+1) 0).toNat] (p+q.size.toNat)=am' at *
    generalize mkItems m (rdItems (rd D b f) [(r.kids.getD (x+1) 0).toNat] (p+q.size.toNat))=y at *
    have hkx:=hkids x (by omega)
    have e5:((x:Int)+2).toNat=x+2:=by omega
    (repeat (first|refine ctlS ?_|(refine ol_go ?_ (fun K1 hK1=>?_);exact trS;refine evS ?_;(try rw [e5,hkx]);refine hK1 _ _ ?_;clear hK1 K1)|(refine ow_go ?_ dsS (fun K1 hK1=>?_);exact trS;refine evS ?_;(try rw [e5,hkx]);refine hK1 _ ?_;clear hK1 K1)|refine skipS ?_|refine cS (HIx) ?_))
    (refine rtS Tryz.results69 ?_;refine ⟨_,[],.inr (.inl ⟨.tup [encV y.1,iD am',eD y.2.1 y.2.2],rfl,rfl,?_⟩),List.nodup_nil,rfl⟩;exact wkDS)
   ·refine walkS ?_
    refine ⟨x+1,⟨by omega,upto_succ (fun h=>he) hx2⟩,by omega,?_⟩
    exact wkS
  ·have ht:tagIx r.tags m=none:=tagIx_none (k:=x) (by omega) (fun j hj h=>hx2 j hj (by omega))
   rw [hnone ht,e2 ht]
   (repeat (first|refine walkS ?_|refine cS (fail_c p 3) ?_))
   (refine rtS Tryz.results69 ?_;refine ⟨_,[],.inr (.inl ⟨.tup [encV V0,iD (p:Nat),erD p 3],rfl,rfl,?_⟩),List.nodup_nil,rfl⟩;exact wkDS)

end
end Go.Proofs.YtomfggmmhkpeeaaGreatDoor.Eng
namespace Go.Proofs.YtomfggmmhkpeeaaGreatDoor.Eng
open Go Go.RowKit

section
variable {M:Nat}{D:List RuleD}{b:List UInt8}
theorem optionI_c (hD:DB M D) (hM:M≤1048576) (hb:b.length≤1048576) {f:Nat} (H:RdOK D b f) {n:Nat}{r:RuleD} (hr:D[n]?=some r) (hn:n≤f) (G:GoodR D n r) (hk:r.kind=8) (p:Nat) (hp:p≤b.length):RdC D b 70 [.d (frD D b),.d (encR r),.d (iD p)] (rd D b (f+1) n p):=by
 have hrb:=hD.rule r (List.mem_of_getElem? hr)
 have g1:=G.k8 hk
 have hrd:=ruleD_get hr
 have hnl:n<D.length:=(List.getElem?_eq_some_iff.1 hr).1
 have HT:=take_c (D:=D) hb p hp 1 ⟨by omega,by omega⟩
 cases hc0:b[p]? with
 | none=>
  have hpl:b.length≤p:=List.getElem?_eq_none_iff.1 hc0
  rw [rd_8n hrd hk hc0]
  rw [if_pos (by omega)] at HT
  refine ⟨p,fun h=>(by cases h),?_⟩
  refine cbS Tryz.func70 rfl Tryz.call70 Tryz.ntmps70 fun en hsz hks hk0=>?_;refine enS ?_
  (repeat (first|refine walkS ?_|refine cS (HT) ?_))
  refine aw_condS rfl (fun hc=>?_) (fun hc=>?_)
  ·refine walkS ?_
   (refine rtS Tryz.results70 ?_;refine ⟨_,[],.inr (.inl ⟨.tup [encV V0,iD (p:Nat),erD p 1],rfl,rfl,?_⟩),List.nodup_nil,rfl⟩;exact wkDS)
  ·(first|exact absurd trivial hc|exact absurd rfl hc|(cases hc;done)|omega|exact absurd hc (by decide)|(simp at hc;done))
 | some c=>
  have hpl:=get_lt hc0
  have hle:=u8le c
  rw [if_neg (by omega)] at HT
  have hi:(List.take (Int.toNat 1) (List.drop p b))[0]?=some c:=by rw [List.getElem?_take_of_lt (by decide),List.getElem?_drop,Nat.add_zero,hc0]
  by_cases h1:1<c.toNat
  ·rw [rd_8f hrd hk hc0 h1]
   refine ⟨p,fun h=>(by cases h),?_⟩
   refine cbS Tryz.func70 rfl Tryz.call70 Tryz.ntmps70 fun en hsz hks hk0=>?_;refine enS ?_
   (repeat (first|refine walkS ?_|refine cS (HT) ?_))
   refine aw_condS rfl (fun hc=>?_) (fun hc=>?_)
   ·(first|exact absurd trivial hc|exact absurd rfl hc|(cases hc;done)|omega|exact absurd hc (by decide)|(simp at hc;done))
   refine walkS ?_
   refine aw_condS rfl (fun hc=>?_) (fun hc=>?_)
   ·(repeat (first|refine walkS ?_|refine cS (fail_c p 4) ?_))
    (refine rtS Tryz.results70 ?_;refine ⟨_,[],.inr (.inl ⟨.tup [encV V0,iD (p:Nat),erD p 4],rfl,rfl,?_⟩),List.nodup_nil,rfl⟩;exact wkDS)
   ·omega
  ·have hfin:=rd_8s (f:=f) hrd hk hc0 h1
   by_cases h0:c.toNat=0
   ·rw [h0] at hfin
    rw [hfin]
    refine ⟨p+1,fun _=>rfl,?_⟩
    refine cbS Tryz.func70 rfl Tryz.call70 Tryz.ntmps70 fun en hsz hks hk0=>?_;refine enS ?_
    (repeat (first|refine walkS ?_|refine cS (HT) ?_))
    refine aw_condS rfl (fun hc=>?_) (fun hc=>?_)
    ·(first|exact absurd trivial hc|exact absurd rfl hc|(cases hc;done)|omega|exact absurd hc (by decide)|(simp at hc;done))
    refine walkS ?_
    refine aw_condS rfl (fun hc=>?_) (fun hc=>?_)
    ·omega
    refine walkS ?_
    refine aw_condS rfl (fun hc=>?_) (fun hc=>?_)
    ·refine walkS ?_
     (refine rtS Tryz.results70 ?_;refine ⟨_,[],.inr (.inl ⟨.tup [encV V0,iD ((p:Int)+1),nilE],rfl,rfl,?_⟩),List.nodup_nil,rfl⟩;exact wkDS)
    ·omega
   ·rw [show c.toNat=1 by omega] at hfin
    obtain ⟨x,ex,hx⟩:=kid_nat G (by omega)
    have HI:=itemsI_k H 0 r.kids (by omega) (fun i hi=>by have:=G.kid i hi;omega) (p+1) (by omega)
    have e:r.kids.map Int.toNat=List.replicate 1 (kid0 r).toNat:=by
     match hq:r.kids,g1 with
     | [y],_=>simp [kid0,hq]
    rw [e] at HI
    rw [hfin]
    refine ⟨_,atItems_mk,?_⟩
    generalize atItems (rd D b f) (List.replicate 1 (kid0 r).toNat) (p+1)=am at *
    generalize mkItems 0 (rdItems (rd D b f) (List.replicate 1 (kid0 r).toNat) (p+1))=y at *
    refine cbS Tryz.func70 rfl Tryz.call70 Tryz.ntmps70 fun en hsz hks hk0=>?_;refine enS ?_
    (repeat (first|refine walkS ?_|refine cS (HT) ?_))
    refine aw_condS rfl (fun hc=>?_) (fun hc=>?_)
    ·(first|exact absurd trivial hc|exact absurd rfl hc|(cases hc;done)|omega|exact absurd hc (by decide)|(simp at hc;done))
    refine walkS ?_
    refine aw_condS rfl (fun hc=>?_) (fun hc=>?_)
    ·omega
    refine walkS ?_
    refine aw_condS rfl (fun hc=>?_) (fun hc=>?_)
    ·omega
    (repeat (first|refine walkS ?_|refine cS (HI) ?_))
    (refine rtS Tryz.results70 ?_;refine ⟨_,[],.inr (.inl ⟨.tup [encV y.1,iD am,eD y.2.1 y.2.2],rfl,rfl,?_⟩),List.nodup_nil,rfl⟩;exact wkDS)

end
end Go.Proofs.YtomfggmmhkpeeaaGreatDoor.Eng
namespace Go.Proofs.YtomfggmmhkpeeaaGreatDoor.Eng
open Go Go.RowKit

section
variable {M:Nat}{D:List RuleD}{b:List UInt8}
theorem checkedI_c (hD:DB M D) (hM:M≤1048576) (hb:b.length≤1048576) {f:Nat} (H:RdOK D b f) {n:Nat}{r:RuleD} (hr:D[n]?=some r) (hn:n≤f) (G:GoodR D n r) (hk:r.kind=9) (p:Nat) (hp:p≤b.length):RdC D b 71 [.d (frD D b),.d (encR r),.d (iD p)] (rd D b (f+1) n p):=by
 have hrb:=hD.rule r (List.mem_of_getElem? hr)
 have g1:=G.k9 hk
 have hrd:=ruleD_get hr
 have hnl:n<D.length:=(List.getElem?_eq_some_iff.1 hr).1
 have HI:=itemsI_k H 0 r.kids (by omega) (fun i hi=>by have:=G.kid i hi;omega) p hp
 have e:r.kids.map Int.toNat=[(kid0 r).toNat]:=by
  match hq:r.kids,g1 with
  | [y],_=>simp [kid0,hq]
 rw [e] at HI
 have hin:=mkItems_in (n:=0) (rdItems_in (fun k p hp=>rd_in D b f k p hp) [(kid0 r).toNat] p hp)
 have ham:=atItems_mk (f:=rd D b f) (ks:=[(kid0 r).toNat]) (n:=0) (p:=p)
 generalize atItems (rd D b f) [(kid0 r).toNat] p=am at *
 cases hm:mkItems 0 (rdItems (rd D b f) [(kid0 r).toNat] p) with
 | mk v y=>
  obtain ⟨q,c⟩:=y
  rw [hm] at HI hin ham
  obtain ⟨hin1,hin2⟩:=hin
  simp only at hin1 hin2 ham
  by_cases hc0:c=0
  ·subst hc0
   obtain rfl:=ham rfl
   rw [rdE_0] at HI
   have HT:=take_c (D:=D) hb am hin2 1 ⟨by omega,by omega⟩
   cases hq:b[am]? with
   | none=>
    have hpl:b.length≤am:=List.getElem?_eq_none_iff.1 hq
    rw [rd_9n hrd hk hm hq]
    rw [if_pos (by omega)] at HT
    refine ⟨p,fun h=>(by cases h),?_⟩
    refine cbS Tryz.func71 rfl Tryz.call71 Tryz.ntmps71 fun en hsz hks hk0=>?_;refine enS ?_
    (repeat (first|refine walkS ?_|refine cS (HI) ?_))
    refine aw_condS rfl (fun hc=>?_) (fun hc=>?_)
    ·(first|exact absurd trivial hc|exact absurd rfl hc|(cases hc;done)|omega|exact absurd hc (by decide)|(simp at hc;done))
    (repeat (first|refine walkS ?_|refine cS (HT) ?_))
    refine aw_condS rfl (fun hc=>?_) (fun hc=>?_)
    ·refine walkS ?_
     (refine rtS Tryz.results71 ?_;refine ⟨_,[],.inr (.inl ⟨.tup [encV V0,iD (p:Nat),erD am 1],rfl,rfl,?_⟩),List.nodup_nil,rfl⟩;exact wkDS)
    ·(first|exact absurd trivial hc|exact absurd rfl hc|(cases hc;done)|omega|exact absurd hc (by decide)|(simp at hc;done))
   | some s=>
    have hpl:=get_lt hq
    have hle:=u8le s
    rw [if_neg (by omega)] at HT
    have hi:(List.take (Int.toNat 1) (List.drop am b))[0]?=some s:=by rw [List.getElem?_take_of_lt (by decide),List.getElem?_drop,Nat.add_zero,hq]
    by_cases hs:s.toNat=sumB ((b.drop p).take (am - p))
    ·rw [rd_9s hrd hk hm hq hs]
     refine ⟨am+1,fun _=>rfl,?_⟩
     refine cbS Tryz.func71 rfl Tryz.call71 Tryz.ntmps71 fun en hsz hks hk0=>?_;refine enS ?_
     (repeat (first|refine walkS ?_|refine cS (HI) ?_))
     refine aw_condS rfl (fun hc=>?_) (fun hc=>?_)
     ·(first|exact absurd trivial hc|exact absurd rfl hc|(cases hc;done)|omega|exact absurd hc (by decide)|(simp at hc;done))
     (repeat (first|refine walkS ?_|refine cS (HT) ?_))
     refine aw_condS rfl (fun hc=>?_) (fun hc=>?_)
     ·(first|exact absurd trivial hc|exact absurd rfl hc|(cases hc;done)|omega|exact absurd hc (by decide)|(simp at hc;done))
     (repeat (first|refine walkS ?_|(refine callPre ?_;(first|refine callN_funS rfl ((sumI_c (l:=List.take (am - p) (List.drop p b)) (by simp;omega))) ?_))|(refine callPreL ?_;(first|refine callL_funS rfl ((sumI_c (l:=List.take (am - p) (List.drop p b)) (by simp;omega))) ?_))))
     refine aw_condS rfl (fun hc=>?_) (fun hc=>?_)
     ·omega
     ·refine walkS ?_
      (refine rtS Tryz.results71 ?_;refine ⟨_,[],.inr (.inl ⟨.tup [encV v,iD ((am:Int)+1),nilE],rfl,rfl,?_⟩),List.nodup_nil,rfl⟩;exact wkDS)
    ·rw [rd_9f hrd hk hm hq hs]
     refine ⟨p,fun h=>(by cases h),?_⟩
     refine cbS Tryz.func71 rfl Tryz.call71 Tryz.ntmps71 fun en hsz hks hk0=>?_;refine enS ?_
     (repeat (first|refine walkS ?_|refine cS (HI) ?_))
     refine aw_condS rfl (fun hc=>?_) (fun hc=>?_)
     ·(first|exact absurd trivial hc|exact absurd rfl hc|(cases hc;done)|omega|exact absurd hc (by decide)|(simp at hc;done))
     (repeat (first|refine walkS ?_|refine cS (HT) ?_))
     refine aw_condS rfl (fun hc=>?_) (fun hc=>?_)
     ·(first|exact absurd trivial hc|exact absurd rfl hc|(cases hc;done)|omega|exact absurd hc (by decide)|(simp at hc;done))
     (repeat (first|refine walkS ?_|(refine callPre ?_;(first|refine callN_funS rfl ((sumI_c (l:=List.take (am - p) (List.drop p b)) (by simp;omega))) ?_))|(refine callPreL ?_;(first|refine callL_funS rfl ((sumI_c (l:=List.take (am - p) (List.drop p b)) (by simp;omega))) ?_))))
     refine aw_condS rfl (fun hc=>?_) (fun hc=>?_)
     ·(repeat (first|refine walkS ?_|refine cS (fail_c am 5) ?_))
      (refine rtS Tryz.results71 ?_;refine ⟨_,[],.inr (.inl ⟨.tup [encV V0,iD (p:Nat),erD am 5],rfl,rfl,?_⟩),List.nodup_nil,rfl⟩;exact wkDS)
     ·omega
  ·rw [rd_9e hrd hk hm hc0]
   have hv:v=V0:=by
    unfold mkItems at hm
    split at hm
    ·simp only [Prod.mk.injEq] at hm;omega
    ·simp only [Prod.mk.injEq] at hm;exact hm.1.symm
   subst hv
   rw [rdE_p hc0] at HI
   refine ⟨p,fun h=>absurd h hc0,?_⟩
   rw [rdE_p hc0]
   refine cbS Tryz.func71 rfl Tryz.call71 Tryz.ntmps71 fun en hsz hks hk0=>?_;refine enS ?_
   (repeat (first|refine walkS ?_|refine cS (HI) ?_))
   refine aw_condS rfl (fun hc=>?_) (fun hc=>?_)
   ·refine walkS ?_
    (refine rtS Tryz.results71 ?_;refine ⟨_,[],.inr (.inl ⟨.tup [encV V0,iD (p:Nat),erD q c],rfl,rfl,?_⟩),List.nodup_nil,rfl⟩;exact wkDS)
   ·(first|exact absurd trivial hc|exact absurd rfl hc|(cases hc;done)|omega|exact absurd hc (by decide)|(simp at hc;done))
end
end Go.Proofs.YtomfggmmhkpeeaaGreatDoor.Eng
