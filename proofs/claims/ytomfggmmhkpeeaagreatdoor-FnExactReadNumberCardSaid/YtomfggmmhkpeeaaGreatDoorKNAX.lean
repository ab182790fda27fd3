/-
 The checker: a value.

 Checking, the program's side.
-/
import Derived.Test.YtomfggmmhkpeeaaGreatDoorKNA
import Derived.Test.YtomfggmmhkpeeaaGreatDoorKNR
import Derived.Test.YtomfggmmhkpeeaaGreatDoorKN10
set_option linter.unusedSimpArgs false
set_option linter.unusedVariables false
set_option linter.defProp false
set_option maxRecDepth 100000
set_option maxHeartbeats 4000000
namespace Go.Proofs.YtomfggmmhkpeeaaGreatDoor.Eng
open Go Go.RowKit

section
variable {M:Nat}{D:List RuleD}{b:List UInt8}
theorem bytesAt_2 (b:List UInt8) (p n:Nat):(bytesAt b p n).2=skipP b p n:=by
 unfold bytesAt skipP
 split<;>rfl

private def tyF:=ai (ai (ai tg25 (ai tg32 tg86)) (ai tg87 (ai tg225 tg227))) (ai (ai tg34 (ai tg89 tg223)) (ai (ai tg3 tg4) (ai tg5 tg9)))
theorem array_big (hD:DB M D) (hM:M≤1048576) (hb:b.length≤1048576) {r:RuleD}{j:Nat}{q:RuleD} (hkid:r.kids[0]?=some (j:Int)) (hj:D[j]?=some q) (hq:1≤q.size∧q.size≤4) (p:Nat) (hp:p≤b.length) (a:Int)
  {m0:Nat} (hi:intAt q b p=some m0) (hm0:40<m0):AC Tryz.prog 191 [.ptr 0 0,.d (encR r),.d (iD p)] (some ((chk D b a).map .d)) (fun r' b'=>r'=.d (spotD (p,6))∧b'=some ((chk D b (a+1)).map .d)):=by
 have HN:=number_c hD hM hb a hj hq p hp
 rw [numP_some hi] at HN
 refine cbS Tryz.func191 rfl Tryz.call191 Tryz.ntmps191 fun en hsz hks hk0=>?_;refine enS ?_
 (repeat (first|refine walkS ?_|refine vS 0 (HN) ?_))
 refine aw_condS rfl (fun hc=>?_) (fun hc=>?_)
 ·refine walkS ?_
  (refine rtS Tryz.results191 ?_;exact ⟨_,[],.inl ⟨rfl,rfl⟩,_,(chk D b (a+1):List Eng.D).map .d,[],rfl,toZL_d _ (chk D b (a+1)),by simp,rfl,rfl⟩)
 ·omega

theorem seq_kid {n:Nat}{r:RuleD} (G:GoodR D n r) {i:Nat} (h:i<r.kids.length):∃ x:Nat,r.kids[i]?=some (x:Int)∧x<n∧(r.kids.map Int.toNat).drop i=x::(r.kids.map Int.toNat).drop (i+1):=by
 have h2:=G.kid i h
 refine ⟨(r.kids[i]).toNat,by rw [List.getElem?_eq_getElem h];congr 1;omega,by omega,?_⟩
 rw [List.drop_eq_getElem_cons (by simpa using h),List.getElem_map]

theorem value_step (hD:DB M D) (hM:M≤1048576) (hb:b.length≤1048576) (hV:descP D) {f:Nat} (H:CkOK D b f):CkOK D b (f+1):=fun n p a hnf hnl hp=>by
 obtain ⟨r,hr⟩:∃ r,D[n]?=some r:=⟨_,List.getElem?_eq_getElem hnl⟩
 have G:GoodR D n r:=good_of hV hr
 have hrb:=hD.rule r (List.mem_of_getElem? hr)
 have hrd:=ruleD_get hr
 have hn:n≤f:=by omega
 have hlk:=hrb.lk
 obtain ⟨kd1,kd2⟩:=G.kd
 have L0:0≤limD D (kid0 r)→0<r.kids.length→∃ (j:Nat) (q:RuleD),r.kids[0]?=some (j:Int)∧D[j]?=some q∧(1≤q.size∧q.size≤4)∧ruleD D (kid0 r)=q:=fun h1 h2=>by
  obtain ⟨j,q,ej,hj,hq,hqr⟩:=kid_int h1
  exact ⟨j,q,by rw [kids0 h2,ej],hj,hq,hqr⟩
 refine cbS Tryz.func179 rfl Tryz.call179 Tryz.ntmps179 fun en hsz hks hk0=>?_;refine enS ?_
 refine walkS ?_
 refine aw_condS rfl (fun n1=>?_) (fun n1=>?_)
 ·have hC:=cnt_1 (b:=b) (f:=f) (p:=p) hrd n1
  have hS:(rd D b (f+1) n p).2=(numP r b p).2:=by
   cases hi:intAt r b p with
   | none=>rw [rd_1n hrd n1 hi,numP_none hi]
   | some m=>rw [rd_1s hrd n1 hi,numP_some hi]
  have HN:=number_c hD hM hb a hr (G.k1 n1) p hp
  (repeat (first|refine walkS ?_|refine vS 0 (HN) ?_))
  (refine rtS Tryz.results179 ?_;exact ⟨_,[],.inl ⟨rfl,rfl⟩,_,(chk D b (a+1):List Eng.D).map .d,[],rfl,toZL_d _ (chk D b (a+1)),by simp,by rw [hS],by rw [hC];rfl⟩)
 refine walkS ?_
 refine aw_condS rfl (fun n2=>?_) (fun n2=>?_)
 ·have hC:=cnt_0 (b:=b) (f:=f) (p:=p) hrd (.inl n2)
  (repeat (first|refine walkS ?_|refine vS 0 (constant_c D hrb hM hb (a+1) p hp) ?_))
  (refine rtS Tryz.results179 ?_;exact ⟨_,[],.inl ⟨rfl,rfl⟩,_,(chk D b (a+1):List Eng.D).map .d,[],rfl,toZL_d _ (chk D b (a+1)),by simp,by rw [rd_2 hrd n2],by rw [hC];rfl⟩)
 refine walkS ?_
 refine aw_condS rfl (fun n3=>?_) (fun n3=>?_)
 ·have hC:=cnt_0 (b:=b) (f:=f) (p:=p) hrd (.inr (.inl n3))
  have hk3:=G.k3 n3
  have HB:=skip_c D hb (a+1) p hp r.size.toNat (by omega)
  rw [Int.toNat_of_nonneg (by omega)] at HB
  (repeat (first|refine walkS ?_|refine vS 0 (HB) ?_))
  (refine rtS Tryz.results179 ?_;exact ⟨_,[],.inl ⟨rfl,rfl⟩,_,(chk D b (a+1):List Eng.D).map .d,[],rfl,toZL_d _ (chk D b (a+1)),by simp,by rw [rd_3 hrd n3,bytesAt_2],by rw [hC];rfl⟩)
 refine walkS ?_
 refine aw_condS rfl (fun n4=>?_) (fun n4=>?_)
 ·have hk4:=G.k4 n4
  obtain ⟨j,q,hkid,hj,hq,hqr⟩:=L0 (by omega) (by omega)
  have hC:=cnt_4 (b:=b) (f:=f) (p:=p) hrd n4
  have hT:a+1+1=a+(cnt D b (f+1) n p:Nat):=by rw [hC];omega
  have HN:=number_c hD hM hb (a+1) hj hq p hp
  cases hi:intAt q b p with
  | none=>
   rw [numP_none hi] at HN
   have hfin:=rd_45n (f:=f) hrd (.inl n4) (by rw [hqr];exact hi)
   (repeat (first|refine walkS ?_|refine vS 0 (HN) ?_))
   refine aw_condS rfl (fun hc=>?_) (fun hc=>?_)
   ·refine walkS ?_
    (refine rtS Tryz.results179 ?_;exact ⟨_,[],.inl ⟨rfl,rfl⟩,_,(chk D b (a+1+1):List Eng.D).map .d,[],rfl,toZL_d _ (chk D b (a+1+1)),by simp,by rw [hfin],by rw [←hT];rfl⟩)
   ·(first|exact absurd trivial hc|exact absurd rfl hc|(cases hc;done)|omega|exact absurd hc (by decide)|(simp at hc;done))
  | some m=>
   obtain ⟨hi1,hi2⟩:=intAt_in hi hp
   rw [numP_some hi] at HN
   have hfin:=rd_4s (f:=f) hrd n4 (by rw [hqr];exact hi)
   rw [hqr] at hfin
   have HB:=skip_c D hb (a+1+1) (p+q.size.toNat) (by omega) m (by omega)
   (repeat (first|refine walkS ?_|refine vS 0 (HN) ?_))
   refine aw_condS rfl (fun hc=>?_) (fun hc=>?_)
   ·(first|exact absurd trivial hc|exact absurd rfl hc|(cases hc;done)|omega|exact absurd hc (by decide)|(simp at hc;done))
   ·(repeat (first|refine walkS ?_|refine vS 0 (HB) ?_))
    (refine rtS Tryz.results179 ?_;exact ⟨_,[],.inl ⟨rfl,rfl⟩,_,(chk D b (a+1+1):List Eng.D).map .d,[],rfl,toZL_d _ (chk D b (a+1+1)),by simp,by rw [hfin,bytesAt_2],by rw [←hT];rfl⟩)
 refine walkS ?_
 refine aw_condS rfl (fun n5=>?_) (fun n5=>?_)
 ·have hk5:=G.k5 n5
  obtain ⟨j,q,hkid,hj,hq,hqr⟩:=L0 (by omega) (by omega)
  obtain ⟨kk,ek,hkk⟩:=kid1_nat G (by omega)
  have hkid1:r.kids[1]?=some (kk:Int):=by rw [kids1 (by omega),ek]
  have HA:AC Tryz.prog 191 [.ptr 0 0,.d (encR r),.d (iD p)] (some ((chk D b (a+1)).map .d)) (fun r' b'=>r'=.d (spotD (rd D b (f+1) n p).2)∧b'=some ((chk D b (a+(cnt D b (f+1) n p:Nat))).map .d)):=by
   cases hi:intAt q b p with
   | none=>
    have hi':intAt (ruleD D (kid0 r)) b p=none:=by rw [hqr];exact hi
    exact array_go hD hM hb H hr hn hkid hj hq hkid1 hkk p hp (a+1) (numP_none hi) hp (fun h=>by cases h) (by rw [rd_45n hrd (.inr n5) hi'];rfl) (by rw [cnt_5n hrd n5 hi'];simp [restC,cntItems];omega)
   | some m=>
    obtain ⟨hi1,hi2⟩:=intAt_in hi hp
    have hi':intAt (ruleD D (kid0 r)) b p=some m:=by rw [hqr];exact hi
    by_cases h40:40<m
    ·rw [rd_5c hrd n5 hi' h40,cnt_5c hrd n5 hi' h40]
     have:=array_big hD hM hb hkid hj hq p hp (a+1) hi h40
     rw [show a+1+1=a+((2:Nat):Int) by omega] at this
     exact this
    ·have hkt:(kid1 r).toNat=kk:=by omega
     have e1:=cnt_5s (f:=f) hrd n5 hi' h40
     have e2:=rd_5s (f:=f) hrd n5 hi' h40
     rw [hkt,hqr] at e1 e2
     exact array_go hD hM hb H hr hn hkid hj hq hkid1 hkk p hp (a+1) (numP_some hi) (by omega) (fun _=>by omega) (by rw [e2,mkItems_2,restS_0]) (by rw [e1,restC_0];omega)
  (repeat (first|refine walkS ?_|refine vS 0 (HA) ?_))
  (refine rtS Tryz.results179 ?_;exact ⟨_,[],.inl ⟨rfl,rfl⟩,_,(chk D b (a+(cnt D b (f+1) n p:Nat)):List Eng.D).map .d,[],rfl,toZL_d _ (chk D b (a+(cnt D b (f+1) n p:Nat))),by simp,rfl,rfl⟩)
 refine walkS ?_
 refine aw_condS rfl (fun n6=>?_) (fun n6=>?_)
 ·have hC:=cnt_6 (b:=b) (f:=f) (p:=p) hrd n6
  have hS:=congrArg (·.2) (rd_6 (b:=b) (f:=f) (p:=p) hrd n6)
  simp only [mkItems_2] at hS
  have hk8:=G.k6 n6
  refine walkS ?_
  refine aw_loopS [0,2,6,7,12,45,91,92] (fun _ _=>[]) (fun _ y=>[(93,.d (iD (y.1:Nat)))]) [64,0] (fun _ y=>[(64,some [.d (iD (y.2.1:Nat)),.d (iD 0)]),(0,some [.d (encDs D),.d (encB b),.d (iD (IntKind.i64.wrap y.2.2))])]) [] (fun _ _=>[]) (fun y:Nat × Nat × Int=>y.1≤r.kids.length∧y.2.1≤b.length∧(rd D b (f+1) n p).2=restS (rd D b f) ((r.kids.map Int.toNat).drop y.1) y.2.1 0∧a+(cnt D b (f+1) n p:Nat)=y.2.2+(restC (rd D b f) (cnt D b f) ((r.kids.map Int.toNat).drop y.1) y.2.1 0:Nat)) (fun y=>r.kids.length - y.1) ((0,p,a+1)) hks (fun _=>rfl) ⟨Nat.zero_le _,hp,by rw [hS];rfl,by rw [hC];simp only [restC,List.drop_zero,if_true];omega⟩ wkS ?_;intro x hx;refine headS ?_
  obtain ⟨k,q1,A1⟩:=x
  simp only at hx ⊢
  obtain ⟨hx1,hx2,hx3,hx4⟩:=hx
  refine walkS ?_
  refine aw_condS rfl (fun hk=>?_) (fun hk=>?_)
  ·obtain ⟨kk,hkk1,hkk2,hkk3⟩:=seq_kid G (i:=k) (by omega)
   rw [hkk3,restS_cons] at hx3
   rw [hkk3,restC_cons] at hx4
   have hin:=rd_in D b f kk q1 hx2
   have HV:=H kk q1 A1 (by omega) (by omega) hx2
   generalize hcc:(rd D b f kk q1).2=z at HV hx3 hx4 hin
   obtain ⟨q2,c2⟩:=z
   simp only at hx3 hx4
   (repeat (first|refine walkS ?_|refine vS 0 (HV) ?_))
   refine aw_condS rfl (fun hc2=>?_) (fun hc2=>?_)
   ·rw [restS_bad _ _ _ _ (by omega)] at hx3
    rw [restC_bad _ _ _ _ _ (by omega)] at hx4
    refine walkS ?_
    (refine rtS Tryz.results179 ?_;exact ⟨_,[],.inl ⟨rfl,rfl⟩,_,(chk D b (A1+(cnt D b f kk q1:Nat)):List Eng.D).map .d,[],rfl,toZL_d _ (chk D b (A1+(cnt D b f kk q1:Nat))),by simp,by rw [hx3],by rw [show a+(cnt D b (f+1) n p:Nat)=A1+(cnt D b f kk q1:Nat) by omega];rfl⟩)
   ·have e:c2=0:=by omega
    subst e
    refine walkS ?_
    refine ⟨(k+1,q2,A1+(cnt D b f kk q1:Nat)),⟨by simp only;omega,hin.2,hx3,by simp only;omega⟩,by simp only;omega,?_⟩
    exact wkS
  ·have hdn:(r.kids.map Int.toNat).drop k=[]:=List.drop_eq_nil_of_le (by simp;omega)
   rw [hdn,restS_nil] at hx3
   rw [hdn,restC_nil] at hx4
   refine walkS ?_
   (refine rtS Tryz.results179 ?_;exact ⟨_,[],.inl ⟨rfl,rfl⟩,_,(chk D b A1:List Eng.D).map .d,[],rfl,toZL_d _ (chk D b A1),by simp,by rw [hx3];rfl,by rw [show a+(cnt D b (f+1) n p:Nat)=A1 by omega];rfl⟩)
 refine walkS ?_
 refine aw_condS rfl (fun n7=>?_) (fun n7=>?_)
 ·obtain ⟨g1,g2⟩:=G.k7 n7
  obtain ⟨j,q,hkid,hj,hq,hqr⟩:=L0 g2 (by omega)
  have HA:AC Tryz.prog 192 [.ptr 0 0,.d (encR r),.d (iD p)] (some ((chk D b (a+1)).map .d)) (fun r' b'=>r'=.d (spotD (rd D b (f+1) n p).2)∧b'=some ((chk D b (a+(cnt D b (f+1) n p:Nat))).map .d)):=by
   cases hi:intAt q b p with
   | none=>
    have hi':intAt (ruleD D (kid0 r)) b p=none:=by rw [hqr];exact hi
    exact choice_go hD hM hb H hr hn hkid hj hq p hp (a+1) (numP_none hi) hp (fun _=>⟨by rw [rd_7n hrd n7 hi'],by rw [cnt_7n hrd n7 hi'];omega⟩) (fun h=>by cases h) (fun h=>by cases h)
   | some m=>
    obtain ⟨hi1,hi2⟩:=intAt_in hi hp
    have hi':intAt (ruleD D (kid0 r)) b p=some m:=by rw [hqr];exact hi
    refine choice_go hD hM hb H hr hn hkid hj hq p hp (a+1) (numP_some hi) (by omega) (fun h=>absurd rfl h) (fun _ hno=>?_) (fun _ k hk he hbe=>?_)
    ·have ht:tagIx r.tags m=none:=tagIx_none (k:=r.tags.length) (by omega) (fun i hi _=>hno i hi)
     exact ⟨by rw [rd_7t hrd n7 hi' ht],by rw [cnt_7t hrd n7 hi' ht];omega⟩
    ·have ht:tagIx r.tags m=some k:=tagIx_hit hk he hbe
     obtain ⟨kk,k1,k2,_⟩:=seq_kid G (i:=k+1) (by omega)
     have hxd:(r.kids.getD (k+1) 0).toNat=kk:=by rw [List.getD_eq_getElem?_getD,k1];simp
     have e1:=rd_7s (f:=f) hrd n7 hi' ht
     have e2:=cnt_7s (f:=f) hrd n7 hi' ht
     rw [hxd,hqr] at e1 e2
     exact ⟨kk,k1,k2,by rw [e1,mkItems_2,rdItems_one2],by rw [e2,cntItems_one];omega⟩
  (repeat (first|refine walkS ?_|refine vS 0 (HA) ?_))
  (refine rtS Tryz.results179 ?_;exact ⟨_,[],.inl ⟨rfl,rfl⟩,_,(chk D b (a+(cnt D b (f+1) n p:Nat)):List Eng.D).map .d,[],rfl,toZL_d _ (chk D b (a+(cnt D b (f+1) n p:Nat))),by simp,rfl,rfl⟩)
 refine walkS ?_
 refine aw_condS rfl (fun n8=>?_) (fun n8=>?_)
 ·have HA:=option_c hD hM hb H hr hn G n8 p hp (a+1)
  rw [show a+1 - 1=a by omega] at HA
  (repeat (first|refine walkS ?_|refine vS 0 (HA) ?_))
  (refine rtS Tryz.results179 ?_;exact ⟨_,[],.inl ⟨rfl,rfl⟩,_,(chk D b (a+(cnt D b (f+1) n p:Nat)):List Eng.D).map .d,[],rfl,toZL_d _ (chk D b (a+(cnt D b (f+1) n p:Nat))),by simp,rfl,rfl⟩)
 refine walkS ?_
 refine aw_condS rfl (fun n9=>?_) (fun n9=>?_)
 ·have HA:=checked_c hD hM hb H hr hn G n9 p hp (a+1)
  rw [show a+1 - 1=a by omega] at HA
  (repeat (first|refine walkS ?_|refine vS 0 (HA) ?_))
  (refine rtS Tryz.results179 ?_;exact ⟨_,[],.inl ⟨rfl,rfl⟩,_,(chk D b (a+(cnt D b (f+1) n p:Nat)):List Eng.D).map .d,[],rfl,toZL_d _ (chk D b (a+(cnt D b (f+1) n p:Nat))),by simp,rfl,rfl⟩)
 have n10:r.kind=10:=by omega
 have hh:=head_get (G.k10 n10)
 have hC:=cnt_0 (b:=b) (f:=f) (p:=p) hrd (.inr (.inr n10))
 cases ht:readTerm b p (r.bytes.headD 0) with
 | none=>
  (repeat (first|refine walkS ?_|(refine callPre ?_;(first|refine callN_funS rfl ((rtI_c hb p hp (r.bytes.headD 0)).eqv (r1:=.d (.tup [encB [],iD p,bD false])) (by rw [rtR,rdT,ht])) ?_))|(refine callPreL ?_;(first|refine callL_funS rfl ((rtI_c hb p hp (r.bytes.headD 0)).eqv (r1:=.d (.tup [encB [],iD p,bD false])) (by rw [rtR,rdT,ht])) ?_))))
  refine aw_condS rfl (fun hc=>?_) (fun hc=>?_)
  ·refine walkS ?_
   (refine rtS Tryz.results179 ?_;exact ⟨_,[],.inl ⟨rfl,rfl⟩,_,(chk D b (a+1):List Eng.D).map .d,[],rfl,toZL_d _ (chk D b (a+1)),by simp,by rw [rd_10n hrd n10 ht];rfl,by rw [hC];rfl⟩)
  ·(first|exact absurd trivial hc|exact absurd rfl hc|(cases hc;done)|omega|exact absurd hc (by decide)|(simp at hc;done))
 | some y=>
  (repeat (first|refine walkS ?_|(refine callPre ?_;(first|refine callN_funS rfl ((rtI_c hb p hp (r.bytes.headD 0)).eqv (r1:=.d (.tup [encB y.1,iD (y.2:Nat),bD true])) (by rw [rtR,rdT,ht])) ?_))|(refine callPreL ?_;(first|refine callL_funS rfl ((rtI_c hb p hp (r.bytes.headD 0)).eqv (r1:=.d (.tup [encB y.1,iD (y.2:Nat),bD true])) (by rw [rtR,rdT,ht])) ?_))))
  refine aw_condS rfl (fun hc=>?_) (fun hc=>?_)
  ·(first|exact absurd trivial hc|exact absurd rfl hc|(cases hc;done)|omega|exact absurd hc (by decide)|(simp at hc;done))
  ·refine walkS ?_
   (refine rtS Tryz.results179 ?_;exact ⟨_,[],.inl ⟨rfl,rfl⟩,_,(chk D b (a+1):List Eng.D).map .d,[],rfl,toZL_d _ (chk D b (a+1)),by simp,by rw [rd_10s hrd n10 ht];rfl,by rw [hC];rfl⟩)
theorem value_all (hD:DB M D) (hM:M≤1048576) (hb:b.length≤1048576) (hV:descP D):∀ f,CkOK D b f
 | 0=>fun n p a h=>by omega
 | f+1=>value_step hD hM hb hV (value_all hD hM hb hV f)
end
end Go.Proofs.YtomfggmmhkpeeaaGreatDoor.Eng
namespace Go.Proofs.YtomfggmmhkpeeaaGreatDoor.Eng
open Go Go.RowKit

section
variable {M:Nat}{D:List RuleD}{b:List UInt8}
theorem wrap0:IntKind.i64.wrap 0=0:=by decide

theorem checkValueI_c (hD:DB M D) (hM:M≤1048576) (hb:b.length≤1048576) (i p:Int):AC Tryz.prog 156 [.d (encD D),.d (iD i),.d (encB b),.d (iD p)] none (fun r' _=>r'=chR (readV D b i p)):=by
 have no:¬(vKnown D i=true∧(0≤p∧p≤b.length)∧b.length≤400)→readV D b i p=(V0,0,8):=fun h=>if_neg h
 by_cases hv:vKnown D i=true
 ·by_cases hp0:p<0
  ·have e1:decide (p<0)=true:=decide_eq_true hp0
   refine cbS Tryz.func156 rfl Tryz.call156 Tryz.ntmps156 fun en hsz hks hk0=>?_;refine enS ?_
   (repeat (first|refine ctlS ?_|(refine ol_go ?_ (fun K1 hK1=>?_);exact trS;refine evS ?_;(try simp only [e1]);refine hK1 _ _ ?_;clear hK1 K1)|(refine ow_go ?_ dsS (fun K1 hK1=>?_);exact trS;refine evS ?_;(try simp only [e1]);refine hK1 _ ?_;clear hK1 K1)|refine skipS ?_|(refine callPre ?_;(first|refine callN_funS rfl ((known_c hD hM i).eqv (r1:=.d (bD true)) (by rw [hv])) ?_))|(refine callPreL ?_;(first|refine callL_funS rfl ((known_c hD hM i).eqv (r1:=.d (bD true)) (by rw [hv])) ?_))))
   refine aw_condS rfl (fun hc=>?_) (fun hc=>?_)
   ·refine walkS ?_
    (refine rtS Tryz.results156 ?_;exact ⟨_,_,.inl ⟨rfl,rfl⟩,List.nodup_nil,by rw [no (fun h=>by omega)];rfl⟩)
   ·(first|exact absurd trivial hc|exact absurd rfl hc|(cases hc;done)|omega|exact absurd hc (by decide)|(simp at hc;done))
  ·have e1:decide (p<0)=false:=decide_eq_false hp0
   by_cases hp1:(b.length:Int)<p
   ·have e2:decide ((b.length:Int)<p)=true:=decide_eq_true hp1
    refine cbS Tryz.func156 rfl Tryz.call156 Tryz.ntmps156 fun en hsz hks hk0=>?_;refine enS ?_
    (repeat (first|refine ctlS ?_|(refine ol_go ?_ (fun K1 hK1=>?_);exact trS;refine evS ?_;(try simp only [e1,e2]);refine hK1 _ _ ?_;clear hK1 K1)|(refine ow_go ?_ dsS (fun K1 hK1=>?_);exact trS;refine evS ?_;(try simp only [e1,e2]);refine hK1 _ ?_;clear hK1 K1)|refine skipS ?_|(refine callPre ?_;(first|refine callN_funS rfl ((known_c hD hM i).eqv (r1:=.d (bD true)) (by rw [hv])) ?_))|(refine callPreL ?_;(first|refine callL_funS rfl ((known_c hD hM i).eqv (r1:=.d (bD true)) (by rw [hv])) ?_))))
    refine aw_condS rfl (fun hc=>?_) (fun hc=>?_)
    ·refine walkS ?_
     (refine rtS Tryz.results156 ?_;exact ⟨_,_,.inl ⟨rfl,rfl⟩,List.nodup_nil,by rw [no (fun h=>by omega)];rfl⟩)
    ·(first|exact absurd trivial hc|exact absurd rfl hc|(cases hc;done)|omega|exact absurd hc (by decide)|(simp at hc;done))
   ·have e2:decide ((b.length:Int)<p)=false:=decide_eq_false hp1
    refine cbS Tryz.func156 rfl Tryz.call156 Tryz.ntmps156 fun en hsz hks hk0=>?_;refine enS ?_
    (repeat (first|refine ctlS ?_|(refine ol_go ?_ (fun K1 hK1=>?_);exact trS;refine evS ?_;(try simp only [e1,e2]);refine hK1 _ _ ?_;clear hK1 K1)|(refine ow_go ?_ dsS (fun K1 hK1=>?_);exact trS;refine evS ?_;(try simp only [e1,e2]);refine hK1 _ ?_;clear hK1 K1)|refine skipS ?_|(refine callPre ?_;(first|refine callN_funS rfl ((known_c hD hM i).eqv (r1:=.d (bD true)) (by rw [hv])) ?_))|(refine callPreL ?_;(first|refine callL_funS rfl ((known_c hD hM i).eqv (r1:=.d (bD true)) (by rw [hv])) ?_))))
    refine aw_condS rfl (fun hc=>?_) (fun hc=>?_)
    ·refine walkS ?_
     (refine rtS Tryz.results156 ?_;exact ⟨_,_,.inl ⟨rfl,rfl⟩,List.nodup_nil,by rw [no (fun h=>by omega)];rfl⟩)
    ·have hyes:readV D b i p=rd D b D.length i.toNat p.toNat:=if_pos ⟨hv,by omega,by omega⟩
     obtain ⟨v1,v2,v3⟩:=vKnown_spec hv
     have HV:=value_all hD hM hb v1 D.length i.toNat p.toNat 0 (by omega) (by omega) (by omega)
     rw [Int.toNat_of_nonneg v2,Int.toNat_of_nonneg (by omega),←hyes] at HV
     simp only [chk,wrap0] at HV
     (repeat (first|refine walkS ?_|refine vS 48 (HV) ?_))
     (refine rtS Tryz.results156 ?_;exact ⟨_,_,.inl ⟨rfl,rfl⟩,List.nodup_nil,rfl⟩)
 ·have hv':vKnown D i=false:=by simpa using hv
  refine cbS Tryz.func156 rfl Tryz.call156 Tryz.ntmps156 fun en hsz hks hk0=>?_;refine enS ?_
  (repeat (first|refine walkS ?_|(refine callPre ?_;(first|refine callN_funS rfl ((known_c hD hM i).eqv (r1:=.d (bD false)) (by rw [hv'])) ?_))|(refine callPreL ?_;(first|refine callL_funS rfl ((known_c hD hM i).eqv (r1:=.d (bD false)) (by rw [hv'])) ?_))))
  refine aw_condS rfl (fun hc=>?_) (fun hc=>?_)
  ·refine walkS ?_
   (refine rtS Tryz.results156 ?_;exact ⟨_,_,.inl ⟨rfl,rfl⟩,List.nodup_nil,by rw [no (fun h=>hv h.1)];rfl⟩)
  ·(first|exact absurd trivial hc|exact absurd rfl hc|(cases hc;done)|omega|exact absurd hc (by decide)|(simp at hc;done))
end
end Go.Proofs.YtomfggmmhkpeeaaGreatDoor.Eng
