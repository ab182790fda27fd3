/-
 Integers, consts, bytes of a file.

 Items of a file.

 The kinds of rules that the reference reads by their items.

 The kinds of rules that the reference reads by their items: options and what is checked.

 The reference's reader.
-/
import Derived.Test.YtomfggmmhkpeeaaGreatDoorKN38A
import Derived.Test.YtomfggmmhkpeeaaGreatDoorKNE
set_option linter.unusedSimpArgs false
set_option linter.unusedVariables false
set_option linter.defProp false
set_option maxRecDepth 100000
set_option maxHeartbeats 4000000
namespace Go.Proofs.YtomfggmmhkpeeaaGreatDoor.Eng
open Go Go.RowKit

def intRes (r:RuleD) (b:List UInt8) (p:Nat):Nat × Nat × Bool:=match intAt r b p with
 | some n=>(n,p+r.size.toNat,true)
 | none=>(0,p,false)
theorem intRes_no {r:RuleD}{b:List UInt8}{p:Nat} (h:(b.length:Int) - p<r.size):intRes r b p=(0,p,false):=by simp [intRes,intAt,h]
theorem intRes_yes {r:RuleD}{b:List UInt8}{p:Nat} (h:¬(b.length:Int) - p<r.size):intRes r b p=(readInt ((b.drop p).take r.size.toNat) r.little,p+r.size.toNat,true):=by simp [intRes,intAt,h]
theorem intRes_none {r:RuleD}{b:List UInt8}{p:Nat} (h:intAt r b p=none):intRes r b p=(0,p,false):=by simp [intRes,h]
theorem intRes_some {r:RuleD}{b:List UInt8}{p m:Nat} (h:intAt r b p=some m):intRes r b p=(m,p+r.size.toNat,true):=by simp [intRes,h]
abbrev intR (r:RuleD) (b:List UInt8) (p:Nat):Rz:=.d (.tup [iD (intRes r b p).1,iD (intRes r b p).2.1,bD (intRes r b p).2.2])
abbrev rdR (x:V × Nat × Nat):Rz:=.d (.tup [encV x.1,iD x.2.1,iD x.2.2])

section
variable {M:Nat}{D:List RuleD}{b:List UInt8}
private def tyF:=ai (ai (ai tg25 (ai tg27 tg32)) (ai tg86 (ai tg87 tg29))) (ai (ai tg34 (ai tg89 tg3)) (ai tg4 (ai tg5 tg9)))
theorem l11Integer_c (hD:DB M D) (hM:M≤1048576) (hb:b.length≤1048576) {n:Nat}{r:RuleD} (hr:D[n]?=some r) (hsz':1≤r.size∧r.size≤4) (p:Nat) (hp:p≤b.length):AC Tryz.prog 53 [.d (encD D),.d (iD n),.d (encB b),.d (iD p)] none (fun r' _=>r'=intR r b p):=by
 refine cbS Tryz.func53 rfl Tryz.call53 Tryz.ntmps53 fun en hsz hks hk0=>?_;refine enS ?_
 refine walkS ?_
 refine aw_condS rfl (fun hc=>?_) (fun hc=>?_)
 ·refine walkS ?_
  (refine rtS Tryz.results53 ?_;exact ⟨_,_,.inl ⟨rfl,rfl⟩,List.nodup_nil,by rw [intR,intRes_no hc];rfl⟩)
 ·(repeat (first|refine walkS ?_|refine cS (readIntS_c r.little) ?_))
  (refine rtS Tryz.results53 ?_;exact ⟨_,_,.inl ⟨rfl,rfl⟩,List.nodup_nil,by rw [intR,intRes_yes hc,show ((p:Int)+r.size).toNat - p=r.size.toNat by omega];simp;omega⟩)

abbrev constR (r:RuleD) (b:List UInt8) (p:Nat):Rz:=rdR (V0,constAt b p 0 r.bytes)
theorem l11Const_c {r:RuleD} (hr:RB M r) (hM:M≤1048576) (hb:b.length≤1048576) (p:Nat) (hp:p≤b.length):AC Tryz.prog 54 [.d (encR r),.d (encB b),.d (iD p)] none (fun r' _=>r'=constR r b p):=by
 have hl:=hr.lb
 refine cbS Tryz.func54 rfl Tryz.call54 Tryz.ntmps54 fun en hsz hks hk0=>?_;refine enS ?_
 refine walkS ?_
 refine aw_loopS [1,2,3,6,7,8] (fun _ _=>[]) (fun _ k=>[(9,.d (iD (k:Nat)))]) [] (fun _ _=>[]) [] (fun _ _=>[]) (fun k=>k≤r.bytes.length∧p+k≤b.length∧constAt b p 0 r.bytes=constAt b p k (r.bytes.drop k)) (fun k=>r.bytes.length - k) (0) hks (fun _=>rfl) ⟨Nat.zero_le _,hp,rfl⟩ wkS ?_;intro x hx;refine headS ?_
 obtain ⟨hx1,hx2,hx3⟩:=hx
 refine walkS ?_
 refine aw_condS rfl (fun hk=>?_) (fun hk=>?_)
 ·have hd:r.bytes.drop x=r.bytes[x]'(by omega)::r.bytes.drop (x+1):=List.drop_eq_getElem_cons (by omega)
  rw [hd] at hx3
  refine walkS ?_
  refine aw_condS rfl (fun hs=>?_) (fun hs=>?_)
  ·refine walkS ?_
   (refine rtS Tryz.results54 ?_;refine ⟨_,[],.inr (.inl ⟨.tup [encV V0,iD (p:Int),iD 1],rfl,rfl,?_⟩),List.nodup_nil,by rw [constR,hx3,constAt_short (by omega)];rfl⟩;exact wkDS)
  ·have hi:b[p+x]?=some (b[p+x]'(by omega)):=List.getElem?_eq_getElem (by omega)
   have hpx:((p:Int)+x).toNat=p+x:=by omega
   (repeat (first|refine ctlS ?_|(refine ol_go ?_ (fun K1 hK1=>?_);exact trS;refine evS ?_;(try rw [hpx]);(first|refine ⟨_,idx_some _ hi,?_⟩|skip);refine hK1 _ _ ?_;clear hK1 K1)|(refine ow_go ?_ dsS (fun K1 hK1=>?_);exact trS;refine evS ?_;(try rw [hpx]);(first|refine ⟨_,idx_some _ hi,?_⟩|skip);refine hK1 _ ?_;clear hK1 K1)|refine skipS ?_))
   refine aw_condS rfl (fun hn=>?_) (fun hn=>?_)
   ·refine walkS ?_
    (refine rtS Tryz.results54 ?_;refine ⟨_,[],.inr (.inl ⟨.tup [encV V0,iD ((p:Int)+x),iD 2],rfl,rfl,?_⟩),List.nodup_nil,by rw [constR,hx3,constAt_bad (by omega) (u8_ninj hn)];rfl⟩;exact wkDS)
   ·refine walkS ?_
    refine ⟨x+1,⟨by omega,by omega,by rw [hx3,constAt_step (by omega) (u8_inj hn)]⟩,by omega,?_⟩
    exact wkS
 ·refine walkS ?_
  (refine rtS Tryz.results54 ?_;refine ⟨_,[],.inr (.inl ⟨.tup [encV V0,iD ((p:Int)+r.bytes.length),iD 0],rfl,rfl,?_⟩),List.nodup_nil,by rw [constR,hx3,List.drop_eq_nil_of_le (by omega),constAt_end,show x=r.bytes.length by omega];rfl⟩;exact wkDS)

theorem l11Bytes_c (hb:b.length≤1048576) (p:Nat) (hp:p≤b.length) (n:Nat) (hn:n≤4294967296):AC Tryz.prog 55 [.d (encB b),.d (iD p),.d (iD n)] none (fun r' _=>r'=rdR (bytesAt b p n)):=by
 refine cbS Tryz.func55 rfl Tryz.call55 Tryz.ntmps55 fun en hsz hks hk0=>?_;refine enS ?_
 refine walkS ?_
 refine aw_condS rfl (fun hc=>?_) (fun hc=>?_)
 ·refine walkS ?_
  (refine rtS Tryz.results55 ?_;refine ⟨_,[],.inr (.inl ⟨.tup [encV V0,iD (p:Int),iD 1],rfl,rfl,?_⟩),List.nodup_nil,by rw [bytesAt_no (by omega)];rfl⟩;exact wkDS)
 ·have hlen:(List.take (((p:Int)+n).toNat - p) (List.drop p b)).length≤1048576:=by simp;omega
  refine walkS ?_
  (refine rtS Tryz.results55 ?_;refine ⟨_,[],.inr (.inl ⟨.tup [encV (.mk 0 (List.take (((p:Int)+n).toNat - p) (List.drop p b)) []),iD ((p:Int)+n),iD 0],rfl,rfl,?_⟩),List.nodup_nil,by rw [bytesAt_yes (by omega),show ((p:Int)+n).toNat - p=n by omega];rfl⟩;exact wkDS)
end
end Go.Proofs.YtomfggmmhkpeeaaGreatDoor.Eng
namespace Go.Proofs.YtomfggmmhkpeeaaGreatDoor.Eng
open Go Go.RowKit

section
variable {M:Nat}{D:List RuleD}{b:List UInt8}
def ReadOK (D:List RuleD) (b:List UInt8) (f:Nat):Prop:=∀ n p:Nat,n<f→n<D.length→p≤b.length→AC Tryz.prog 31 [.d (encD D),.d (iD n),.d (encB b),.d (iD p)] none (fun r _=>r=rdR (rd D b f n p))

theorem l11Items_c {f:Nat} (H:ReadOK D b f) {r:RuleD} (hr:RB M r) (hM:M≤1048576) (number:Int) (h5:r.kind=5→2≤r.kids.length) (h7:r.kind=7→r.kids.length=r.tags.length+1) (h8:r.kind=8∨r.kind=9→1≤r.kids.length)
  (ks:List Nat) (hkl:ks.length≤1048576) (hkr:∀ i (hi:i<ks.length),itemK r number i=(ks[i]:Int)∧ks[i]<f∧ks[i]<D.length) (p:Nat) (hp:p≤b.length):AC Tryz.prog 57 [.d (encD D),.d (encR r),.d (iD number),.d (iD ks.length),.d (encB b),.d (iD p)] none (fun r' _=>r'=rdR (mkItems 0 (rdItems (rd D b f) ks p))):=by
 refine cbS Tryz.func57 rfl Tryz.call57 Tryz.ntmps57 fun en hsz hks hk0=>?_;refine enS ?_
 refine walkS ?_
 refine aw_loopS [2,3,4,6,7,12,13,14,15] (fun κ s'=>[(κ,keyB s' 64 2)]) (fun κ x=>[(16,.d (iD (x.1:Nat))),(5,.d (iD (x.2.1:Nat)))]) [64] (fun κ x=>[(64,some [.d (iD 0),.d (.v (.slice none 0 0)),.own κ 29 3 (encVs x.2.2)])]) [] (fun κ x=>[(κ,some (x.2.2.length,29,3))]) (fun x:Nat × Nat × List V=>x.1≤ks.length∧x.2.1≤b.length∧x.2.2.length=x.1∧rdItems (rd D b f) ks p=joinItems x.2.2 (rdItems (rd D b f) (ks.drop x.1) x.2.1)) (fun x=>ks.length - x.1) ((0,p,[])) hks (fun _=>rfl) ⟨Nat.zero_le _,hp,rfl,joinItems_start _ _ _⟩ wkS ?_;intro x hx;refine headS ?_
 obtain ⟨k,q,vs⟩:=x
 simp only at hx ⊢
 obtain ⟨hx1,hx2,hx3,hx4⟩:=hx
 refine walkS ?_
 refine aw_condS rfl (fun hk=>?_) (fun hk=>?_)
 ·obtain ⟨hk1,hk2,hk3⟩:=hkr k (by omega)
  have hin:=rd_in D b f ks[k] q hx2
  (repeat (first|refine walkS ?_|(refine callPre ?_;(first|refine callN_funS rfl ((l9Item_c hr hM number k h5 h7 h8).eqv (r1:=.d (iD (ks[k]:Nat))) (by rw [hk1])) ?_|refine callN_funS rfl (H _ _ hk2 hk3 hx2) ?_))|(refine callPreL ?_;(first|refine callL_funS rfl ((l9Item_c hr hM number k h5 h7 h8).eqv (r1:=.d (iD (ks[k]:Nat))) (by rw [hk1])) ?_|refine callL_funS rfl (H _ _ hk2 hk3 hx2) ?_))))
  generalize hres:rd D b f ks[k] q=res at *
  obtain ⟨v,q2,c⟩:=res
  obtain ⟨hin1,hin2⟩:=hin
  simp only at hin1 hin2
  have hdk:ks.drop k=ks[k]::ks.drop (k+1):=List.drop_eq_getElem_cons (by omega)
  refine aw_condS rfl (fun hcode=>?_) (fun hcode=>?_)
  ·refine walkS ?_
   have hbad:=joinItems_bad (f:=rd D b f) (vs:=vs) (k:=ks[k]) (ks:=ks.drop (k+1)) (q:=q) (by rw [hres];simp only;omega)
   (refine rtS Tryz.results57 ?_;refine ⟨_,[],.inr (.inl ⟨.tup [encV V0,iD (q2:Int),iD (c:Int)],rfl,rfl,?_⟩),List.nodup_nil,by rw [hx4,hdk,hbad,hres];simp only [mkItems];rw [if_neg (by omega)]⟩;exact wkDS)
  ·have hok:=joinItems_ok (f:=rd D b f) (vs:=vs) (k:=ks[k]) (ks:=ks.drop (k+1)) (q:=q) (by rw [hres];simp only;omega)
   refine walkS ?_
   refine ⟨(k+1,q2,vs++[v]),⟨by simp only;omega,hin2,by simp [hx3],by simp only;rw [hx4,hdk,hok,hres]⟩,by simp only;omega,?_⟩
   exact wkS
 ·refine walkS ?_
  (refine rtS Tryz.results57 ?_;refine ⟨_,[],.inr (.inl ⟨.tup [encV (.mk 0 [] vs),iD (q:Int),iD 0],rfl,rfl,?_⟩),List.nodup_nil,by rw [hx4,List.drop_eq_nil_of_le (by omega),joinItems_end];rfl⟩;exact wkDS)
end
end Go.Proofs.YtomfggmmhkpeeaaGreatDoor.Eng
namespace Go.Proofs.YtomfggmmhkpeeaaGreatDoor.Eng
open Go Go.RowKit

section
variable {M:Nat}{D:List RuleD}{b:List UInt8}
theorem l11Items_1 {f:Nat} (H:ReadOK D b f) {r:RuleD} (hr:RB M r) (hM:M≤1048576) (number:Int) (h5:r.kind=5→2≤r.kids.length) (h7:r.kind=7→r.kids.length=r.tags.length+1) (h8:r.kind=8∨r.kind=9→1≤r.kids.length)
  {x:Nat} (hx:itemK r number 0=(x:Int)∧x<f∧x<D.length) (p:Nat) (hp:p≤b.length):AC Tryz.prog 57 [.d (encD D),.d (encR r),.d (iD number),.d (iD 1),.d (encB b),.d (iD p)] none (fun r' _=>r'=rdR (mkItems 0 (rdItems (rd D b f) [x] p))):=
 l11Items_c H hr hM number h5 h7 h8 [x] (by simp) (fun i hi=>by
  have:i=0:=by simpa using hi
  subst this
  exact hx) p hp

theorem l11Choice_c (hD:DB M D) (hM:M≤1048576) (hb:b.length≤1048576) {f:Nat} (H:ReadOK D b f) {n:Nat}{r:RuleD} (hr:D[n]?=some r) (hn:n≤f) (G:GoodR D n r) (hk:r.kind=7) (p:Nat) (hp:p≤b.length):AC Tryz.prog 58 [.d (encD D),.d (encR r),.d (encB b),.d (iD p)] none (fun r' _=>r'=rdR (rd D b (f+1) n p)):=by
 have hrb:=hD.rule r (List.mem_of_getElem? hr)
 obtain ⟨g1,g2⟩:=G.k7 hk
 obtain ⟨j,q,ej,hj,hq,hqr⟩:=kid_int g2
 have hkid:r.kids[0]?=some (j:Int):=by rw [kids0 (by omega),ej]
 have hrd:=ruleD_get hr
 have hnl:n<D.length:=(List.getElem?_eq_some_iff.1 hr).1
 cases hi:intAt q b p with
 | none=>
  refine cbS Tryz.func58 rfl Tryz.call58 Tryz.ntmps58 fun en hsz hks hk0=>?_;refine enS ?_
  (repeat (first|refine walkS ?_|(refine callPre ?_;(first|refine callN_funS rfl ((l11Integer_c hD hM hb hj hq p hp).eqv (r1:=.d (.tup [iD 0,iD p,bD false])) (by rw [intR,intRes_none hi];rfl)) ?_))|(refine callPreL ?_;(first|refine callL_funS rfl ((l11Integer_c hD hM hb hj hq p hp).eqv (r1:=.d (.tup [iD 0,iD p,bD false])) (by rw [intR,intRes_none hi];rfl)) ?_))))
  refine aw_condS rfl (fun hc=>?_) (fun hc=>?_)
  ·refine walkS ?_
   (refine rtS Tryz.results58 ?_;refine ⟨_,[],.inr (.inl ⟨.tup [encV V0,iD (p:Int),iD 1],rfl,rfl,?_⟩),List.nodup_nil,by rw [rd_7n hrd hk (by rw [hqr];exact hi)];rfl⟩;exact wkDS)
  ·cases hc
 | some m=>
  obtain ⟨hi1,hi2⟩:=intAt_in hi hp
  cases ht:tagIx r.tags m with
  | none=>
   refine cbS Tryz.func58 rfl Tryz.call58 Tryz.ntmps58 fun en hsz hks hk0=>?_;refine enS ?_
   (repeat (first|refine walkS ?_|(refine callPre ?_;(first|refine callN_funS rfl ((l11Integer_c hD hM hb hj hq p hp).eqv (r1:=.d (.tup [iD (m:Nat),iD ((p+q.size.toNat:Nat):Int),bD true])) (by rw [intR,intRes_some hi])) ?_|refine callN_funS rfl ((l9Item_c hrb hM (m:Nat) 0 (by omega) (by omega) (by omega)).eqv (r1:=.d (iD (-1))) (by rw [itemK_7n hk ht])) ?_))|(refine callPreL ?_;(first|refine callL_funS rfl ((l11Integer_c hD hM hb hj hq p hp).eqv (r1:=.d (.tup [iD (m:Nat),iD ((p+q.size.toNat:Nat):Int),bD true])) (by rw [intR,intRes_some hi])) ?_|refine callL_funS rfl ((l9Item_c hrb hM (m:Nat) 0 (by omega) (by omega) (by omega)).eqv (r1:=.d (iD (-1))) (by rw [itemK_7n hk ht])) ?_))))
   refine aw_condS rfl (fun hc=>?_) (fun hc=>?_)
   ·cases hc
   (repeat (first|refine walkS ?_|(refine callPre ?_;(first|refine callN_funS rfl ((l9Item_c hrb hM (m:Nat) 0 (by omega) (by omega) (by omega)).eqv (r1:=.d (iD (-1))) (by rw [itemK_7n hk ht])) ?_))|(refine callPreL ?_;(first|refine callL_funS rfl ((l9Item_c hrb hM (m:Nat) 0 (by omega) (by omega) (by omega)).eqv (r1:=.d (iD (-1))) (by rw [itemK_7n hk ht])) ?_))))
   refine aw_condS rfl (fun hc=>?_) (fun hc=>?_)
   ·refine walkS ?_
    (refine rtS Tryz.results58 ?_;refine ⟨_,[],.inr (.inl ⟨.tup [encV V0,iD (p:Int),iD 3],rfl,rfl,?_⟩),List.nodup_nil,by rw [rd_7t hrd hk (by rw [hqr];exact hi) ht];rfl⟩;exact wkDS)
   ·(first|exact absurd trivial hc|exact absurd rfl hc|(cases hc;done)|omega|exact absurd hc (by decide)|(simp at hc;done))
  | some k=>
   have hkl:=tagIx_lt ht
   obtain ⟨x,hx⟩:∃ x:Nat,r.kids[k+1]'(by omega)=(x:Int):=⟨(r.kids[k+1]'(by omega)).toNat,by have:=(G.kid (k+1) (by omega)).1;omega⟩
   have hxn:x<n:=by have:=(G.kid (k+1) (by omega)).2;omega
   have hxd:(r.kids.getD (k+1) 0).toNat=x:=by rw [List.getD_eq_getElem?_getD,List.getElem?_eq_getElem (by omega),Option.getD_some,hx];omega
   have hit:itemK r m 0=(x:Int):=by rw [itemK_7 hk ht (by omega),hx]
   have hfin:=rd_7s (f:=f) hrd hk (by rw [hqr];exact hi) ht
   rw [hxd,hqr] at hfin
   have HI:=l11Items_1 H hrb hM (m:Nat) (by omega) (by omega) (by omega) ⟨hit,by omega,by omega⟩ (p+q.size.toNat) (by omega)
   generalize rdItems (rd D b f) [x] (p+q.size.toNat)=y at HI hfin
   obtain ⟨vs,q2,c⟩:=y
   by_cases hc0:c=0
   ·subst hc0
    refine cbS Tryz.func58 rfl Tryz.call58 Tryz.ntmps58 fun en hsz hks hk0=>?_;refine enS ?_
    (repeat (first|refine walkS ?_|(refine callPre ?_;(first|refine callN_funS rfl ((l11Integer_c hD hM hb hj hq p hp).eqv (r1:=.d (.tup [iD (m:Nat),iD ((p+q.size.toNat:Nat):Int),bD true])) (by rw [intR,intRes_some hi])) ?_))|(refine callPreL ?_;(first|refine callL_funS rfl ((l11Integer_c hD hM hb hj hq p hp).eqv (r1:=.d (.tup [iD (m:Nat),iD ((p+q.size.toNat:Nat):Int),bD true])) (by rw [intR,intRes_some hi])) ?_))))
    refine aw_condS rfl (fun hc=>?_) (fun hc=>?_)
    ·cases hc
    (repeat (first|refine walkS ?_|(refine callPre ?_;(first|refine callN_funS rfl ((l9Item_c hrb hM (m:Nat) 0 (by omega) (by omega) (by omega)).eqv (r1:=.d (iD (x:Nat))) (by rw [hit])) ?_))|(refine callPreL ?_;(first|refine callL_funS rfl ((l9Item_c hrb hM (m:Nat) 0 (by omega) (by omega) (by omega)).eqv (r1:=.d (iD (x:Nat))) (by rw [hit])) ?_))))
    refine aw_condS rfl (fun hc=>?_) (fun hc=>?_)
    ·omega
    (repeat (first|refine walkS ?_|refine cS (HI.eqv (r1:=.d (.tup [encV (.mk 0 [] vs),iD q2,iD 0])) rfl) ?_))
    refine aw_condS rfl (fun hc=>?_) (fun hc=>?_)
    ·refine walkS ?_
     (refine rtS Tryz.results58 ?_;refine ⟨_,[],.inr (.inl ⟨.tup [encV (.mk m [] vs),iD (q2:Int),iD 0],rfl,rfl,?_⟩),List.nodup_nil,by rw [hfin];rfl⟩;exact wkDS)
    ·exact absurd rfl hc
   ·have e0:mkItems 0 (vs,q2,c)=(V0,q2,c):=by simp [mkItems,hc0]
    have e1:mkItems m (vs,q2,c)=(V0,q2,c):=by simp [mkItems,hc0]
    refine cbS Tryz.func58 rfl Tryz.call58 Tryz.ntmps58 fun en hsz hks hk0=>?_;refine enS ?_
    (repeat (first|refine walkS ?_|(refine callPre ?_;(first|refine callN_funS rfl ((l11Integer_c hD hM hb hj hq p hp).eqv (r1:=.d (.tup [iD (m:Nat),iD ((p+q.size.toNat:Nat):Int),bD true])) (by rw [intR,intRes_some hi])) ?_))|(refine callPreL ?_;(first|refine callL_funS rfl ((l11Integer_c hD hM hb hj hq p hp).eqv (r1:=.d (.tup [iD (m:Nat),iD ((p+q.size.toNat:Nat):Int),bD true])) (by rw [intR,intRes_some hi])) ?_))))
    refine aw_condS rfl (fun hc=>?_) (fun hc=>?_)
    ·cases hc
    (repeat (first|refine walkS ?_|(refine callPre ?_;(first|refine callN_funS rfl ((l9Item_c hrb hM (m:Nat) 0 (by omega) (by omega) (by omega)).eqv (r1:=.d (iD (x:Nat))) (by rw [hit])) ?_))|(refine callPreL ?_;(first|refine callL_funS rfl ((l9Item_c hrb hM (m:Nat) 0 (by omega) (by omega) (by omega)).eqv (r1:=.d (iD (x:Nat))) (by rw [hit])) ?_))))
    refine aw_condS rfl (fun hc=>?_) (fun hc=>?_)
    ·omega
    (repeat (first|refine walkS ?_|(refine callPre ?_;(first|refine callN_funS rfl (HI.eqv (r1:=.d (.tup [encV V0,iD q2,iD c])) (by rw [e0])) ?_))|(refine callPreL ?_;(first|refine callL_funS rfl (HI.eqv (r1:=.d (.tup [encV V0,iD q2,iD c])) (by rw [e0])) ?_))))
    refine aw_condS rfl (fun hc=>?_) (fun hc=>?_)
    ·omega
    ·refine walkS ?_
     (refine rtS Tryz.results58 ?_;refine ⟨_,[],.inr (.inl ⟨.tup [encV V0,iD (q2:Int),iD (c:Int)],rfl,rfl,?_⟩),List.nodup_nil,by rw [hfin,e1]⟩;exact wkDS)
end
end Go.Proofs.YtomfggmmhkpeeaaGreatDoor.Eng
namespace Go.Proofs.YtomfggmmhkpeeaaGreatDoor.Eng
open Go Go.RowKit

section
variable {M:Nat}{D:List RuleD}{b:List UInt8}

theorem u8le (c:UInt8):(c.toNat:Int)≤255:=by have:=c.toNat_lt;omega
theorem replicate_get {n x i:Nat} (h:i<(List.replicate n x).length):(List.replicate n x)[i]=x:=by simp
theorem l11Items_n {f:Nat} (H:ReadOK D b f) {r:RuleD} (hr:RB M r) (hM:M≤1048576) (number:Int) (h5:r.kind=5→2≤r.kids.length) (h7:r.kind=7→r.kids.length=r.tags.length+1) (h8:r.kind=8∨r.kind=9→1≤r.kids.length)
  {x:Nat} (n:Nat) (hn:n≤1048576) (hx:∀ i,itemK r number i=(x:Int)) (hxf:x<f∧x<D.length) (p:Nat) (hp:p≤b.length):AC Tryz.prog 57 [.d (encD D),.d (encR r),.d (iD number),.d (iD (n:Nat)),.d (encB b),.d (iD p)] none (fun r' _=>r'=rdR (mkItems 0 (rdItems (rd D b f) (List.replicate n x) p))):=by
 have:=l11Items_c H hr hM number h5 h7 h8 (List.replicate n x) (by simpa using hn) (fun i hi=>by rw [replicate_get hi];exact ⟨hx i,hxf⟩) p hp
 rwa [List.length_replicate] at this
theorem kid_nat {n:Nat}{r:RuleD} (G:GoodR D n r) (h:0<r.kids.length):∃ x:Nat,kid0 r=x∧x<n:=by
 have h1:=kids0 h
 have h2:=G.kid 0 h
 rw [List.getElem?_eq_getElem h] at h1
 have h3:=Option.some.inj h1
 exact ⟨(kid0 r).toNat,by omega,by omega⟩

theorem l11Option_c (hD:DB M D) (hM:M≤1048576) (hb:b.length≤1048576) {f:Nat} (H:ReadOK D b f) {n:Nat}{r:RuleD} (hr:D[n]?=some r) (hn:n≤f) (G:GoodR D n r) (hk:r.kind=8) (p:Nat) (hp:p≤b.length):AC Tryz.prog 59 [.d (encD D),.d (encR r),.d (encB b),.d (iD p)] none (fun r' _=>r'=rdR (rd D b (f+1) n p)):=by
 have hrb:=hD.rule r (List.mem_of_getElem? hr)
 have g1:=G.k8 hk
 obtain ⟨x,ex,hx⟩:=kid_nat G (by omega)
 have hrd:=ruleD_get hr
 have hnl:n<D.length:=(List.getElem?_eq_some_iff.1 hr).1
 cases hc0:b[p]? with
 | none=>
  have hpl:b.length≤p:=List.getElem?_eq_none_iff.1 hc0
  refine cbS Tryz.func59 rfl Tryz.call59 Tryz.ntmps59 fun en hsz hks hk0=>?_;refine enS ?_
  refine walkS ?_
  refine aw_condS rfl (fun hc=>?_) (fun hc=>?_)
  ·refine walkS ?_
   (refine rtS Tryz.results59 ?_;refine ⟨_,[],.inr (.inl ⟨.tup [encV V0,iD (p:Int),iD 1],rfl,rfl,?_⟩),List.nodup_nil,by rw [rd_8n hrd hk hc0];rfl⟩;exact wkDS)
  ·omega
 | some c=>
  have hpl:=get_lt hc0
  have hle:=u8le c
  by_cases h1:1<c.toNat
  ·refine cbS Tryz.func59 rfl Tryz.call59 Tryz.ntmps59 fun en hsz hks hk0=>?_;refine enS ?_
   refine walkS ?_
   refine aw_condS rfl (fun hc=>?_) (fun hc=>?_)
   ·omega
   refine walkS ?_
   refine aw_condS rfl (fun hc=>?_) (fun hc=>?_)
   ·refine walkS ?_
    (refine rtS Tryz.results59 ?_;refine ⟨_,[],.inr (.inl ⟨.tup [encV V0,iD (p:Int),iD 4],rfl,rfl,?_⟩),List.nodup_nil,by rw [rd_8f hrd hk hc0 h1];rfl⟩;exact wkDS)
   ·omega
  ·have hfin:=rd_8s (f:=f) hrd hk hc0 h1
   rw [show (kid0 r).toNat=x by omega] at hfin
   have HI:=l11Items_n H hrb hM 0 (by omega) (by omega) (by omega) c.toNat (by omega) (fun i=>(itemK_8 (i:=i) (n:=0) (.inl hk)).trans ex) ⟨by omega,by omega⟩ (p+1) (by omega)
   refine cbS Tryz.func59 rfl Tryz.call59 Tryz.ntmps59 fun en hsz hks hk0=>?_;refine enS ?_
   refine walkS ?_
   refine aw_condS rfl (fun hc=>?_) (fun hc=>?_)
   ·omega
   refine walkS ?_
   refine aw_condS rfl (fun hc=>?_) (fun hc=>?_)
   ·omega
   rw [←hfin] at HI
   (repeat (first|refine walkS ?_|refine cS (HI) ?_))
   (refine rtS Tryz.results59 ?_;exact ⟨_,_,.inl ⟨rfl,rfl⟩,List.nodup_nil,rfl⟩)

theorem l11Checked_c (hD:DB M D) (hM:M≤1048576) (hb:b.length≤1048576) {f:Nat} (H:ReadOK D b f) {n:Nat}{r:RuleD} (hr:D[n]?=some r) (hn:n≤f) (G:GoodR D n r) (hk:r.kind=9) (p:Nat) (hp:p≤b.length):AC Tryz.prog 60 [.d (encD D),.d (encR r),.d (encB b),.d (iD p)] none (fun r' _=>r'=rdR (rd D b (f+1) n p)):=by
 have hrb:=hD.rule r (List.mem_of_getElem? hr)
 have g1:=G.k9 hk
 obtain ⟨x,ex,hx⟩:=kid_nat G (by omega)
 have hrd:=ruleD_get hr
 have hnl:n<D.length:=(List.getElem?_eq_some_iff.1 hr).1
 have HI:=l11Items_1 H hrb hM 0 (by omega) (by omega) (by omega) (x:=x) ⟨(itemK_8 (.inr hk)).trans ex,by omega,by omega⟩ p hp
 have hin:=mkItems_in (n:=0) (rdItems_in (fun k p hp=>rd_in D b f k p hp) [x] p hp)
 have ex':(kid0 r).toNat=x:=by omega
 cases hm:mkItems 0 (rdItems (rd D b f) [x] p) with
 | mk v y=>
  obtain ⟨q,c⟩:=y
  rw [hm] at HI hin
  obtain ⟨hin1,hin2⟩:=hin
  simp only at hin1 hin2
  rw [←ex'] at hm
  by_cases hc0:c=0
  ·subst hc0
   cases hq:b[q]? with
   | none=>
    have hpl:b.length≤q:=List.getElem?_eq_none_iff.1 hq
    have hfin:=rd_9n hrd hk hm hq
    refine cbS Tryz.func60 rfl Tryz.call60 Tryz.ntmps60 fun en hsz hks hk0=>?_;refine enS ?_
    (repeat (first|refine walkS ?_|refine cS (HI) ?_))
    refine aw_condS rfl (fun hc=>?_) (fun hc=>?_)
    ·exact absurd rfl hc
    refine walkS ?_
    refine aw_condS rfl (fun hc=>?_) (fun hc=>?_)
    ·refine walkS ?_
     (refine rtS Tryz.results60 ?_;refine ⟨_,[],.inr (.inl ⟨.tup [encV V0,iD (q:Int),iD 1],rfl,rfl,?_⟩),List.nodup_nil,by rw [hfin];rfl⟩;exact wkDS)
    ·omega
   | some s=>
    have hpl:=get_lt hq
    have hle:=u8le s
    by_cases hs:s.toNat=sumB ((b.drop p).take (q - p))
    ·have hfin:=rd_9s hrd hk hm hq hs
     refine cbS Tryz.func60 rfl Tryz.call60 Tryz.ntmps60 fun en hsz hks hk0=>?_;refine enS ?_
     (repeat (first|refine walkS ?_|refine cS (HI) ?_))
     refine aw_condS rfl (fun hc=>?_) (fun hc=>?_)
     ·exact absurd rfl hc
     refine walkS ?_
     refine aw_condS rfl (fun hc=>?_) (fun hc=>?_)
     ·omega
     (repeat (first|refine walkS ?_|(refine callPre ?_;(first|refine callN_funS rfl ((sumS_c (l:=List.take (q - p) (List.drop p b)) (by simp;omega))) ?_))|(refine callPreL ?_;(first|refine callL_funS rfl ((sumS_c (l:=List.take (q - p) (List.drop p b)) (by simp;omega))) ?_))))
     refine aw_condS rfl (fun hc=>?_) (fun hc=>?_)
     ·omega
     ·refine walkS ?_
      (refine rtS Tryz.results60 ?_;exact ⟨_,_,.inl ⟨rfl,rfl⟩,List.nodup_nil,by rw [hfin];rfl⟩)
    ·have hfin:=rd_9f hrd hk hm hq hs
     refine cbS Tryz.func60 rfl Tryz.call60 Tryz.ntmps60 fun en hsz hks hk0=>?_;refine enS ?_
     (repeat (first|refine walkS ?_|refine cS (HI) ?_))
     refine aw_condS rfl (fun hc=>?_) (fun hc=>?_)
     ·exact absurd rfl hc
     refine walkS ?_
     refine aw_condS rfl (fun hc=>?_) (fun hc=>?_)
     ·omega
     (repeat (first|refine walkS ?_|(refine callPre ?_;(first|refine callN_funS rfl ((sumS_c (l:=List.take (q - p) (List.drop p b)) (by simp;omega))) ?_))|(refine callPreL ?_;(first|refine callL_funS rfl ((sumS_c (l:=List.take (q - p) (List.drop p b)) (by simp;omega))) ?_))))
     refine aw_condS rfl (fun hc=>?_) (fun hc=>?_)
     ·refine walkS ?_
      (refine rtS Tryz.results60 ?_;refine ⟨_,[],.inr (.inl ⟨.tup [encV V0,iD (q:Int),iD 5],rfl,rfl,?_⟩),List.nodup_nil,by rw [hfin];rfl⟩;exact wkDS)
     ·omega
  ·have hfin:=rd_9e hrd hk hm hc0
   refine cbS Tryz.func60 rfl Tryz.call60 Tryz.ntmps60 fun en hsz hks hk0=>?_;refine enS ?_
   (repeat (first|refine walkS ?_|refine cS (HI) ?_))
   refine aw_condS rfl (fun hc=>?_) (fun hc=>?_)
   ·refine walkS ?_
    (refine rtS Tryz.results60 ?_;exact ⟨_,_,.inl ⟨rfl,rfl⟩,List.nodup_nil,by rw [hfin]⟩)
   ·omega
end
end Go.Proofs.YtomfggmmhkpeeaaGreatDoor.Eng
namespace Go.Proofs.YtomfggmmhkpeeaaGreatDoor.Eng
open Go Go.RowKit

section
variable {M:Nat}{D:List RuleD}{b:List UInt8}
theorem head_get {l:List UInt8} (h:l.length=1):l[0]?=some (l.headD 0):=by
 match l,h with
 | [x],_=>rfl
theorem seq_ks {n f:Nat}{r:RuleD} (G:GoodR D n r) (hk:r.kind=6) (hn:n≤f) (hnl:n<D.length):∀ i (hi:i<(r.kids.map Int.toNat).length),itemK r 0 i=(((r.kids.map Int.toNat)[i]:Nat):Int)∧(r.kids.map Int.toNat)[i]<f∧(r.kids.map Int.toNat)[i]<D.length:=fun i hi=>by
 have hi':i<r.kids.length:=by simpa using hi
 have:=G.kid i hi'
 rw [itemK_6 hk hi',List.getElem_map]
 omega

theorem l11Read_step (hD:DB M D) (hM:M≤1048576) (hb:b.length≤1048576) (hV:descP D) {f:Nat} (H:ReadOK D b f):ReadOK D b (f+1):=fun n p hnf hnl hp=>by
 obtain ⟨r,hr⟩:∃ r,D[n]?=some r:=⟨_,List.getElem?_eq_getElem hnl⟩
 have G:GoodR D n r:=good_of hV hr
 have hrb:=hD.rule r (List.mem_of_getElem? hr)
 have hrd:=ruleD_get hr
 have hn:n≤f:=by omega
 have hlk:=hrb.lk
 obtain ⟨kd1,kd2⟩:=G.kd
 refine cbS Tryz.func31 rfl Tryz.call31 Tryz.ntmps31 fun en hsz hks hk0=>?_;refine enS ?_
 refine walkS ?_
 refine aw_condS rfl (fun n1=>?_) (fun n1=>?_)
 ·cases hi:intAt r b p with
  | none=>
   (repeat (first|refine walkS ?_|(refine callPre ?_;(first|refine callN_funS rfl ((l11Integer_c hD hM hb hr (G.k1 n1) p hp).eqv (r1:=.d (.tup [iD 0,iD p,bD false])) (by rw [intR,intRes_none hi];rfl)) ?_))|(refine callPreL ?_;(first|refine callL_funS rfl ((l11Integer_c hD hM hb hr (G.k1 n1) p hp).eqv (r1:=.d (.tup [iD 0,iD p,bD false])) (by rw [intR,intRes_none hi];rfl)) ?_))))
   refine aw_condS rfl (fun hc=>?_) (fun hc=>?_)
   ·refine walkS ?_
    (refine rtS Tryz.results31 ?_;refine ⟨_,[],.inr (.inl ⟨.tup [encV V0,iD (p:Int),iD 1],rfl,rfl,?_⟩),List.nodup_nil,by rw [rd_1n hrd n1 hi];rfl⟩;exact wkDS)
   ·cases hc
  | some m=>
   (repeat (first|refine walkS ?_|(refine callPre ?_;(first|refine callN_funS rfl ((l11Integer_c hD hM hb hr (G.k1 n1) p hp).eqv (r1:=.d (.tup [iD (m:Nat),iD ((p+r.size.toNat:Nat):Int),bD true])) (by rw [intR,intRes_some hi])) ?_))|(refine callPreL ?_;(first|refine callL_funS rfl ((l11Integer_c hD hM hb hr (G.k1 n1) p hp).eqv (r1:=.d (.tup [iD (m:Nat),iD ((p+r.size.toNat:Nat):Int),bD true])) (by rw [intR,intRes_some hi])) ?_))))
   refine aw_condS rfl (fun hc=>?_) (fun hc=>?_)
   ·cases hc
   ·refine walkS ?_
    (refine rtS Tryz.results31 ?_;refine ⟨_,[],.inr (.inl ⟨.tup [encV (.mk m [] []),iD ((p+r.size.toNat:Nat):Int),iD 0],rfl,rfl,?_⟩),List.nodup_nil,by rw [rd_1s hrd n1 hi];rfl⟩;exact wkDS)
 refine walkS ?_
 refine aw_condS rfl (fun n2=>?_) (fun n2=>?_)
 ·(repeat (first|refine walkS ?_|refine cS (l11Const_c hrb hM hb p hp) ?_))
  (refine rtS Tryz.results31 ?_;exact ⟨_,_,.inl ⟨rfl,rfl⟩,List.nodup_nil,by rw [rd_2 hrd n2]⟩)
 refine walkS ?_
 refine aw_condS rfl (fun n3=>?_) (fun n3=>?_)
 ·have hk3:=G.k3 n3
  have HB:=l11Bytes_c hb p hp r.size.toNat (by omega)
  rw [Int.toNat_of_nonneg (by omega)] at HB
  (repeat (first|refine walkS ?_|refine cS (HB) ?_))
  (refine rtS Tryz.results31 ?_;exact ⟨_,_,.inl ⟨rfl,rfl⟩,List.nodup_nil,by rw [rd_3 hrd n3]⟩)
 refine walkS ?_
 refine aw_condS rfl (fun n10=>?_) (fun n10=>?_)
 ·have hh:=head_get (G.k10 n10)
  cases ht:readTerm b p (r.bytes.headD 0) with
  | none=>
   (repeat (first|refine walkS ?_|(refine callPre ?_;(first|refine callN_funS rfl ((rtS_c hb p hp (r.bytes.headD 0)).eqv (r1:=.d (.tup [encB [],iD p,bD false])) (by rw [rtR,rdT,ht])) ?_))|(refine callPreL ?_;(first|refine callL_funS rfl ((rtS_c hb p hp (r.bytes.headD 0)).eqv (r1:=.d (.tup [encB [],iD p,bD false])) (by rw [rtR,rdT,ht])) ?_))))
   refine aw_condS rfl (fun hc=>?_) (fun hc=>?_)
   ·refine walkS ?_
    (refine rtS Tryz.results31 ?_;refine ⟨_,[],.inr (.inl ⟨.tup [encV V0,iD (p:Int),iD 1],rfl,rfl,?_⟩),List.nodup_nil,by rw [rd_10n hrd n10 ht];rfl⟩;exact wkDS)
   ·cases hc
  | some y=>
   (repeat (first|refine walkS ?_|(refine callPre ?_;(first|refine callN_funS rfl ((rtS_c hb p hp (r.bytes.headD 0)).eqv (r1:=.d (.tup [encB y.1,iD (y.2:Nat),bD true])) (by rw [rtR,rdT,ht])) ?_))|(refine callPreL ?_;(first|refine callL_funS rfl ((rtS_c hb p hp (r.bytes.headD 0)).eqv (r1:=.d (.tup [encB y.1,iD (y.2:Nat),bD true])) (by rw [rtR,rdT,ht])) ?_))))
   refine aw_condS rfl (fun hc=>?_) (fun hc=>?_)
   ·cases hc
   ·refine walkS ?_
    (refine rtS Tryz.results31 ?_;refine ⟨_,[],.inr (.inl ⟨.tup [encV (.mk 0 y.1 []),iD (y.2:Nat),iD 0],rfl,rfl,?_⟩),List.nodup_nil,by rw [rd_10s hrd n10 ht];rfl⟩;exact wkDS)
 refine walkS ?_
 refine aw_condS rfl (fun n6=>?_) (fun n6=>?_)
 ·have HI:=l11Items_c H hrb hM 0 (by omega) (by omega) (by omega) (r.kids.map Int.toNat) (by simp;omega) (seq_ks G n6 hn hnl) p hp
  rw [List.length_map] at HI
  (repeat (first|refine walkS ?_|refine cS (HI) ?_))
  (refine rtS Tryz.results31 ?_;exact ⟨_,_,.inl ⟨rfl,rfl⟩,List.nodup_nil,by rw [rd_6 hrd n6]⟩)
 refine walkS ?_
 refine aw_condS rfl (fun n7=>?_) (fun n7=>?_)
 ·(repeat (first|refine walkS ?_|refine cS (l11Choice_c hD hM hb H hr hn G n7 p hp) ?_))
  (refine rtS Tryz.results31 ?_;exact ⟨_,_,.inl ⟨rfl,rfl⟩,List.nodup_nil,rfl⟩)
 refine walkS ?_
 refine aw_condS rfl (fun n8=>?_) (fun n8=>?_)
 ·(repeat (first|refine walkS ?_|refine cS (l11Option_c hD hM hb H hr hn G n8 p hp) ?_))
  (refine rtS Tryz.results31 ?_;exact ⟨_,_,.inl ⟨rfl,rfl⟩,List.nodup_nil,rfl⟩)
 refine walkS ?_
 refine aw_condS rfl (fun n9=>?_) (fun n9=>?_)
 ·(repeat (first|refine walkS ?_|refine cS (l11Checked_c hD hM hb H hr hn G n9 p hp) ?_))
  (refine rtS Tryz.results31 ?_;exact ⟨_,_,.inl ⟨rfl,rfl⟩,List.nodup_nil,rfl⟩)
 have h45:r.kind=4∨r.kind=5:=by omega
 have hl0:0≤limD D (kid0 r):=by
  rcases h45 with h|h
  ·have:=(G.k4 h).2;omega
  ·have:=(G.k5 h).2;omega
 have hkl:0<r.kids.length:=by
  rcases h45 with h|h
  ·have:=(G.k4 h).1;omega
  ·have:=(G.k5 h).1;omega
 obtain ⟨j,q,ej,hj,hq,hqr⟩:=kid_int hl0
 have hkid:r.kids[0]?=some (j:Int):=by rw [kids0 hkl,ej]
 cases hi:intAt q b p with
 | none=>
  have hfin:=rd_45n (f:=f) hrd h45 (by rw [hqr];exact hi)
  (repeat (first|refine walkS ?_|(refine callPre ?_;(first|refine callN_funS rfl ((l11Integer_c hD hM hb hj hq p hp).eqv (r1:=.d (.tup [iD 0,iD p,bD false])) (by rw [intR,intRes_none hi];rfl)) ?_))|(refine callPreL ?_;(first|refine callL_funS rfl ((l11Integer_c hD hM hb hj hq p hp).eqv (r1:=.d (.tup [iD 0,iD p,bD false])) (by rw [intR,intRes_none hi];rfl)) ?_))))
  refine aw_condS rfl (fun hc=>?_) (fun hc=>?_)
  ·refine walkS ?_
   (refine rtS Tryz.results31 ?_;refine ⟨_,[],.inr (.inl ⟨.tup [encV V0,iD (p:Int),iD 1],rfl,rfl,?_⟩),List.nodup_nil,by rw [hfin];rfl⟩;exact wkDS)
  ·cases hc
 | some m=>
  obtain ⟨hi1,hi2⟩:=intAt_in hi hp
  (repeat (first|refine walkS ?_|(refine callPre ?_;(first|refine callN_funS rfl ((l11Integer_c hD hM hb hj hq p hp).eqv (r1:=.d (.tup [iD (m:Nat),iD ((p+q.size.toNat:Nat):Int),bD true])) (by rw [intR,intRes_some hi])) ?_))|(refine callPreL ?_;(first|refine callL_funS rfl ((l11Integer_c hD hM hb hj hq p hp).eqv (r1:=.d (.tup [iD (m:Nat),iD ((p+q.size.toNat:Nat):Int),bD true])) (by rw [intR,intRes_some hi])) ?_))))
  refine aw_condS rfl (fun hc=>?_) (fun hc=>?_)
  ·cases hc
  refine walkS ?_
  refine aw_condS rfl (fun n4=>?_) (fun n4=>?_)
  ·have hfin:=rd_4s (f:=f) hrd n4 (by rw [hqr];exact hi)
   rw [hqr] at hfin
   (repeat (first|refine walkS ?_|(refine callPre ?_;(first|refine callN_funS rfl (l11Bytes_c hb (p+q.size.toNat) (by omega) m (by omega)) ?_))|(refine callPreL ?_;(first|refine callL_funS rfl (l11Bytes_c hb (p+q.size.toNat) (by omega) m (by omega)) ?_))))
   (refine rtS Tryz.results31 ?_;exact ⟨_,_,.inl ⟨rfl,rfl⟩,List.nodup_nil,by rw [hfin]⟩)
  refine walkS ?_
  refine aw_condS rfl (fun n40=>?_) (fun n40=>?_)
  ·have hfin:=rd_5c (f:=f) hrd (by omega) (by rw [hqr];exact hi) (by omega)
   refine walkS ?_
   (refine rtS Tryz.results31 ?_;refine ⟨_,[],.inr (.inl ⟨.tup [encV V0,iD (p:Int),iD 6],rfl,rfl,?_⟩),List.nodup_nil,by rw [hfin];rfl⟩;exact wkDS)
  ·have k5:r.kind=5:=by omega
   have g5:=(G.k5 k5).1
   have hfin:=rd_5s (f:=f) hrd k5 (by rw [hqr];exact hi) (by omega)
   rw [hqr] at hfin
   obtain ⟨x,hx⟩:∃ x:Nat,kid1 r=(x:Int)∧x<n:=by
    have h1:=kids1 (r:=r) (by omega)
    have h2:=G.kid 1 (by omega)
    rw [List.getElem?_eq_getElem (by omega)] at h1
    have h3:=Option.some.inj h1
    exact ⟨(kid1 r).toNat,by omega,by omega⟩
   rw [show (kid1 r).toNat=x by omega] at hfin
   have HI:=l11Items_n H hrb hM 0 (by omega) (by omega) (by omega) m (by omega) (fun i=>(itemK_5 (i:=i) (n:=0) k5).trans hx.1) ⟨by omega,by omega⟩ (p+q.size.toNat) (by omega)
   (repeat (first|refine walkS ?_|refine cS (HI) ?_))
   (refine rtS Tryz.results31 ?_;exact ⟨_,_,.inl ⟨rfl,rfl⟩,List.nodup_nil,by rw [hfin]⟩)
theorem l11Read_all (hD:DB M D) (hM:M≤1048576) (hb:b.length≤1048576) (hV:descP D):∀ f,ReadOK D b f
 | 0=>fun n p h=>by omega
 | f+1=>l11Read_step hD hM hb hV (l11Read_all hD hM hb hV f)
end
end Go.Proofs.YtomfggmmhkpeeaaGreatDoor.Eng
