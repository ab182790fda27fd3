/-
 Parts of files: where the items of a part begin (the reference).

 Parts of files: what is known of their items.
-/
import Derived.Test.YtomfggmmhkpeeaaGreatDoorKNR
import Derived.Test.YtomfggmmhkpeeaaGreatDoorKNFS
import Derived.Test.YtomfggmmhkpeeaaGreatDoorKPG1
set_option linter.unusedSimpArgs false
set_option linter.unusedVariables false
set_option linter.defProp false
set_option maxRecDepth 100000
set_option maxHeartbeats 4000000
namespace Go.Proofs.YtomfggmmhkpeeaaGreatDoor.Eng
open Go Go.RowKit

section
variable {M:Nat}{D:List RuleD}{b:List UInt8}
def entR (x:Option (Nat × Int × List Nat)) (p:Nat):Rz:=match x with
 | some (q,n,ks)=>.d (.tup [iD q,iD (ks.length:Nat),iD n])
 | none=>.d (.tup [iD p,iD (-1),iD 0])
theorem items_6 {r:RuleD}{p:Nat} (h:r.kind=6):itemsAt D r b p=some (p,0,r.kids.map Int.toNat):=by unfold itemsAt;rw [if_pos h]
theorem items_9 {r:RuleD}{p:Nat} (h:r.kind=9):itemsAt D r b p=some (p,0,[(kid0 r).toNat]):=by unfold itemsAt;rw [if_neg (by omega),if_pos h]
theorem items_8 {r:RuleD}{p:Nat} (h:r.kind=8):itemsAt D r b p=if b[p]?=some 1 then some (p+1,0,[(kid0 r).toNat]) else none:=by unfold itemsAt;rw [if_neg (by omega),if_neg (by omega),if_pos h]
theorem items_5n {r:RuleD}{p:Nat} (h:r.kind=5) (hi:intAt (ruleD D (kid0 r)) b p=none):itemsAt D r b p=none:=by unfold itemsAt;rw [if_neg (by omega),if_neg (by omega),if_neg (by omega),if_pos h,hi]
theorem items_5 {r:RuleD}{p n:Nat} (h:r.kind=5) (hi:intAt (ruleD D (kid0 r)) b p=some n):itemsAt D r b p=if n≤40 then some (p+(ruleD D (kid0 r)).size.toNat,0,List.replicate n (kid1 r).toNat) else none:=by unfold itemsAt;rw [if_neg (by omega),if_neg (by omega),if_neg (by omega),if_pos h,hi]
theorem items_7n {r:RuleD}{p:Nat} (h:r.kind=7) (hi:intAt (ruleD D (kid0 r)) b p=none):itemsAt D r b p=none:=by unfold itemsAt;rw [if_neg (by omega),if_neg (by omega),if_neg (by omega),if_neg (by omega),if_pos h,hi]
theorem items_7t {r:RuleD}{p n:Nat} (h:r.kind=7) (hi:intAt (ruleD D (kid0 r)) b p=some n) (ht:tagIx r.tags n=none):itemsAt D r b p=none:=by unfold itemsAt;rw [if_neg (by omega),if_neg (by omega),if_neg (by omega),if_neg (by omega),if_pos h,hi];simp only [ht]
theorem items_7 {r:RuleD}{p n k:Nat} (h:r.kind=7) (hi:intAt (ruleD D (kid0 r)) b p=some n) (ht:tagIx r.tags n=some k):itemsAt D r b p=some (p+(ruleD D (kid0 r)).size.toNat,(n:Int),[(r.kids.getD (k+1) 0).toNat]):=by unfold itemsAt;rw [if_neg (by omega),if_neg (by omega),if_neg (by omega),if_neg (by omega),if_pos h,hi];simp only [ht]
theorem items_no {r:RuleD}{p:Nat} (h5:r.kind≠5) (h6:r.kind≠6) (h7:r.kind≠7) (h8:r.kind≠8) (h9:r.kind≠9):itemsAt D r b p=none:=by unfold itemsAt;rw [if_neg h6,if_neg h9,if_neg h8,if_neg h5,if_neg h7]
private def tyF:=ai (ai (ai tg25 tg32) (ai tg86 (ai tg87 tg34))) (ai (ai tg89 tg3) (ai tg4 (ai tg5 tg9)))
theorem enterS_c (hD:DB M D) (hM:M≤1048576) (hb:b.length≤1048576) {n:Nat}{r:RuleD} (hr:D[n]?=some r) (G:GoodR D n r) (p:Nat) (hp:p≤b.length):AC Tryz.prog 149 [.d (encD D),.d (encR r),.d (encB b),.d (iD p)] none (fun r' _=>r'=entR (itemsAt D r b p) p):=by
 have hrb:=hD.rule r (List.mem_of_getElem? hr)
 have hlk:=hrb.lk
 refine cbS Tryz.func149 rfl Tryz.call149 Tryz.ntmps149 fun en hsz hks hk0=>?_;refine enS ?_
 refine walkS ?_
 refine aw_condS rfl (fun k6=>?_) (fun k6=>?_)
 ·rw [items_6 k6]
  refine walkS ?_
  (refine rtS Tryz.results149 ?_;exact ⟨_,_,.inl ⟨rfl,rfl⟩,List.nodup_nil,by simp [entR]⟩)
 refine walkS ?_
 refine aw_condS rfl (fun k9=>?_) (fun k9=>?_)
 ·rw [items_9 k9]
  refine walkS ?_
  (refine rtS Tryz.results149 ?_;exact ⟨_,_,.inl ⟨rfl,rfl⟩,List.nodup_nil,rfl⟩)
 refine walkS ?_
 refine aw_condS rfl (fun k8=>?_) (fun k8=>?_)
 ·rw [items_8 k8]
  by_cases hlt:p<b.length
  ·have d1:decide ((p:Int)<(b.length:Int))=true:=decide_eq_true (by omega)
   have e1:IntKind.i64.wrap ((p:Int)+1)=((p+1:Nat):Int):=by rw [wrap_small (by omega) (by omega)];omega
   have i1:b[p]?=some (b[p]'hlt):=List.getElem?_eq_getElem hlt
   (repeat (first|refine ctlS ?_|(refine ol_go ?_ (fun K1 hK1=>?_);exact trS;refine evS ?_;(try simp only [d1,e1]);refine hK1 _ _ ?_;clear hK1 K1)|(refine ow_go ?_ dsS (fun K1 hK1=>?_);exact trS;refine evS ?_;(try simp only [d1,e1]);refine hK1 _ ?_;clear hK1 K1)|refine skipS ?_))
   refine aw_condS rfl (fun hc=>?_) (fun hc=>?_)
   ·have h1:b[p]=1:=u8_inj (y:=1) hc
    rw [i1,h1,if_pos rfl]
    (repeat (first|refine ctlS ?_|(refine ol_go ?_ (fun K1 hK1=>?_);exact trS;refine evS ?_;(try simp only [e1]);refine hK1 _ _ ?_;clear hK1 K1)|(refine ow_go ?_ dsS (fun K1 hK1=>?_);exact trS;refine evS ?_;(try simp only [e1]);refine hK1 _ ?_;clear hK1 K1)|refine skipS ?_))
    (refine rtS Tryz.results149 ?_;exact ⟨_,_,.inl ⟨rfl,rfl⟩,List.nodup_nil,rfl⟩)
   ·have h1:b[p]≠1:=fun h=>hc (by rw [h];rfl)
    rw [i1,if_neg (fun h=>h1 (Option.some.inj h))]
    refine walkS ?_
    (refine rtS Tryz.results149 ?_;exact ⟨_,_,.inl ⟨rfl,rfl⟩,List.nodup_nil,rfl⟩)
  ·have d1:decide ((p:Int)<(b.length:Int))=false:=decide_eq_false (by omega)
   have i1:b[p]?=none:=List.getElem?_eq_none (by omega)
   rw [i1,if_neg (by simp)]
   (repeat (first|refine ctlS ?_|(refine ol_go ?_ (fun K1 hK1=>?_);exact trS;refine evS ?_;(try simp only [d1]);refine hK1 _ _ ?_;clear hK1 K1)|(refine ow_go ?_ dsS (fun K1 hK1=>?_);exact trS;refine evS ?_;(try simp only [d1]);refine hK1 _ ?_;clear hK1 K1)|refine skipS ?_|refine aw_condT rfl ?_|refine aw_condF rfl ?_))
   (refine rtS Tryz.results149 ?_;exact ⟨_,_,.inl ⟨rfl,rfl⟩,List.nodup_nil,rfl⟩)
 refine walkS ?_
 refine aw_condS rfl (fun k5=>?_) (fun k5=>?_)
 ·obtain ⟨g1,g2⟩:=G.k5 k5
  obtain ⟨j,q,ej,hj,hq,hqr⟩:=kid_int (show 0≤limD D (kid0 r) by omega)
  have hkid:r.kids[0]?=some (j:Int):=by rw [kids0 (by omega),ej]
  have c5:(r.kind==5)=true:=beq_iff_eq.2 k5
  simp only [c5]
  cases hi:intAt q b p with
  | none=>
   rw [items_5n k5 (by rw [hqr];exact hi)]
   (repeat (first|refine ctlS ?_|(refine ol_go ?_ (fun K1 hK1=>?_);exact trS;refine evS ?_;(try simp only [c5]);refine hK1 _ _ ?_;clear hK1 K1)|(refine ow_go ?_ dsS (fun K1 hK1=>?_);exact trS;refine evS ?_;(try simp only [c5]);refine hK1 _ ?_;clear hK1 K1)|refine skipS ?_|(refine callPre ?_;(first|refine callN_funS rfl ((l11Integer_c hD hM hb hj hq p hp).eqv (r1:=.d (.tup [iD 0,iD p,bD false])) (by rw [intR,intRes_none hi];rfl)) ?_))|(refine callPreL ?_;(first|refine callL_funS rfl ((l11Integer_c hD hM hb hj hq p hp).eqv (r1:=.d (.tup [iD 0,iD p,bD false])) (by rw [intR,intRes_none hi];rfl)) ?_))|refine aw_condT rfl ?_|refine aw_condF rfl ?_))
   (refine rtS Tryz.results149 ?_;exact ⟨_,_,.inl ⟨rfl,rfl⟩,List.nodup_nil,rfl⟩)
  | some m=>
   obtain ⟨hi1,hi2⟩:=intAt_in hi hp
   rw [items_5 k5 (by rw [hqr];exact hi),hqr]
   by_cases hm:m≤40
   ·have d1:decide ((m:Int)≤40)=true:=decide_eq_true (by omega)
    rw [if_pos hm]
    (repeat (first|refine ctlS ?_|(refine ol_go ?_ (fun K1 hK1=>?_);exact trS;refine evS ?_;(try simp only [c5,d1]);refine hK1 _ _ ?_;clear hK1 K1)|(refine ow_go ?_ dsS (fun K1 hK1=>?_);exact trS;refine evS ?_;(try simp only [c5,d1]);refine hK1 _ ?_;clear hK1 K1)|refine skipS ?_|(refine callPre ?_;(first|refine callN_funS rfl ((l11Integer_c hD hM hb hj hq p hp).eqv (r1:=.d (.tup [iD (m:Nat),iD ((p+q.size.toNat:Nat):Int),bD true])) (by rw [intR,intRes_some hi])) ?_))|(refine callPreL ?_;(first|refine callL_funS rfl ((l11Integer_c hD hM hb hj hq p hp).eqv (r1:=.d (.tup [iD (m:Nat),iD ((p+q.size.toNat:Nat):Int),bD true])) (by rw [intR,intRes_some hi])) ?_))|refine aw_condT rfl ?_|refine aw_condF rfl ?_))
    (refine rtS Tryz.results149 ?_;exact ⟨_,_,.inl ⟨rfl,rfl⟩,List.nodup_nil,by simp [entR]⟩)
   ·have d1:decide ((m:Int)≤40)=false:=decide_eq_false (by omega)
    have c7:(r.kind==7)=false:=by rw [beq_eq_false_iff_ne];omega
    rw [if_neg hm]
    (repeat (first|refine ctlS ?_|(refine ol_go ?_ (fun K1 hK1=>?_);exact trS;refine evS ?_;(try simp only [c5,c7,d1]);refine hK1 _ _ ?_;clear hK1 K1)|(refine ow_go ?_ dsS (fun K1 hK1=>?_);exact trS;refine evS ?_;(try simp only [c5,c7,d1]);refine hK1 _ ?_;clear hK1 K1)|refine skipS ?_|(refine callPre ?_;(first|refine callN_funS rfl ((l11Integer_c hD hM hb hj hq p hp).eqv (r1:=.d (.tup [iD (m:Nat),iD ((p+q.size.toNat:Nat):Int),bD true])) (by rw [intR,intRes_some hi])) ?_))|(refine callPreL ?_;(first|refine callL_funS rfl ((l11Integer_c hD hM hb hj hq p hp).eqv (r1:=.d (.tup [iD (m:Nat),iD ((p+q.size.toNat:Nat):Int),bD true])) (by rw [intR,intRes_some hi])) ?_))|refine aw_condT rfl ?_|refine aw_condF rfl ?_))
    (refine rtS Tryz.results149 ?_;exact ⟨_,_,.inl ⟨rfl,rfl⟩,List.nodup_nil,rfl⟩)
 have c5:(r.kind==5)=false:=by rw [beq_eq_false_iff_ne];omega
 refine walkS ?_
 refine aw_condS rfl (fun k7=>?_) (fun k7=>?_)
 ·obtain ⟨g1,g2⟩:=G.k7 k7
  obtain ⟨j,q,ej,hj,hq,hqr⟩:=kid_int g2
  have hkid:r.kids[0]?=some (j:Int):=by rw [kids0 (by omega),ej]
  have c7:(r.kind==7)=true:=beq_iff_eq.2 k7
  simp only [c7]
  cases hi:intAt q b p with
  | none=>
   rw [items_7n k7 (by rw [hqr];exact hi)]
   (repeat (first|refine ctlS ?_|(refine ol_go ?_ (fun K1 hK1=>?_);exact trS;refine evS ?_;(try simp only [c5,c7]);refine hK1 _ _ ?_;clear hK1 K1)|(refine ow_go ?_ dsS (fun K1 hK1=>?_);exact trS;refine evS ?_;(try simp only [c5,c7]);refine hK1 _ ?_;clear hK1 K1)|refine skipS ?_|(refine callPre ?_;(first|refine callN_funS rfl ((l11Integer_c hD hM hb hj hq p hp).eqv (r1:=.d (.tup [iD 0,iD p,bD false])) (by rw [intR,intRes_none hi];rfl)) ?_))|(refine callPreL ?_;(first|refine callL_funS rfl ((l11Integer_c hD hM hb hj hq p hp).eqv (r1:=.d (.tup [iD 0,iD p,bD false])) (by rw [intR,intRes_none hi];rfl)) ?_))|refine aw_condT rfl ?_|refine aw_condF rfl ?_))
   (refine rtS Tryz.results149 ?_;exact ⟨_,_,.inl ⟨rfl,rfl⟩,List.nodup_nil,rfl⟩)
  | some m=>
   obtain ⟨hi1,hi2⟩:=intAt_in hi hp
   have hI:=(l11Integer_c hD hM hb hj hq p hp).eqv (r1:=.d (.tup [iD (m:Nat),iD ((p+q.size.toNat:Nat):Int),bD true])) (by rw [intR,intRes_some hi])
   have hL:=l9Item_c hrb hM (m:Nat) 0 (by omega) (by omega) (by omega)
   cases ht:tagIx r.tags m with
   | none=>
    rw [items_7t k7 (by rw [hqr];exact hi) ht]
    rw [itemK_7n k7 ht] at hL
    have w0:decide ((0:Int)≤-1)=false:=rfl
    (repeat (first|refine ctlS ?_|(refine ol_go ?_ (fun K1 hK1=>?_);exact trS;refine evS ?_;(try simp only [c5,c7]);refine hK1 _ _ ?_;clear hK1 K1)|(refine ow_go ?_ dsS (fun K1 hK1=>?_);exact trS;refine evS ?_;(try simp only [c5,c7]);refine hK1 _ ?_;clear hK1 K1)|refine skipS ?_|refine cS (hI) ?_|refine aw_condT rfl ?_|refine aw_condF rfl ?_))
    (repeat (first|refine ctlS ?_|(refine ol_go ?_ (fun K1 hK1=>?_);exact trS;refine evS ?_;(try simp only [w0]);refine hK1 _ _ ?_;clear hK1 K1)|(refine ow_go ?_ dsS (fun K1 hK1=>?_);exact trS;refine evS ?_;(try simp only [w0]);refine hK1 _ ?_;clear hK1 K1)|refine skipS ?_|refine cS (hL) ?_|refine aw_condT rfl ?_|refine aw_condF rfl ?_))
    (refine rtS Tryz.results149 ?_;exact ⟨_,_,.inl ⟨rfl,rfl⟩,List.nodup_nil,rfl⟩)
   | some k=>
    have hkl:=tagIx_lt ht
    obtain ⟨x,hx⟩:∃ x:Nat,r.kids[k+1]'(by omega)=(x:Int):=⟨(r.kids[k+1]'(by omega)).toNat,by have:=(G.kid (k+1) (by omega)).1;omega⟩
    rw [items_7 k7 (by rw [hqr];exact hi) ht,hqr]
    rw [itemK_7 k7 ht (by omega),hx] at hL
    have w0:decide ((0:Int)≤(x:Int))=true:=decide_eq_true (by omega)
    (repeat (first|refine ctlS ?_|(refine ol_go ?_ (fun K1 hK1=>?_);exact trS;refine evS ?_;(try simp only [c5,c7]);refine hK1 _ _ ?_;clear hK1 K1)|(refine ow_go ?_ dsS (fun K1 hK1=>?_);exact trS;refine evS ?_;(try simp only [c5,c7]);refine hK1 _ ?_;clear hK1 K1)|refine skipS ?_|refine cS (hI) ?_|refine aw_condT rfl ?_|refine aw_condF rfl ?_))
    (repeat (first|refine ctlS ?_|(refine ol_go ?_ (fun K1 hK1=>?_);exact trS;refine evS ?_;(try simp only [w0]);refine hK1 _ _ ?_;clear hK1 K1)|(refine ow_go ?_ dsS (fun K1 hK1=>?_);exact trS;refine evS ?_;(try simp only [w0]);refine hK1 _ ?_;clear hK1 K1)|refine skipS ?_|refine cS (hL) ?_|refine aw_condT rfl ?_|refine aw_condF rfl ?_))
    (refine rtS Tryz.results149 ?_;exact ⟨_,_,.inl ⟨rfl,rfl⟩,List.nodup_nil,by simp [entR]⟩)
 ·have c7:(r.kind==7)=false:=by rw [beq_eq_false_iff_ne];exact k7
  simp only [c7]
  rw [items_no k5 k6 k7 k8 k9]
  (repeat (first|refine walkS ?_|refine aw_condT rfl ?_|refine aw_condF rfl ?_))
  (refine rtS Tryz.results149 ?_;exact ⟨_,_,.inl ⟨rfl,rfl⟩,List.nodup_nil,rfl⟩)
theorem step_5 {r:RuleD}{i:Nat} (h:r.kind=5):stepT r i=fmtN i:=by unfold stepT;rw [if_pos h]
theorem step_6 {r:RuleD}{i:Nat} (h:r.kind=6) (hi:i<r.names.length):stepT r i=r.names[i]:=by unfold stepT;rw [if_neg (by omega),if_pos ⟨h,hi⟩];simp [List.getD,hi]
theorem step_7 {r:RuleD} (h:r.kind=7):stepT r 0=⟨#[42]⟩:=by unfold stepT;rw [if_neg (by omega),if_neg (by omega),if_pos ⟨h,rfl⟩]
theorem step_8 {r:RuleD} (h:r.kind=8):stepT r 0=⟨#[63]⟩:=by unfold stepT;rw [if_neg (by omega),if_neg (by omega),if_neg (by omega),if_pos ⟨h,rfl⟩]
theorem step_9 {r:RuleD} (h:r.kind=9):stepT r 0=⟨#[43]⟩:=by unfold stepT;rw [if_neg (by omega),if_neg (by omega),if_neg (by omega),if_neg (by omega),if_pos ⟨h,rfl⟩]
theorem stepS_c {r:RuleD} (hrb:RB M r) (hM:M≤1048576) {i:Nat} (hi:i≤1048576) (hk:r.kind=5∨(r.kind=6∧i<r.names.length)∨((r.kind=7∨r.kind=8∨r.kind=9)∧i=0)):AC Tryz.prog 150 [.d (encR r),.d (iD i)] none (fun r' _=>r'=.d (sD (stepT r i))):=by
 have f1:=fmtS_c (n:=i) (by omega)
 have c0:(((0:Nat):Int)==0)=true:=rfl
 rcases hk with h|⟨h,hn⟩|⟨h|h|h,rfl⟩
 ·rw [step_5 h]
  have c5:(r.kind==5)=true:=beq_iff_eq.2 h
  refine cbS Tryz.func150 rfl Tryz.call150 Tryz.ntmps150 fun en hsz hks hk0=>?_;refine enS ?_
  (repeat (first|refine ctlS ?_|(refine ol_go ?_ (fun K1 hK1=>?_);exact trS;refine evS ?_;(try simp only [c5]);refine hK1 _ _ ?_;clear hK1 K1)|(refine ow_go ?_ dsS (fun K1 hK1=>?_);exact trS;refine evS ?_;(try simp only [c5]);refine hK1 _ ?_;clear hK1 K1)|refine skipS ?_|refine cS (f1) ?_|refine aw_condT rfl ?_|refine aw_condF rfl ?_))
  (refine rtS Tryz.results150 ?_;exact ⟨_,_,.inl ⟨rfl,rfl⟩,List.nodup_nil,rfl⟩)
 ·rw [step_6 h hn]
  have c5:(r.kind==5)=false:=by rw [beq_eq_false_iff_ne];omega
  have c6:(r.kind==6)=true:=beq_iff_eq.2 h
  have d1:decide ((i:Int)<(r.names.length:Int))=true:=decide_eq_true (by omega)
  have i1:r.names[i]?=some (r.names[i]'hn):=List.getElem?_eq_getElem hn
  refine cbS Tryz.func150 rfl Tryz.call150 Tryz.ntmps150 fun en hsz hks hk0=>?_;refine enS ?_
  (repeat (first|refine ctlS ?_|(refine ol_go ?_ (fun K1 hK1=>?_);exact trS;refine evS ?_;(try simp only [c5,c6,d1]);refine hK1 _ _ ?_;clear hK1 K1)|(refine ow_go ?_ dsS (fun K1 hK1=>?_);exact trS;refine evS ?_;(try simp only [c5,c6,d1]);refine hK1 _ ?_;clear hK1 K1)|refine skipS ?_|refine aw_condT rfl ?_|refine aw_condF rfl ?_))
  (refine rtS Tryz.results150 ?_;exact ⟨_,_,.inl ⟨rfl,rfl⟩,List.nodup_nil,rfl⟩)
 ·rw [step_7 h]
  have c5:(r.kind==5)=false:=by rw [beq_eq_false_iff_ne];omega
  have c6:(r.kind==6)=false:=by rw [beq_eq_false_iff_ne];omega
  have c7:(r.kind==7)=true:=beq_iff_eq.2 h
  refine cbS Tryz.func150 rfl Tryz.call150 Tryz.ntmps150 fun en hsz hks hk0=>?_;refine enS ?_
  (repeat (first|refine ctlS ?_|(refine ol_go ?_ (fun K1 hK1=>?_);exact trS;refine evS ?_;(try simp only [c5,c6,c7,c0]);refine hK1 _ _ ?_;clear hK1 K1)|(refine ow_go ?_ dsS (fun K1 hK1=>?_);exact trS;refine evS ?_;(try simp only [c5,c6,c7,c0]);refine hK1 _ ?_;clear hK1 K1)|refine skipS ?_|refine aw_condT rfl ?_|refine aw_condF rfl ?_))
  (refine rtS Tryz.results150 ?_;exact ⟨_,_,.inl ⟨rfl,rfl⟩,List.nodup_nil,rfl⟩)
 ·rw [step_8 h]
  have c5:(r.kind==5)=false:=by rw [beq_eq_false_iff_ne];omega
  have c6:(r.kind==6)=false:=by rw [beq_eq_false_iff_ne];omega
  have c7:(r.kind==7)=false:=by rw [beq_eq_false_iff_ne];omega
  have c8:(r.kind==8)=true:=beq_iff_eq.2 h
  refine cbS Tryz.func150 rfl Tryz.call150 Tryz.ntmps150 fun en hsz hks hk0=>?_;refine enS ?_
  (repeat (first|refine ctlS ?_|(refine ol_go ?_ (fun K1 hK1=>?_);exact trS;refine evS ?_;(try simp only [c5,c6,c7,c8,c0]);refine hK1 _ _ ?_;clear hK1 K1)|(refine ow_go ?_ dsS (fun K1 hK1=>?_);exact trS;refine evS ?_;(try simp only [c5,c6,c7,c8,c0]);refine hK1 _ ?_;clear hK1 K1)|refine skipS ?_|refine aw_condT rfl ?_|refine aw_condF rfl ?_))
  (refine rtS Tryz.results150 ?_;exact ⟨_,_,.inl ⟨rfl,rfl⟩,List.nodup_nil,rfl⟩)
 ·rw [step_9 h]
  have c5:(r.kind==5)=false:=by rw [beq_eq_false_iff_ne];omega
  have c6:(r.kind==6)=false:=by rw [beq_eq_false_iff_ne];omega
  have c7:(r.kind==7)=false:=by rw [beq_eq_false_iff_ne];omega
  have c8:(r.kind==8)=false:=by rw [beq_eq_false_iff_ne];omega
  have c9:(r.kind==9)=true:=beq_iff_eq.2 h
  refine cbS Tryz.func150 rfl Tryz.call150 Tryz.ntmps150 fun en hsz hks hk0=>?_;refine enS ?_
  (repeat (first|refine ctlS ?_|(refine ol_go ?_ (fun K1 hK1=>?_);exact trS;refine evS ?_;(try simp only [c5,c6,c7,c8,c9,c0]);refine hK1 _ _ ?_;clear hK1 K1)|(refine ow_go ?_ dsS (fun K1 hK1=>?_);exact trS;refine evS ?_;(try simp only [c5,c6,c7,c8,c9,c0]);refine hK1 _ ?_;clear hK1 K1)|refine skipS ?_|refine aw_condT rfl ?_|refine aw_condF rfl ?_))
  (refine rtS Tryz.results150 ?_;exact ⟨_,_,.inl ⟨rfl,rfl⟩,List.nodup_nil,rfl⟩)
end
end Go.Proofs.YtomfggmmhkpeeaaGreatDoor.Eng
namespace Go.Proofs.YtomfggmmhkpeeaaGreatDoor.Eng
open Go Go.RowKit

section
variable {M:Nat}{D:List RuleD}{b:List UInt8}
theorem names_6 (hV:descP D) {n:Nat}{r:RuleD} (hr:D[n]?=some r) (he:r.kind=6):r.kids.length=r.names.length:=by
 have hn:n<D.length:=(List.getElem?_eq_some_iff.1 hr).1
 have hrn:ruleAt D n=some r:=by simp [ruleAt,hr]
 have hp:ruleP D n r:=by
  refine Classical.byContradiction fun hq=>?_
  have:=hV.2 n hn
  rw [vRule_no hrn hq] at this
  exact Bool.noConfusion this
 obtain ⟨_,_,_,hk⟩:=hp
 rw [kl_6 he] at hk
 simp only [Bool.and_eq_true] at hk
 have h1:=shape_len (by omega) (shapeL_b hk.1)
 omega
theorem items_ok (hV:descP D) {n:Nat}{r:RuleD} (hr:D[n]?=some r) (G:GoodR D n r) {p q:Nat} (hp:p≤b.length) {m:Int}{ks:List Nat} (h:itemsAt D r b p=some (q,m,ks)) :
  q≤b.length∧ks.length≤40∧(∀ i (hi:i<ks.length),itemK r m i=(ks[i]:Int)∧ks[i]<n)∧∀ i,i<ks.length→r.kind=5∨(r.kind=6∧i<r.names.length)∨((r.kind=7∨r.kind=8∨r.kind=9)∧i=0):=by
 have kidn:∀ j (hj:j<r.kids.length),(r.kids[j].toNat:Int)=r.kids[j]∧r.kids[j].toNat<n:=fun j hj=>by have:=G.kid j hj;omega
 by_cases k6:r.kind=6
 ·rw [items_6 k6] at h
  simp only [Option.some.injEq,Prod.mk.injEq] at h
  obtain ⟨rfl,rfl,rfl⟩:=h
  have hl:=names_6 hV hr k6
  have h8:=G.k6 k6
  refine ⟨hp,by rw [List.length_map];omega,fun i hi=>?_,fun i hi=>.inr (.inl ⟨k6,by rw [List.length_map] at hi;omega⟩)⟩
  rw [List.length_map] at hi
  rw [itemK_6 k6 hi,List.getElem_map]
  exact ⟨(kidn i hi).1.symm,(kidn i hi).2⟩
 by_cases k9:r.kind=9
 ·rw [items_9 k9] at h
  simp only [Option.some.injEq,Prod.mk.injEq] at h
  obtain ⟨rfl,rfl,rfl⟩:=h
  have hl:=G.k9 k9
  have h0:=kidn 0 (by omega)
  refine ⟨hp,by simp,fun i hi=>?_,fun i hi=>.inr (.inr ⟨.inr (.inr k9),by simpa using hi⟩)⟩
  obtain rfl:i=0:=by simpa using hi
  rw [itemK_8 (.inr k9)]
  simp only [List.getElem_cons_zero]
  rw [show kid0 r=r.kids[0]'(by omega) by simp [kid0,List.headD_eq_head?_getD,List.head?_eq_getElem?,show 0<r.kids.length by omega]]
  exact ⟨h0.1.symm,h0.2⟩
 by_cases k8:r.kind=8
 ·rw [items_8 k8] at h
  split at h
  ·rename_i hb
   simp only [Option.some.injEq,Prod.mk.injEq] at h
   obtain ⟨rfl,rfl,rfl⟩:=h
   have hlt:=get_lt hb
   have hl:=G.k8 k8
   have h0:=kidn 0 (by omega)
   refine ⟨hlt,by simp,fun i hi=>?_,fun i hi=>.inr (.inr ⟨.inr (.inl k8),by simpa using hi⟩)⟩
   obtain rfl:i=0:=by simpa using hi
   rw [itemK_8 (.inl k8)]
   simp only [List.getElem_cons_zero]
   rw [show kid0 r=r.kids[0]'(by omega) by simp [kid0,List.headD_eq_head?_getD,List.head?_eq_getElem?,show 0<r.kids.length by omega]]
   exact ⟨h0.1.symm,h0.2⟩
  ·cases h
 by_cases k5:r.kind=5
 ·cases hi:intAt (ruleD D (kid0 r)) b p with
  | none=>rw [items_5n k5 hi] at h;cases h
  | some c=>
   rw [items_5 k5 hi] at h
   split at h
   ·rename_i hc
    simp only [Option.some.injEq,Prod.mk.injEq] at h
    obtain ⟨rfl,rfl,rfl⟩:=h
    have hl:=G.k5 k5
    have h1:=kidn 1 (by omega)
    refine ⟨(intAt_in hi hp).1,by rw [List.length_replicate];exact hc,fun i hi=>?_,fun i hi=>.inl k5⟩
    rw [itemK_5 k5,List.getElem_replicate]
    rw [show kid1 r=r.kids[1]'(by omega) by simp [kid1,List.getD,show 1<r.kids.length by omega]]
    exact ⟨h1.1.symm,h1.2⟩
   ·cases h
 by_cases k7:r.kind=7
 ·cases hi:intAt (ruleD D (kid0 r)) b p with
  | none=>rw [items_7n k7 hi] at h;cases h
  | some c=>
   cases ht:tagIx r.tags c with
   | none=>rw [items_7t k7 hi ht] at h;cases h
   | some k=>
    rw [items_7 k7 hi ht] at h
    simp only [Option.some.injEq,Prod.mk.injEq] at h
    obtain ⟨rfl,rfl,rfl⟩:=h
    have hl:=(G.k7 k7).1
    have hkl:=tagIx_lt ht
    have h1:=kidn (k+1) (by omega)
    refine ⟨(intAt_in hi hp).1,by simp,fun i hi=>?_,fun i hi=>.inr (.inr ⟨.inl k7,by simpa using hi⟩)⟩
    obtain rfl:i=0:=by simpa using hi
    rw [itemK_7 k7 ht (by omega)]
    simp only [List.getElem_cons_zero]
    rw [show r.kids.getD (k+1) 0=r.kids[k+1]'(by omega) by simp [List.getD,show k+1<r.kids.length by omega]]
    exact ⟨h1.1.symm,h1.2⟩
 rw [items_no k5 k6 k7 k8 k9] at h
 cases h
end
end Go.Proofs.YtomfggmmhkpeeaaGreatDoor.Eng
