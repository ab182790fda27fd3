/-
 Where reading fails: the program's search goes into an array, a choice.
-/
import Derived.Test.YtecdbogicpffeabDoorKNG4
import Derived.Test.YtecdbogicpffeabDoorKE6
import Derived.Test.YtecdbogicpffeabDoorKE4
set_option linter.unusedSimpArgs false
set_option linter.unusedVariables false
set_option linter.defProp false
set_option maxRecDepth 100000
set_option maxHeartbeats 4000000
namespace Go.Proofs.YtecdbogicpffeabDoor.Eng
open Go Go.RowKit

section
variable {M:Nat}{D:List RuleD}{b:List UInt8}
theorem takeOne {l:List Int}{k:Nat} (hk:k<l.length):(l.drop k).take 1=[l[k]]:=by
 rw [List.drop_eq_getElem_cons hk];rfl
def ixG (o:Option Nat):Int:=match o with|some k=>(k:Int)|none=>-1
theorem tagG_no {l:List Int}{n:Int} (h:∀ j (hj:j<l.length),l[j]≠n):tagIx l n=none:=by
 unfold tagIx
 rw [List.findIdx?_eq_none_iff]
 intro x hx
 obtain ⟨j,hj,rfl⟩:=List.getElem_of_mem hx
 simpa using h j hj
theorem tagG_hit {l:List Int}{n:Int}{k:Nat} (hk:k<l.length) (he:l[k]=n) (h:∀ j (hj:j<l.length),j<k→l[j]≠n):tagIx l n=some k:=by
 unfold tagIx
 rw [List.findIdx?_eq_some_iff_getElem]
 exact ⟨hk,by simp [he],fun j hj=>by simpa using h j (by omega) hj⟩
private def tyF:=ai (ai (ai tg25 (ai tg30 tg52)) (ai tg53 (ai tg32 tg48))) (ai (ai tg61 (ai tg3 tg4)) (ai (ai tg46 tg5) (ai tg75 tg9)))
theorem partIx1_c (t n:Int):AC Tryd.prog 32 [.d (iD t),.d (.rp [iD n])] none (fun r' _=>r'=.d (bD (decide (t=n)))):=by
 refine cbS Tryd.func32 rfl Tryd.call32 Tryd.ntmps32 fun en hsz hks hk0=>?_;refine enS ?_
 refine walkS ?_
 (refine rtS Tryd.results32 ?_;exact ⟨_,_,.inl ⟨rfl,rfl⟩,List.nodup_nil,rfl⟩)
theorem ixPart_c {l:List Int} (hl:l.length≤1048576) (n:Int):AC Tryd.prog 31 [.d (encI l),.clo 32 [] [.d (.rp [iD n])]] none (fun r' _=>r'=.d (iD (ixG (tagIx l n)))):=by
 refine cbS Tryd.func31 rfl Tryd.call31 Tryd.ntmps31 fun en hsz hks hk0=>?_;refine enS ?_
 refine walkS ?_
 refine aw_loopS [1,4,7,8] (fun _ _=>[]) (fun _ k=>[(9,.d (iD (k:Nat)))]) [] (fun _ _=>[]) [] (fun _ _=>[]) (fun k=>k≤l.length∧∀ j (h:j<l.length),j<k→l[j]≠n) (fun k=>l.length - k) (0) hks (fun _=>rfl) ⟨Nat.zero_le _,fun _ _ h=>absurd h (Nat.not_lt_zero _)⟩ wkS ?_;intro x hx;refine headS ?_
 obtain ⟨hx1,hx2⟩:=hx
 refine walkS ?_
 refine aw_condS rfl (fun hk=>?_) (fun hk=>?_)
 ·have hxl:x<l.length:=by omega
  have i1:l[x]?=some l[x]:=List.getElem?_eq_getElem hxl
  have HH:=partIx1_c l[x] n
  by_cases he:l[x]=n
  ·rw [decide_eq_true he] at HH
   (repeat (first|refine walkS ?_|refine cS (HH) ?_|(refine callPreV ?_;(first|refine callN_funS rfl (HH) ?_))))
   refine aw_condS rfl (fun hc=>?_) (fun hc=>?_)
   ·refine walkS ?_
    (refine rtS Tryd.results31 ?_;exact ⟨_,_,.inl ⟨rfl,rfl⟩,List.nodup_nil,by rw [tagG_hit hxl he hx2];rfl⟩)
   ·(first|exact absurd trivial hc|exact absurd rfl hc|(cases hc;done)|omega|exact absurd hc (by decide)|(simp at hc;done))
  ·rw [decide_eq_false he] at HH
   (repeat (first|refine walkS ?_|refine cS (HH) ?_|(refine callPreV ?_;(first|refine callN_funS rfl (HH) ?_))))
   refine aw_condS rfl (fun hc=>?_) (fun hc=>?_)
   ·(first|exact absurd trivial hc|exact absurd rfl hc|(cases hc;done)|omega|exact absurd hc (by decide)|(simp at hc;done))
   ·refine walkS ?_
    refine ⟨x+1,⟨by omega,fun j h1 h2=>?_⟩,by omega,?_⟩
    ·by_cases e:j=x
     ·subst e;exact he
     ·exact hx2 j h1 (by omega)
    exact wkS
 ·refine walkS ?_
  (refine rtS Tryd.results31 ?_;exact ⟨_,_,.inl ⟨rfl,rfl⟩,List.nodup_nil,by rw [tagG_no fun j hj=>hx2 j hj (by omega)];rfl⟩)
theorem partI_n (hD:DB M D) (hM:M≤1048576) (hb4:b.length≤400) (hV:descP D) {f:Nat} (H:PartOK D b f) {n p:Nat}{path path0:ByteArray}{rule0:Int} (hnf:n<f+1) (hnl:n<D.length) (hp:p≤b.length) (hpath:path.size+(f+1)*1048600≤2199023255552) {r:RuleD} (hr:D[n]?=some r) (k57:r.kind=5∨r.kind=7) (hi:intAt (ruleD D (kid0 r)) b p=none) :
  AC Tryd.prog 19 [.ptr 0 0,.d (sD path),.d (iD n),.d (iD p)] (some ((trD D b path0 rule0).map .d)) (fun r' bx=>r'=.d (.tup [])∧bx=some ((trD D b (dig D b (f+1) n p path).1 ((dig D b (f+1) n p path).2:Nat)).map .d)):=by
 have hrb:=hD.rule r (List.mem_of_getElem? hr)
 have hlk:=hrb.lk
 have hlt:=hrb.lt
 have G:GoodR D n r:=good_of hV hr
 have hrd:=ruleD_get hr
 have K:=fun L hl hL hk q hq=>kidsI_c hD hM hb4 hV H hr L hl hL hk q hq path path (n:Int) (by omega)
 have kidn:∀ j (hj:j<r.kids.length),0≤r.kids[j]∧r.kids[j].toNat<f∧r.kids[j].toNat<D.length:=fun j hj=>by have:=G.kid j hj;omega
 have hN:itemsAt D r b p=none→dig D b (f+1) n p path=(path,n):=fun h=>dig_none hrd h
 have done:∀ {q:Nat}{m:Int}{L:List Int},itemsAt D r b p=some (q,m,L.map Int.toNat)→∀ (hl:L.length≤40) (hL:∀ i (hi:i<L.length),0≤L[i]∧L[i].toNat<f∧L[i].toNat<D.length) (hk:∀ i,i<L.length→r.kind=5∨(r.kind=6∧i<r.names.length)∨((r.kind=7∨r.kind=8∨r.kind=9)∧i=0)) (hq:q≤b.length),
   ∃ e ok,AC Tryd.prog 29 [.ptr 0 0,.d (sD path),.d (iD n),.d (encI L),.d (iD q)] (some ((trD D b path n).map .d)) (fun r' bx=>r'=.d (.tup [iD e,bD ok])∧bx=some ((trD D b (dig D b (f+1) n p path).1 ((dig D b (f+1) n p path).2:Nat)).map .d)):=fun {q m L} hx hl hL hk hq=>by
  have hK:=K L hl hL hk q hq
  have hT':((kidsT D b f r (L.map Int.toNat) q path path (n:Int)).1,(kidsT D b f r (L.map Int.toNat) q path path (n:Int)).2)=((dig D b (f+1) n p path).1,((dig D b (f+1) n p path).2:Int)):=by
   rw [dig_some hrd hx]
   unfold kidsT
   cases badI (rd D b D.length) (L.map Int.toNat) 0 q with
   | none=>rfl
   | some x=>rfl
  simp only [Prod.mk.injEq] at hT'
  rw [hT'.1,hT'.2] at hK
  exact ⟨_,_,hK⟩
 have hlim:0≤limD D (kid0 r)∧0<r.kids.length:=by
  rcases k57 with h|h
  ·have:=G.k5 h;omega
  ·have:=G.k7 h;omega
 obtain ⟨j,q,ej,hj,hq,hqr⟩:=kid_int hlim.1
 have hqk:q.kind=1:=by
  obtain ⟨q',e1,e2,_⟩:=limD_rule hlim.1
  rw [←hqr,ruleD_of e1];exact e2
 have hkid:r.kids[0]?=some (j:Int):=by rw [kids0 hlim.2,ej]
 have hjl:j<D.length:=(List.getElem?_eq_some_iff.1 hj).1
 have HC:=checkValueI_c hD hM (b:=b) (by omega) (j:Nat) (p:Nat)
 rw [readV_rd hV hb4 hjl hp] at HC
 obtain ⟨F,hF⟩:∃ F,D.length=F+1:=⟨D.length - 1,by omega⟩
 rw [hF] at HC
 have c6:(r.kind==6)=false:=by rw [beq_eq_false_iff_ne];omega
 have c9:(r.kind==9)=false:=by rw [beq_eq_false_iff_ne];omega
 have c8:(r.kind==8)=false:=by rw [beq_eq_false_iff_ne];omega
 rw [hqr] at hi
 rw [rd_1n (ruleD_get hj) hqk hi] at HC
 have hno:itemsAt D r b p=none:=by
  rcases k57 with h|h
  ·exact items_5n h (by rw [hqr];exact hi)
  ·exact items_7n h (by rw [hqr];exact hi)
 rw [hN hno]
 have n1:(((1:Nat):Int) != 0)=true:=rfl
 rcases k57 with h|h
 ·have c5:(r.kind==5)=true:=beq_iff_eq.2 h
  refine cbS Tryd.func19 rfl Tryd.call19 Tryd.ntmps19 fun en hsz hks hk0=>?_;refine enS ?_
  (repeat (first|refine ctlS ?_|(refine ol_go ?_ (fun K1 hK1=>?_);exact trS;refine evS ?_;(try simp only [c6,c9,c8,c5,n1]);refine hK1 _ _ ?_;clear hK1 K1)|(refine ow_go ?_ dsS (fun K1 hK1=>?_);exact trS;refine evS ?_;(try simp only [c6,c9,c8,c5,n1]);refine hK1 _ ?_;clear hK1 K1)|refine skipS ?_|(refine ow_make ?_ dsS rfl rfl ?_ te53 tr3 tz3 ?_;exact trS;omega;refine stS0 ?_)|refine cS (HC) ?_|refine aw_condT rfl ?_|refine aw_condF rfl ?_))
  (refine rtS Tryd.results19 ?_;exact ⟨_,[],.inl ⟨rfl,rfl⟩,_,(trD D b path n:List Eng.D).map .d,[],rfl,toZL_d _ (trD D b path n),by simp,⟨rfl,rfl⟩⟩)
 ·have c5:(r.kind==5)=false:=by rw [beq_eq_false_iff_ne];omega
  have c7:(r.kind==7)=true:=beq_iff_eq.2 h
  refine cbS Tryd.func19 rfl Tryd.call19 Tryd.ntmps19 fun en hsz hks hk0=>?_;refine enS ?_
  (repeat (first|refine ctlS ?_|(refine ol_go ?_ (fun K1 hK1=>?_);exact trS;refine evS ?_;(try simp only [c6,c9,c8,c5,c7,n1]);refine hK1 _ _ ?_;clear hK1 K1)|(refine ow_go ?_ dsS (fun K1 hK1=>?_);exact trS;refine evS ?_;(try simp only [c6,c9,c8,c5,c7,n1]);refine hK1 _ ?_;clear hK1 K1)|refine skipS ?_|(refine ow_make ?_ dsS rfl rfl ?_ te53 tr3 tz3 ?_;exact trS;omega;refine stS0 ?_)|refine cS (HC) ?_|refine aw_condT rfl ?_|refine aw_condF rfl ?_))
  (refine rtS Tryd.results19 ?_;exact ⟨_,[],.inl ⟨rfl,rfl⟩,_,(trD D b path n:List Eng.D).map .d,[],rfl,toZL_d _ (trD D b path n),by simp,⟨rfl,rfl⟩⟩)

theorem partI_5 (hD:DB M D) (hM:M≤1048576) (hb4:b.length≤400) (hV:descP D) {f:Nat} (H:PartOK D b f) {n p:Nat}{path path0:ByteArray}{rule0:Int} (hnf:n<f+1) (hnl:n<D.length) (hp:p≤b.length) (hpath:path.size+(f+1)*1048600≤2199023255552) {r:RuleD} (hr:D[n]?=some r) (h:r.kind=5) {m:Nat} (hi:intAt (ruleD D (kid0 r)) b p=some m) :
  AC Tryd.prog 19 [.ptr 0 0,.d (sD path),.d (iD n),.d (iD p)] (some ((trD D b path0 rule0).map .d)) (fun r' bx=>r'=.d (.tup [])∧bx=some ((trD D b (dig D b (f+1) n p path).1 ((dig D b (f+1) n p path).2:Nat)).map .d)):=by
 have hrb:=hD.rule r (List.mem_of_getElem? hr)
 have hlk:=hrb.lk
 have hlt:=hrb.lt
 have G:GoodR D n r:=good_of hV hr
 have hrd:=ruleD_get hr
 have K:=fun L hl hL hk q hq=>kidsI_c hD hM hb4 hV H hr L hl hL hk q hq path path (n:Int) (by omega)
 have kidn:∀ j (hj:j<r.kids.length),0≤r.kids[j]∧r.kids[j].toNat<f∧r.kids[j].toNat<D.length:=fun j hj=>by have:=G.kid j hj;omega
 have hN:itemsAt D r b p=none→dig D b (f+1) n p path=(path,n):=fun h=>dig_none hrd h
 have done:∀ {q:Nat}{m:Int}{L:List Int},itemsAt D r b p=some (q,m,L.map Int.toNat)→∀ (hl:L.length≤40) (hL:∀ i (hi:i<L.length),0≤L[i]∧L[i].toNat<f∧L[i].toNat<D.length) (hk:∀ i,i<L.length→r.kind=5∨(r.kind=6∧i<r.names.length)∨((r.kind=7∨r.kind=8∨r.kind=9)∧i=0)) (hq:q≤b.length),
   ∃ e ok,AC Tryd.prog 29 [.ptr 0 0,.d (sD path),.d (iD n),.d (encI L),.d (iD q)] (some ((trD D b path n).map .d)) (fun r' bx=>r'=.d (.tup [iD e,bD ok])∧bx=some ((trD D b (dig D b (f+1) n p path).1 ((dig D b (f+1) n p path).2:Nat)).map .d)):=fun {q m L} hx hl hL hk hq=>by
  have hK:=K L hl hL hk q hq
  have hT':((kidsT D b f r (L.map Int.toNat) q path path (n:Int)).1,(kidsT D b f r (L.map Int.toNat) q path path (n:Int)).2)=((dig D b (f+1) n p path).1,((dig D b (f+1) n p path).2:Int)):=by
   rw [dig_some hrd hx]
   unfold kidsT
   cases badI (rd D b D.length) (L.map Int.toNat) 0 q with
   | none=>rfl
   | some x=>rfl
  simp only [Prod.mk.injEq] at hT'
  rw [hT'.1,hT'.2] at hK
  exact ⟨_,_,hK⟩
 have hlim:0≤limD D (kid0 r)∧0<r.kids.length:=by
  have:=G.k5 h;omega
 obtain ⟨j,q,ej,hj,hq,hqr⟩:=kid_int hlim.1
 have hqk:q.kind=1:=by
  obtain ⟨q',e1,e2,_⟩:=limD_rule hlim.1
  rw [←hqr,ruleD_of e1];exact e2
 have hkid:r.kids[0]?=some (j:Int):=by rw [kids0 hlim.2,ej]
 have hjl:j<D.length:=(List.getElem?_eq_some_iff.1 hj).1
 have HC:=checkValueI_c hD hM (b:=b) (by omega) (j:Nat) (p:Nat)
 rw [readV_rd hV hb4 hjl hp] at HC
 obtain ⟨F,hF⟩:∃ F,D.length=F+1:=⟨D.length - 1,by omega⟩
 rw [hF] at HC
 have c6:(r.kind==6)=false:=by rw [beq_eq_false_iff_ne];omega
 have c9:(r.kind==9)=false:=by rw [beq_eq_false_iff_ne];omega
 have c8:(r.kind==8)=false:=by rw [beq_eq_false_iff_ne];omega
 rw [hqr] at hi
 rw [rd_1s (ruleD_get hj) hqk hi] at HC
 have n1:(((0:Nat):Int) != 0)=false:=rfl
 obtain ⟨hi1,hi2⟩:=intAt_in hi hp
 have hri:readInt ((b.drop p).take q.size.toNat) q.little=m:=by
  unfold intAt at hi
  split at hi
  ·cases hi
  ·exact Option.some.inj hi
 have HI:=(readIntI_c (l:=List.take (p+q.size.toNat - p) (List.drop p b)) q.little).eqv (r1:=.d (iD (m:Nat))) (by rw [show p+q.size.toNat - p=q.size.toNat by omega,hri])
 have c5:(r.kind==5)=true:=beq_iff_eq.2 h
 have c7:(r.kind==7)=false:=by rw [beq_eq_false_iff_ne];omega
 refine cbS Tryd.func19 rfl Tryd.call19 Tryd.ntmps19 fun en hsz hks hk0=>?_;refine enS ?_
 (repeat (first|refine ctlS ?_|(refine ol_go ?_ (fun K1 hK1=>?_);exact trS;refine evS ?_;(try simp only [c6,c9,c8,c5,n1]);refine hK1 _ _ ?_;clear hK1 K1)|(refine ow_go ?_ dsS (fun K1 hK1=>?_);exact trS;refine evS ?_;(try simp only [c6,c9,c8,c5,n1]);refine hK1 _ ?_;clear hK1 K1)|refine skipS ?_|(refine ow_make ?_ dsS rfl rfl ?_ te53 tr3 tz3 ?_;exact trS;omega;refine stS0 ?_)|refine cS (HC) ?_|refine aw_condT rfl ?_|refine aw_condF rfl ?_))
 (repeat (first|refine ctlS ?_|(refine ol_go ?_ (fun K1 hK1=>?_);exact trS;refine evS ?_;(try simp only [c7]);refine hK1 _ _ ?_;clear hK1 K1)|(refine ow_go ?_ dsS (fun K1 hK1=>?_);exact trS;refine evS ?_;(try simp only [c7]);refine hK1 _ ?_;clear hK1 K1)|refine skipS ?_|(refine ow_make ?_ dsS rfl rfl ?_ te53 tr3 tz3 ?_;exact trS;omega;refine stS0 ?_)|refine cS (HI) ?_|refine aw_condT rfl ?_|refine aw_condF rfl ?_))
 have hl2:=(G.k5 h).1
 have i1:r.kids[1]?=some (kid1 r):=by rw [show kid1 r=r.kids[1]'(by omega) by simp [kid1,List.getD,show 1<r.kids.length by omega]];exact List.getElem?_eq_getElem (by omega)
 have hx:=items_5 (D:=D) (b:=b) (p:=p) h (by rw [hqr];exact hi)
 rw [hqr] at hx
 refine aw_condS rfl (fun hm=>?_) (fun hm=>?_)
 ·rw [if_pos (by omega)] at hx
  have hl0:(List.replicate m (kid1 r)).length=m:=List.length_replicate
  have hmp:List.replicate m (kid1 r).toNat=(List.replicate m (kid1 r)).map Int.toNat:=by simp
  rw [hmp] at hx
  obtain ⟨e,ok,hK⟩:=done hx (by omega) (fun i hi=>by
   rw [List.getElem_replicate,show kid1 r=r.kids[1]'(by omega) by simp [kid1,List.getD,show 1<r.kids.length by omega]]
   exact kidn 1 (by omega)) (fun i hi=>.inl h) (by omega)
  generalize dig D b (f+1) n p path=dg at *
  have hle:∀ x (hx:x<(List.replicate m (kid1 r)).length),(List.replicate m (kid1 r))[x]=kid1 r:=fun x hx=>List.getElem_replicate ..
  generalize List.replicate m (kid1 r)=l at *
  subst hl0
  have h0:List.map A.d (List.replicate l.length [Eng.D.v (Value.int IntKind.i64 0)]).flatten=arrC (fun c=>[iD c]) [iD 0] l 0:=arrC_0.symm
  (repeat (first|refine walkS ?_|(refine ow_make ?_ dsS rfl rfl ?_ te53 tr3 tz3 ?_;exact trS;omega;refine stS0 ?_)))
  rw [h0]
  refine aw_loopS [0,1,2,8,9,13,138] (fun _ _=>[]) (fun _ k=>[(139,.d (iD (k:Nat)))]) [704] (fun _ k=>[(704,some (arrC (fun c=>[iD c]) [iD 0] l k))]) [] (fun _ _=>[]) (fun k=>k≤l.length) (fun k=>l.length - k) (0) hks (fun _=>rfl) (Nat.zero_le _) wkS ?_;intro x hx;refine headS ?_
  (repeat (first|refine walkS ?_|(refine ow_make ?_ dsS rfl rfl ?_ te53 tr3 tz3 ?_;exact trS;omega;refine stS0 ?_)))
  refine aw_condS rfl (fun hk=>?_) (fun hk=>?_)
  ·have hA:=arrC_len (f:=fun c:Int=>[iD c]) (zero:=[iD 0]) (l:=l) (k:=x) (z:=1) (fun _ _=>rfl) rfl hx
   have hB:splice (arrC (fun c=>[iD c]) [iD 0] l x) [A.d (iD (kid1 r))] (x*1)=arrC (fun c=>[iD c]) [iD 0] l (x+1):=by
    have:=arrC_step (f:=fun c:Int=>[iD c]) (zero:=[iD 0]) (z:=1) (fun _ _=>rfl) rfl (show x<l.length by omega)
    rwa [hle x (by omega)] at this
   (repeat (first|refine ctlS ?_|(refine ol_go ?_ (fun K1 hK1=>?_);exact trS;refine evS ?_;(try rw [hB]);refine hK1 _ _ ?_;clear hK1 K1)|(refine ow_go ?_ dsS (fun K1 hK1=>?_);exact trS;refine evS ?_;(try rw [hB]);refine hK1 _ ?_;clear hK1 K1)|refine skipS ?_|(refine ow_make ?_ dsS rfl rfl ?_ te53 tr3 tz3 ?_;exact trS;omega;refine stS0 ?_)))
   refine ⟨x+1,by omega,by omega,?_⟩
   exact wkS
  ·have hx':x=l.length:=by omega
   subst hx'
   (repeat (first|refine walkS ?_|(refine ow_make ?_ dsS rfl rfl ?_ te53 tr3 tz3 ?_;exact trS;omega;refine stS0 ?_)))
   refine ow_freezeA (encI l) 153 704 1 l.length (l.map fun c=>[iD c]) rfl rfl (by rw [←arrC_all];rfl) (by simp) (by simp) hks (by decide) ?_
   (repeat (first|refine walkS ?_|(refine ow_make ?_ dsS rfl rfl ?_ te53 tr3 tz3 ?_;exact trS;omega;refine stS0 ?_)|refine vS 0 (hK) ?_|refine aw_condT rfl ?_|refine aw_condF rfl ?_))
   ((simp only [Fin,Tryd.results19];refine finS ?_);exact ⟨_,[],.inl ⟨rfl,rfl⟩,_,(trD D b dg.1 (dg.2:Nat):List Eng.D).map .d,[],rfl,toZL_d _ (trD D b dg.1 (dg.2:Nat)),by simp,⟨rfl,rfl⟩⟩)
 ·rw [if_neg (by omega)] at hx
  rw [hN hx]
  (repeat (first|refine walkS ?_|(refine ow_make ?_ dsS rfl rfl ?_ te53 tr3 tz3 ?_;exact trS;omega;refine stS0 ?_)|refine aw_condT rfl ?_|refine aw_condF rfl ?_))
  ((simp only [Fin,Tryd.results19];refine finS ?_);exact ⟨_,[],.inl ⟨rfl,rfl⟩,_,(trD D b path n:List Eng.D).map .d,[],rfl,toZL_d _ (trD D b path n),by simp,⟨rfl,rfl⟩⟩)

theorem partI_7n (hD:DB M D) (hM:M≤1048576) (hb4:b.length≤400) (hV:descP D) {f:Nat} (H:PartOK D b f) {n p:Nat}{path path0:ByteArray}{rule0:Int} (hnf:n<f+1) (hnl:n<D.length) (hp:p≤b.length) (hpath:path.size+(f+1)*1048600≤2199023255552) {r:RuleD} (hr:D[n]?=some r) (h:r.kind=7) {m:Nat} (hi:intAt (ruleD D (kid0 r)) b p=some m) (ht:tagIx r.tags m=none) :
  AC Tryd.prog 19 [.ptr 0 0,.d (sD path),.d (iD n),.d (iD p)] (some ((trD D b path0 rule0).map .d)) (fun r' bx=>r'=.d (.tup [])∧bx=some ((trD D b (dig D b (f+1) n p path).1 ((dig D b (f+1) n p path).2:Nat)).map .d)):=by
 have hrb:=hD.rule r (List.mem_of_getElem? hr)
 have hlk:=hrb.lk
 have hlt:=hrb.lt
 have G:GoodR D n r:=good_of hV hr
 have hrd:=ruleD_get hr
 have K:=fun L hl hL hk q hq=>kidsI_c hD hM hb4 hV H hr L hl hL hk q hq path path (n:Int) (by omega)
 have kidn:∀ j (hj:j<r.kids.length),0≤r.kids[j]∧r.kids[j].toNat<f∧r.kids[j].toNat<D.length:=fun j hj=>by have:=G.kid j hj;omega
 have hN:itemsAt D r b p=none→dig D b (f+1) n p path=(path,n):=fun h=>dig_none hrd h
 have done:∀ {q:Nat}{m:Int}{L:List Int},itemsAt D r b p=some (q,m,L.map Int.toNat)→∀ (hl:L.length≤40) (hL:∀ i (hi:i<L.length),0≤L[i]∧L[i].toNat<f∧L[i].toNat<D.length) (hk:∀ i,i<L.length→r.kind=5∨(r.kind=6∧i<r.names.length)∨((r.kind=7∨r.kind=8∨r.kind=9)∧i=0)) (hq:q≤b.length),
   ∃ e ok,AC Tryd.prog 29 [.ptr 0 0,.d (sD path),.d (iD n),.d (encI L),.d (iD q)] (some ((trD D b path n).map .d)) (fun r' bx=>r'=.d (.tup [iD e,bD ok])∧bx=some ((trD D b (dig D b (f+1) n p path).1 ((dig D b (f+1) n p path).2:Nat)).map .d)):=fun {q m L} hx hl hL hk hq=>by
  have hK:=K L hl hL hk q hq
  have hT':((kidsT D b f r (L.map Int.toNat) q path path (n:Int)).1,(kidsT D b f r (L.map Int.toNat) q path path (n:Int)).2)=((dig D b (f+1) n p path).1,((dig D b (f+1) n p path).2:Int)):=by
   rw [dig_some hrd hx]
   unfold kidsT
   cases badI (rd D b D.length) (L.map Int.toNat) 0 q with
   | none=>rfl
   | some x=>rfl
  simp only [Prod.mk.injEq] at hT'
  rw [hT'.1,hT'.2] at hK
  exact ⟨_,_,hK⟩
 have hlim:0≤limD D (kid0 r)∧0<r.kids.length:=by
  have:=G.k7 h;omega
 obtain ⟨j,q,ej,hj,hq,hqr⟩:=kid_int hlim.1
 have hqk:q.kind=1:=by
  obtain ⟨q',e1,e2,_⟩:=limD_rule hlim.1
  rw [←hqr,ruleD_of e1];exact e2
 have hkid:r.kids[0]?=some (j:Int):=by rw [kids0 hlim.2,ej]
 have hjl:j<D.length:=(List.getElem?_eq_some_iff.1 hj).1
 have HC:=checkValueI_c hD hM (b:=b) (by omega) (j:Nat) (p:Nat)
 rw [readV_rd hV hb4 hjl hp] at HC
 obtain ⟨F,hF⟩:∃ F,D.length=F+1:=⟨D.length - 1,by omega⟩
 rw [hF] at HC
 have c6:(r.kind==6)=false:=by rw [beq_eq_false_iff_ne];omega
 have c9:(r.kind==9)=false:=by rw [beq_eq_false_iff_ne];omega
 have c8:(r.kind==8)=false:=by rw [beq_eq_false_iff_ne];omega
 rw [hqr] at hi
 rw [rd_1s (ruleD_get hj) hqk hi] at HC
 have n1:(((0:Nat):Int) != 0)=false:=rfl
 obtain ⟨hi1,hi2⟩:=intAt_in hi hp
 have hri:readInt ((b.drop p).take q.size.toNat) q.little=m:=by
  unfold intAt at hi
  split at hi
  ·cases hi
  ·exact Option.some.inj hi
 have HI:=(readIntI_c (l:=List.take (p+q.size.toNat - p) (List.drop p b)) q.little).eqv (r1:=.d (iD (m:Nat))) (by rw [show p+q.size.toNat - p=q.size.toNat by omega,hri])
 have c5:(r.kind==5)=false:=by rw [beq_eq_false_iff_ne];omega
 have c7:(r.kind==7)=true:=beq_iff_eq.2 h
 refine cbS Tryd.func19 rfl Tryd.call19 Tryd.ntmps19 fun en hsz hks hk0=>?_;refine enS ?_
 (repeat (first|refine ctlS ?_|(refine ol_go ?_ (fun K1 hK1=>?_);exact trS;refine evS ?_;(try simp only [c6,c9,c8,c5,c7,n1]);refine hK1 _ _ ?_;clear hK1 K1)|(refine ow_go ?_ dsS (fun K1 hK1=>?_);exact trS;refine evS ?_;(try simp only [c6,c9,c8,c5,c7,n1]);refine hK1 _ ?_;clear hK1 K1)|refine skipS ?_|(refine ow_make ?_ dsS rfl rfl ?_ te53 tr3 tz3 ?_;exact trS;omega;refine stS0 ?_)|refine cS (HC) ?_|refine aw_condT rfl ?_|refine aw_condF rfl ?_))
 (repeat (first|refine ctlS ?_|(refine ol_go ?_ (fun K1 hK1=>?_);exact trS;refine evS ?_;(try simp only [c7]);refine hK1 _ _ ?_;clear hK1 K1)|(refine ow_go ?_ dsS (fun K1 hK1=>?_);exact trS;refine evS ?_;(try simp only [c7]);refine hK1 _ ?_;clear hK1 K1)|refine skipS ?_|(refine ow_make ?_ dsS rfl rfl ?_ te53 tr3 tz3 ?_;exact trS;omega;refine stS0 ?_)|refine cS (HI) ?_))
 refine aw_freezeB 11 672 [iD m] rfl rfl hks (by decide) ?_
 have hIx:=ixPart_c (l:=r.tags) (by omega) (m:Int)
 rw [ht] at hIx
 have hIx':AC Tryd.prog 31 [.d (encI r.tags),.clo 32 [] [.d (.rp [iD m])]] none (fun r' _=>r'=.d (iD (-1))):=hIx
 have w0:decide ((0:Int)≤-1)=false:=rfl
 rw [hN (items_7t h (by rw [hqr];exact hi) ht)]
 (repeat (first|refine ctlS ?_|(refine ol_go ?_ (fun K1 hK1=>?_);exact trS;refine evS ?_;(try simp only [w0]);refine hK1 _ _ ?_;clear hK1 K1)|(refine ow_go ?_ dsS (fun K1 hK1=>?_);exact trS;refine evS ?_;(try simp only [w0]);refine hK1 _ ?_;clear hK1 K1)|refine skipS ?_|(refine ow_make ?_ dsS rfl rfl ?_ te53 tr3 tz3 ?_;exact trS;omega;refine stS0 ?_)|refine cS (hIx') ?_|refine aw_condT rfl ?_|refine aw_condF rfl ?_))
 (refine rtS Tryd.results19 ?_;exact ⟨_,[],.inl ⟨rfl,rfl⟩,_,(trD D b path n:List Eng.D).map .d,[],rfl,toZL_d _ (trD D b path n),by simp,⟨rfl,rfl⟩⟩)

theorem partI_7 (hD:DB M D) (hM:M≤1048576) (hb4:b.length≤400) (hV:descP D) {f:Nat} (H:PartOK D b f) {n p:Nat}{path path0:ByteArray}{rule0:Int} (hnf:n<f+1) (hnl:n<D.length) (hp:p≤b.length) (hpath:path.size+(f+1)*1048600≤2199023255552) {r:RuleD} (hr:D[n]?=some r) (h:r.kind=7) {m:Nat} (hi:intAt (ruleD D (kid0 r)) b p=some m) {k:Nat} (ht:tagIx r.tags m=some k) :
  AC Tryd.prog 19 [.ptr 0 0,.d (sD path),.d (iD n),.d (iD p)] (some ((trD D b path0 rule0).map .d)) (fun r' bx=>r'=.d (.tup [])∧bx=some ((trD D b (dig D b (f+1) n p path).1 ((dig D b (f+1) n p path).2:Nat)).map .d)):=by
 have hrb:=hD.rule r (List.mem_of_getElem? hr)
 have hlk:=hrb.lk
 have hlt:=hrb.lt
 have G:GoodR D n r:=good_of hV hr
 have hrd:=ruleD_get hr
 have K:=fun L hl hL hk q hq=>kidsI_c hD hM hb4 hV H hr L hl hL hk q hq path path (n:Int) (by omega)
 have kidn:∀ j (hj:j<r.kids.length),0≤r.kids[j]∧r.kids[j].toNat<f∧r.kids[j].toNat<D.length:=fun j hj=>by have:=G.kid j hj;omega
 have hN:itemsAt D r b p=none→dig D b (f+1) n p path=(path,n):=fun h=>dig_none hrd h
 have done:∀ {q:Nat}{m:Int}{L:List Int},itemsAt D r b p=some (q,m,L.map Int.toNat)→∀ (hl:L.length≤40) (hL:∀ i (hi:i<L.length),0≤L[i]∧L[i].toNat<f∧L[i].toNat<D.length) (hk:∀ i,i<L.length→r.kind=5∨(r.kind=6∧i<r.names.length)∨((r.kind=7∨r.kind=8∨r.kind=9)∧i=0)) (hq:q≤b.length),
   ∃ e ok,AC Tryd.prog 29 [.ptr 0 0,.d (sD path),.d (iD n),.d (encI L),.d (iD q)] (some ((trD D b path n).map .d)) (fun r' bx=>r'=.d (.tup [iD e,bD ok])∧bx=some ((trD D b (dig D b (f+1) n p path).1 ((dig D b (f+1) n p path).2:Nat)).map .d)):=fun {q m L} hx hl hL hk hq=>by
  have hK:=K L hl hL hk q hq
  have hT':((kidsT D b f r (L.map Int.toNat) q path path (n:Int)).1,(kidsT D b f r (L.map Int.toNat) q path path (n:Int)).2)=((dig D b (f+1) n p path).1,((dig D b (f+1) n p path).2:Int)):=by
   rw [dig_some hrd hx]
   unfold kidsT
   cases badI (rd D b D.length) (L.map Int.toNat) 0 q with
   | none=>rfl
   | some x=>rfl
  simp only [Prod.mk.injEq] at hT'
  rw [hT'.1,hT'.2] at hK
  exact ⟨_,_,hK⟩
 have hlim:0≤limD D (kid0 r)∧0<r.kids.length:=by
  have:=G.k7 h;omega
 obtain ⟨j,q,ej,hj,hq,hqr⟩:=kid_int hlim.1
 have hqk:q.kind=1:=by
  obtain ⟨q',e1,e2,_⟩:=limD_rule hlim.1
  rw [←hqr,ruleD_of e1];exact e2
 have hkid:r.kids[0]?=some (j:Int):=by rw [kids0 hlim.2,ej]
 have hjl:j<D.length:=(List.getElem?_eq_some_iff.1 hj).1
 have HC:=checkValueI_c hD hM (b:=b) (by omega) (j:Nat) (p:Nat)
 rw [readV_rd hV hb4 hjl hp] at HC
 obtain ⟨F,hF⟩:∃ F,D.length=F+1:=⟨D.length - 1,by omega⟩
 rw [hF] at HC
 have c6:(r.kind==6)=false:=by rw [beq_eq_false_iff_ne];omega
 have c9:(r.kind==9)=false:=by rw [beq_eq_false_iff_ne];omega
 have c8:(r.kind==8)=false:=by rw [beq_eq_false_iff_ne];omega
 rw [hqr] at hi
 rw [rd_1s (ruleD_get hj) hqk hi] at HC
 have n1:(((0:Nat):Int) != 0)=false:=rfl
 obtain ⟨hi1,hi2⟩:=intAt_in hi hp
 have hri:readInt ((b.drop p).take q.size.toNat) q.little=m:=by
  unfold intAt at hi
  split at hi
  ·cases hi
  ·exact Option.some.inj hi
 have HI:=(readIntI_c (l:=List.take (p+q.size.toNat - p) (List.drop p b)) q.little).eqv (r1:=.d (iD (m:Nat))) (by rw [show p+q.size.toNat - p=q.size.toNat by omega,hri])
 have c5:(r.kind==5)=false:=by rw [beq_eq_false_iff_ne];omega
 have c7:(r.kind==7)=true:=beq_iff_eq.2 h
 refine cbS Tryd.func19 rfl Tryd.call19 Tryd.ntmps19 fun en hsz hks hk0=>?_;refine enS ?_
 (repeat (first|refine ctlS ?_|(refine ol_go ?_ (fun K1 hK1=>?_);exact trS;refine evS ?_;(try simp only [c6,c9,c8,c5,c7,n1]);refine hK1 _ _ ?_;clear hK1 K1)|(refine ow_go ?_ dsS (fun K1 hK1=>?_);exact trS;refine evS ?_;(try simp only [c6,c9,c8,c5,c7,n1]);refine hK1 _ ?_;clear hK1 K1)|refine skipS ?_|(refine ow_make ?_ dsS rfl rfl ?_ te53 tr3 tz3 ?_;exact trS;omega;refine stS0 ?_)|refine cS (HC) ?_|refine aw_condT rfl ?_|refine aw_condF rfl ?_))
 (repeat (first|refine ctlS ?_|(refine ol_go ?_ (fun K1 hK1=>?_);exact trS;refine evS ?_;(try simp only [c7]);refine hK1 _ _ ?_;clear hK1 K1)|(refine ow_go ?_ dsS (fun K1 hK1=>?_);exact trS;refine evS ?_;(try simp only [c7]);refine hK1 _ ?_;clear hK1 K1)|refine skipS ?_|(refine ow_make ?_ dsS rfl rfl ?_ te53 tr3 tz3 ?_;exact trS;omega;refine stS0 ?_)|refine cS (HI) ?_))
 refine aw_freezeB 11 672 [iD m] rfl rfl hks (by decide) ?_
 have hIx:=ixPart_c (l:=r.tags) (by omega) (m:Int)
 rw [ht] at hIx
 have hIx':AC Tryd.prog 31 [.d (encI r.tags),.clo 32 [] [.d (.rp [iD m])]] none (fun r' _=>r'=.d (iD (k:Nat))):=hIx
 have hkt:=tagIx_lt ht
 have hkl:k+1<r.kids.length:=by have:=G.k7 h;omega
 have w0:decide ((0:Int)≤(k:Int))=true:=decide_eq_true (by omega)
 have e1:IntKind.i64.wrap ((k:Int)+1)=((k+1:Nat):Int):=by rw [wrap_small (by omega) (by omega)];omega
 have e2:IntKind.i64.wrap ((k:Int)+2)=((k+2:Nat):Int):=by rw [wrap_small (by omega) (by omega)];omega
 have hx:=items_7 (D:=D) (b:=b) (p:=p) h (by rw [hqr];exact hi) ht
 rw [hqr] at hx
 have hsl:[(r.kids.getD (k+1) 0).toNat]=(List.take (k+2 - (k+1)) (List.drop (k+1) r.kids)).map Int.toNat:=by
  rw [show k+2 - (k+1)=1 by omega,takeOne hkl]
  simp [List.getD,hkl]
 have hsll:(List.take (k+2 - (k+1)) (List.drop (k+1) r.kids)).length=1:=by
  rw [List.length_take,List.length_drop];omega
 rw [hsl] at hx
 obtain ⟨e,ok,hK⟩:=done hx (by omega) (fun i hi=>by
  rw [List.getElem_take,List.getElem_drop]
  exact kidn _ (by omega)) (fun i hi=>.inr (.inr ⟨.inl h,by omega⟩)) (by omega)
 generalize dig D b (f+1) n p path=dg at *
 (repeat (first|refine ctlS ?_|(refine ol_go ?_ (fun K1 hK1=>?_);exact trS;refine evS ?_;(try simp only [w0,e1,e2]);refine hK1 _ _ ?_;clear hK1 K1)|(refine ow_go ?_ dsS (fun K1 hK1=>?_);exact trS;refine evS ?_;(try simp only [w0,e1,e2]);refine hK1 _ ?_;clear hK1 K1)|refine skipS ?_|(refine ow_make ?_ dsS rfl rfl ?_ te53 tr3 tz3 ?_;exact trS;omega;refine stS0 ?_)|refine cS (hIx') ?_|refine aw_condT rfl ?_|refine aw_condF rfl ?_))
 (repeat (first|refine walkS ?_|(refine ow_make ?_ dsS rfl rfl ?_ te53 tr3 tz3 ?_;exact trS;omega;refine stS0 ?_)|refine vS 0 (hK) ?_|refine aw_condT rfl ?_|refine aw_condF rfl ?_))
 (refine rtS Tryd.results19 ?_;exact ⟨_,[],.inl ⟨rfl,rfl⟩,_,(trD D b dg.1 (dg.2:Nat):List Eng.D).map .d,[],rfl,toZL_d _ (trD D b dg.1 (dg.2:Nat)),by simp,⟨rfl,rfl⟩⟩)
theorem partI_57 (hD:DB M D) (hM:M≤1048576) (hb4:b.length≤400) (hV:descP D) {f:Nat} (H:PartOK D b f) {n p:Nat}{path path0:ByteArray}{rule0:Int} (hnf:n<f+1) (hnl:n<D.length) (hp:p≤b.length) (hpath:path.size+(f+1)*1048600≤2199023255552) {r:RuleD} (hr:D[n]?=some r) (k57:r.kind=5∨r.kind=7) :
  AC Tryd.prog 19 [.ptr 0 0,.d (sD path),.d (iD n),.d (iD p)] (some ((trD D b path0 rule0).map .d)) (fun r' bx=>r'=.d (.tup [])∧bx=some ((trD D b (dig D b (f+1) n p path).1 ((dig D b (f+1) n p path).2:Nat)).map .d)):=by
 cases hi:intAt (ruleD D (kid0 r)) b p with
 | none=>exact partI_n hD hM hb4 hV H hnf hnl hp hpath hr k57 hi
 | some m=>
  rcases k57 with h|h
  ·exact partI_5 hD hM hb4 hV H hnf hnl hp hpath hr h hi
  ·cases ht:tagIx r.tags m with
   | none=>exact partI_7n hD hM hb4 hV H hnf hnl hp hpath hr h hi ht
   | some k=>exact partI_7 hD hM hb4 hV H hnf hnl hp hpath hr h hi ht
end
end Go.Proofs.YtecdbogicpffeabDoor.Eng
