/-
 Plain laws: what is read of a beginning of bytes is read of the whole too, unless the beginning is too short.

 A step of a path is followed (the reference).
-/
import Derived.Test.YtomfggmmhkpeeaaGreatDoorKP
import Derived.Test.YtomfggmmhkpeeaaGreatDoorKPT4
set_option linter.unusedSimpArgs false
set_option linter.unusedVariables false
set_option linter.defProp false
set_option maxRecDepth 100000
set_option maxHeartbeats 4000000
namespace Go.Proofs.YtomfggmmhkpeeaaGreatDoor
open Go.RowKit

section
variable {B:List UInt8}{n:Nat}
end
end Go.Proofs.YtomfggmmhkpeeaaGreatDoor
namespace Go.Proofs.YtomfggmmhkpeeaaGreatDoor.Eng
open Go Go.RowKit

section
variable {M:Nat}{D:List RuleD}{b:List UInt8}
theorem stpL_end {g:Nat→Nat→V × Nat × Nat}{r:RuleD}{s:ByteArray}{ks:List Nat}{i p:Nat} (hi:¬i<ks.length):stpL g r s (ks.drop i) i p=none:=by
 rw [List.drop_eq_nil_of_le (by omega),stpL]
theorem stpL_at {g:Nat→Nat→V × Nat × Nat}{r:RuleD}{s:ByteArray}{ks:List Nat}{i p:Nat} (hi:i<ks.length) (h:stepT r i=s):stpL g r s (ks.drop i) i p=some (ks[i],p):=by
 rw [List.drop_eq_getElem_cons hi,stpL,if_pos h]
theorem stpL_on {g:Nat→Nat→V × Nat × Nat}{r:RuleD}{s:ByteArray}{ks:List Nat}{i p:Nat} (hi:i<ks.length) (h:stepT r i≠s) (hc:(g ks[i] p).2.2=0):stpL g r s (ks.drop i) i p=stpL g r s (ks.drop (i+1)) (i+1) (g ks[i] p).2.1:=by
 rw [List.drop_eq_getElem_cons hi,stpL,if_neg h,if_pos hc]
theorem stpL_bad {g:Nat→Nat→V × Nat × Nat}{r:RuleD}{s:ByteArray}{ks:List Nat}{i p:Nat} (hi:i<ks.length) (h:stepT r i≠s) (hc:(g ks[i] p).2.2≠0):stpL g r s (ks.drop i) i p=none:=by
 rw [List.drop_eq_getElem_cons hi,stpL,if_neg h,if_neg hc]
def stpR (x:Option (Nat × Nat)):Rz:=match x with
 | some (k,p)=>.d (.tup [iD k,iD p,bD true])
 | none=>.d (.tup [iD 0,iD 0,bD false])
private def tyF:=ai (ai (ai tg25 (ai tg27 tg32)) (ai tg86 (ai tg87 tg29))) (ai (ai tg34 (ai tg89 tg3)) (ai tg4 (ai tg5 tg9)))
theorem stpS_c (hD:DB M D) (hM:M≤1048576) (hb:b.length≤1048576) (hV:descP D) {n p:Nat} (hnl:n<D.length) (hp:p≤b.length) (s:ByteArray):AC Tryz.prog 135 [.d (encD D),.d (iD n),.d (encB b),.d (iD p),.d (sD s)] none (fun r' _=>r'=stpR (goS D b n p s)):=by
 obtain ⟨r,hr⟩:∃ r,D[n]?=some r:=⟨_,List.getElem?_eq_getElem hnl⟩
 have hrb:=hD.rule r (List.mem_of_getElem? hr)
 have G:GoodR D n r:=good_of hV hr
 have hrd:=ruleD_get hr
 have HE:=enterS_c hD hM hb hr G p hp
 rw [goS_items hV hr]
 cases hx:itemsAt D r b p with
 | none=>
  rw [hx] at HE
  have HE':AC Tryz.prog 149 [.d (encD D),.d (encR r),.d (encB b),.d (iD p)] none (fun r' _=>r'=.d (.tup [iD p,iD (-1),iD 0])):=HE
  refine cbS Tryz.func135 rfl Tryz.call135 Tryz.ntmps135 fun en hsz hks hk0=>?_;refine enS ?_
  (repeat (first|refine walkS ?_|refine cS (HE') ?_))
  refine aw_loopS [2,4,5,10,11,12,13,14,15,16] (fun _ _=>[]) (fun _ z=>[(17,.d (iD (z:Nat)))]) [] (fun _ _=>[]) [] (fun _ _=>[]) (fun z:Nat=>z=0) (fun z=>0) (0) hks (fun _=>rfl) rfl wkS ?_;intro x hx;refine headS ?_
  obtain rfl:x=0:=hx
  have d0:decide (((0:Nat):Int)<(-1))=false:=rfl
  (repeat (first|refine ctlS ?_|(refine ol_go ?_ (fun K1 hK1=>?_);exact trS;refine evS ?_;(try simp only [d0]);refine hK1 _ _ ?_;clear hK1 K1)|(refine ow_go ?_ dsS (fun K1 hK1=>?_);exact trS;refine evS ?_;(try simp only [d0]);refine hK1 _ ?_;clear hK1 K1)|refine skipS ?_|refine aw_condT rfl ?_|refine aw_condF rfl ?_))
  (refine rtS Tryz.results135 ?_;exact ⟨_,_,.inl ⟨rfl,rfl⟩,List.nodup_nil,rfl⟩)
 | some y=>
  obtain ⟨q,m,ks⟩:=y
  rw [hx] at HE
  obtain ⟨o1,o2,o3,o4⟩:=items_ok hV hr G hp hx
  have HE':AC Tryz.prog 149 [.d (encD D),.d (encR r),.d (encB b),.d (iD p)] none (fun r' _=>r'=.d (.tup [iD q,iD (ks.length:Nat),iD m])):=HE
  have HR:∀ k q':Nat,k<D.length→q'≤b.length→AC Tryz.prog 31 [.d (encD D),.d (iD k),.d (encB b),.d (iD q')] none (fun r _=>r=rdR (rd D b D.length k q')):=fun k q' h1 h2=>l11Read_all hD hM hb hV D.length k q' h1 h1 h2
  have HI:∀ k q',q'≤b.length→(rd D b D.length k q').2.1≤b.length:=fun k q' h=>(rd_in D b D.length k q' h).2
  dsimp only
  generalize hg:rd D b D.length=g at *
  refine cbS Tryz.func135 rfl Tryz.call135 Tryz.ntmps135 fun en hsz hks hk0=>?_;refine enS ?_
  (repeat (first|refine walkS ?_|refine cS (HE') ?_))
  refine aw_loopS [2,4,5,10,11,12,13,15,16] (fun _ _=>[]) (fun _ z=>[(17,.d (iD (z.1:Nat))),(14,.d (iD (z.2:Nat)))]) [] (fun _ _=>[]) [] (fun _ _=>[]) (fun z:Nat × Nat=>z.1≤ks.length∧z.2≤b.length∧stpL g r s ks 0 q=stpL g r s (ks.drop z.1) z.1 z.2) (fun z=>ks.length - z.1) ((0,q)) hks (fun _=>rfl) ⟨Nat.zero_le _,o1,rfl⟩ wkS ?_;intro x hx;refine headS ?_
  revert hx
  revert x
  rintro ⟨i,q'⟩ ⟨hx1,hx2,hx3⟩
  simp only at hx1 hx2 hx3 ⊢
  refine walkS ?_
  refine aw_condS rfl (fun hi=>?_) (fun hi=>?_)
  ·have hil:i<ks.length:=by omega
   obtain ⟨oi1,oi2⟩:=o3 i hil
   have hL:=l9Item_c hrb hM m i (fun h=>by have:=(G.k5 h).1;omega) (fun h=>(G.k7 h).1) (fun h=>by rcases h with h|h;(have:=G.k8 h;omega);(have:=G.k9 h;omega))
   rw [oi1] at hL
   have hR:=HR ks[i] q' (by omega) hx2
   have hin:=HI ks[i] q' hx2
   have hst:=stepS_c hrb hM (i:=i) (by omega) (o4 i hil)
   have e1:IntKind.i64.wrap ((i:Int)+1)=((i+1:Nat):Int):=by rw [wrap_small (by omega) (by omega)];omega
   by_cases hs:stepT r i=s
   ·rw [stpL_at hil hs] at hx3
    rw [hx3]
    have w1:decide (stepT r i=s)=true:=decide_eq_true hs
    (repeat (first|refine walkS ?_|refine cS (hL) ?_))
    (repeat (first|refine ctlS ?_|(refine ol_go ?_ (fun K1 hK1=>?_);exact trS;refine evS ?_;(try simp only [w1]);refine hK1 _ _ ?_;clear hK1 K1)|(refine ow_go ?_ dsS (fun K1 hK1=>?_);exact trS;refine evS ?_;(try simp only [w1]);refine hK1 _ ?_;clear hK1 K1)|refine skipS ?_|refine cS (hst) ?_|refine aw_condT rfl ?_|refine aw_condF rfl ?_))
    (refine rtS Tryz.results135 ?_;exact ⟨_,_,.inl ⟨rfl,rfl⟩,List.nodup_nil,rfl⟩)
   have w1:decide (stepT r i=s)=false:=decide_eq_false hs
   by_cases hc:(g ks[i] q').2.2=0
   ·rw [stpL_on hil hs hc] at hx3
    generalize g ks[i] q'=res at *
    obtain ⟨v,q2,c⟩:=res
    simp only at hc hin hx3 hR
    subst hc
    (repeat (first|refine walkS ?_|refine cS (hL) ?_))
    (repeat (first|refine ctlS ?_|(refine ol_go ?_ (fun K1 hK1=>?_);exact trS;refine evS ?_;(try simp only [w1]);refine hK1 _ _ ?_;clear hK1 K1)|(refine ow_go ?_ dsS (fun K1 hK1=>?_);exact trS;refine evS ?_;(try simp only [w1]);refine hK1 _ ?_;clear hK1 K1)|refine skipS ?_|refine cS (hst) ?_|refine aw_condT rfl ?_|refine aw_condF rfl ?_))
    (repeat (first|refine walkS ?_|refine cS (hR) ?_))
    refine aw_condS rfl (fun hc=>?_) (fun hc=>?_)
    ·(first|exact absurd trivial hc|exact absurd rfl hc|(cases hc;done)|omega|exact absurd hc (by decide)|(simp at hc;done))
    (repeat (first|refine ctlS ?_|(refine ol_go ?_ (fun K1 hK1=>?_);exact trS;refine evS ?_;(try simp only [e1]);refine hK1 _ _ ?_;clear hK1 K1)|(refine ow_go ?_ dsS (fun K1 hK1=>?_);exact trS;refine evS ?_;(try simp only [e1]);refine hK1 _ ?_;clear hK1 K1)|refine skipS ?_))
    refine ⟨(i+1,q2),⟨by simp only;omega,hin,hx3⟩,by simp only;omega,?_⟩
    exact wkS
   ·rw [stpL_bad hil hs hc] at hx3
    rw [hx3]
    generalize g ks[i] q'=res at *
    obtain ⟨v,q2,c⟩:=res
    simp only at hc hR
    (repeat (first|refine walkS ?_|refine cS (hL) ?_))
    (repeat (first|refine ctlS ?_|(refine ol_go ?_ (fun K1 hK1=>?_);exact trS;refine evS ?_;(try simp only [w1]);refine hK1 _ _ ?_;clear hK1 K1)|(refine ow_go ?_ dsS (fun K1 hK1=>?_);exact trS;refine evS ?_;(try simp only [w1]);refine hK1 _ ?_;clear hK1 K1)|refine skipS ?_|refine cS (hst) ?_|refine aw_condT rfl ?_|refine aw_condF rfl ?_))
    (repeat (first|refine walkS ?_|refine cS (hR) ?_))
    refine aw_condS rfl (fun hc=>?_) (fun hc=>?_)
    ·refine walkS ?_
     (refine rtS Tryz.results135 ?_;exact ⟨_,_,.inl ⟨rfl,rfl⟩,List.nodup_nil,rfl⟩)
    ·(first|exact absurd trivial hc|exact absurd rfl hc|(cases hc;done)|omega|exact absurd hc (by decide)|(simp at hc;done))
  ·rw [stpL_end (by omega)] at hx3
   rw [hx3]
   refine walkS ?_
   (refine rtS Tryz.results135 ?_;exact ⟨_,_,.inl ⟨rfl,rfl⟩,List.nodup_nil,rfl⟩)
end
end Go.Proofs.YtomfggmmhkpeeaaGreatDoor.Eng
