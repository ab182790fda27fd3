/-
 Plain laws: what is printed is read again.

 Plain laws: what is read of a beginning of bytes is read of the whole too, unless the beginning is too short.
-/
import Derived.Test.YtodkkldopciagaaGreatDoorKN48
import Derived.Test.YtodkkldopciagaaGreatDoorKP
set_option linter.unusedSimpArgs false
set_option linter.unusedVariables false
set_option linter.defProp false
set_option maxRecDepth 100000
set_option maxHeartbeats 4000000
namespace Go.Proofs.YtodkkldopciagaaGreatDoor.Eng
open Go.RowKit

theorem beNat_beB:∀ (s n:Nat),n<256 ^ s→beNat (beB s n)=n
 | 0,n,h=>by
  have:n=0:=by simpa using h
  subst this
  rfl
 | s+1,n,h=>by
  rw [beB,beNat_snoc,beNat_beB s (n / 256) (by rw [Nat.pow_succ] at h;omega)]
  rw [UInt8.toNat_ofNat']
  omega
theorem pow_fitL {r:RuleD}{n:Nat} (hn:(n:Int)≤2 ^ (8*r.size.toNat) - 1):n<256 ^ r.size.toNat:=by
 have h:((2:Int) ^ (8*r.size.toNat))=((256 ^ r.size.toNat:Nat):Int):=by rw [Int.pow_mul];simp
 rw [h] at hn
 omega
theorem readInt_intB {r:RuleD} (hs:1≤r.size∧r.size≤4) {n:Nat} (hn:n<256 ^ r.size.toNat):readInt (intB r n) r.little=n:=by
 unfold readInt
 rw [intB_len,if_neg (by omega)]
 unfold intB
 split
 ·rw [List.reverse_reverse,beNat_beB _ _ hn]
 ·exact beNat_beB _ _ hn
section
variable {b x y:List UInt8}{p:Nat}
theorem at_len (h:b.drop p=x++y) (hx:x≠[]∨p≤b.length):b.length=p+x.length+y.length:=by
 have:=congrArg List.length h
 rw [List.length_drop,List.length_append] at this
 rcases hx with hx|hx
 ·have:=List.length_pos_iff.2 hx
  omega
 ·omega
theorem at_take (h:b.drop p=x++y):(b.drop p).take x.length=x:=by rw [h,List.take_left'];rfl
theorem at_drop (h:b.drop p=x++y):b.drop (p+x.length)=y:=by
 rw [←List.drop_drop,h,List.drop_left']
 rfl
theorem intAt_pr {r:RuleD} (hs:1≤r.size∧r.size≤4) {n:Nat} (hn:n<256 ^ r.size.toNat) (hp:p≤b.length) (h:b.drop p=intB r n++y):intAt r b p=some n:=by
 have hl:=at_len h (.inr hp)
 have ht:=at_take h
 rw [intB_len] at hl ht
 unfold intAt
 rw [if_neg (by omega),ht,readInt_intB hs hn]
theorem constAt_pr:∀ (cs:List UInt8) (i:Nat),b.drop (p+i)=cs++y→constAt b p i cs=(p+i+cs.length,0)
 | [],i,_=>rfl
 | c::cs,i,h=>by
  have hl:=at_len h (.inl (by simp))
  rw [List.length_cons] at hl
  have hlt:p+i<b.length:=by omega
  have h2:=List.drop_eq_getElem_cons hlt
  rw [h] at h2
  injection h2 with h3 h4
  rw [constAt_step hlt h3.symm]
  rw [constAt_pr cs (i+1) (by rw [←Nat.add_assoc,←h4];rfl),List.length_cons]
  congr 1
  omega
theorem term_pr {t:UInt8} (ht:t≠92):∀ l:List UInt8,term t (escB t l++y)=some (l,(escB t l).length)
 | []=>by
  show term t (t::y)=_
  rw [term_cons,if_pos rfl]
  rfl
 | c::l=>by
  have ih:=term_pr ht l
  rw [escB]
  by_cases hc:c=t∨c=92
  ·rw [if_pos hc]
   rw [List.cons_append,term_cons,if_neg (fun e=>ht e.symm),if_pos rfl]
   simp only [List.cons_append]
   rw [ih]
   rfl
  ·rw [if_neg hc]
   rw [List.cons_append,term_cons,if_neg (fun e=>hc (.inl e)),if_neg (fun e=>hc (.inr e)),ih]
   rfl
theorem bytesAt_pr (hp:p≤b.length) (h:b.drop p=x++y):bytesAt b p x.length=(.mk 0 x [],p+x.length,0):=by
 have hl:=at_len h (.inr hp)
 rw [bytesAt_yes (by omega),at_take h]
end
section
variable {D:List RuleD}
theorem term_ne {D:List RuleD} (h:descP D) {n:Nat}{r:RuleD} (hr:D[n]?=some r) (h2:r.kind=10):r.bytes.headD 0≠92:=by
 have hn:n<D.length:=(List.getElem?_eq_some_iff.1 hr).1
 have hrn:ruleAt D n=some r:=by simp [ruleAt,hr]
 have hp:ruleP D n r:=by
  refine Classical.byContradiction fun hq=>?_
  have:=h.2 n hn
  rw [vRule_no hrn hq] at this
  exact Bool.noConfusion this
 obtain ⟨_,_,_,hk⟩:=hp
 rw [kl_10 h2] at hk
 simp only [Bool.and_eq_true,decide_eq_true_eq] at hk
 exact hk.2
theorem own_tag (hV:descP D) {i:Nat}{r:RuleD} (hr:D[i]?=some r) (G:GoodR D i r) (h7:r.kind=7) {n:Int}{lb lv:Nat} (h:ownV D r n lb lv=true):(0≤n∧n≤limD D (kid0 r))∧∃ t,tagIx r.tags n=some t∧t+1<r.kids.length:=by
 rw [ownV_7 h7,decide_eq_true_eq] at h
 obtain ⟨a1,a2,a3⟩:=h
 cases ht:tagIx r.tags n with
 | none=>rw [itemK_7n h7 ht] at a3;omega
 | some t=>
  have hlt:=tagIx_lt ht
  have e:r.tags[t]=n:=by
   unfold tagIx at ht
   rw [List.findIdx?_eq_some_iff_getElem] at ht
   obtain ⟨_,h2,_⟩:=ht
   simpa using h2
  have hn:i<D.length:=(List.getElem?_eq_some_iff.1 hr).1
  have hrn:ruleAt D i=some r:=by simp [ruleAt,hr]
  have hp:ruleP D i r:=by
   refine Classical.byContradiction fun hq=>?_
   have:=hV.2 i hn
   rw [vRule_no hrn hq] at this
   exact Bool.noConfusion this
  obtain ⟨_,_,hkid,hk⟩:=hp
  rw [kl_7 h7] at hk
  simp only [Bool.and_eq_true] at hk
  obtain ⟨h1,h2,h3⟩:=tagsP_of hk.2
  have:=(h3 t hlt).1
  rw [e] at this
  exact ⟨this,t,rfl,by omega⟩
theorem nil_of_len {α:Type}{l:List α} (h:l.length=0):l=[]:=List.eq_nil_of_length_eq_zero h
mutual
theorem rd_pr (hV:descP D) {b:List UInt8}:∀ (v:V) (i f p:Nat) (y:List UInt8),i<D.length→i<f→validV D i v=true→p≤b.length→b.drop p=prV D i v++y→rd D b f i p=(v,p+(prV D i v).length,0)
 | .mk n bs vs,i,f,p,y,hi,hf,hv,hp,hb=>by
  obtain ⟨f,rfl⟩:∃ g,f=g+1:=⟨f - 1,by omega⟩
  obtain ⟨r,hr⟩:∃ r,D[i]?=some r:=⟨_,List.getElem?_eq_getElem hi⟩
  have G:GoodR D i r:=good_of hV hr
  have hrD:=ruleD_get hr
  obtain ⟨kd1,kd2⟩:=G.kd
  rw [validV,hrD,Bool.and_eq_true] at hv
  obtain ⟨hO,hs⟩:=hv
  have hpr:prV D i (.mk n bs vs)=headB D r n bs vs.length++(prVs D r n 0 vs++tailB r (prVs D r n 0 vs)):=by rw [prV,hrD]
  rw [hpr] at hb ⊢
  have hkid:∀ k,k<vs.length→∃ j:Nat,itemK r n k=j∧j<i:=fun k hk=>by
   obtain ⟨j,h1,h2⟩:=own_kid G hi hO hk
   refine ⟨j,h1,?_⟩
   have hall:∀ x,x∈r.kids→x<i:=fun x hx=>by
    obtain ⟨t,ht,rfl⟩:=List.getElem_of_mem hx
    exact (G.kid t ht).2
   have hj:(j:Int)∈r.kids∨(j:Int)=-1∨r.kids.length=0:=by
    rw [←h1]
    unfold itemK
    split
    ·by_cases h:1<r.kids.length
     ·exact .inl (List.mem_of_getElem? (kids1 h))
     ·have:=(G.k5 ‹_›).1;omega
    split
    ·by_cases h:k<r.kids.length
     ·left;rw [List.getD_eq_getElem?_getD,List.getElem?_eq_getElem h];exact List.getElem_mem h
     ·right;left;rw [List.getD_eq_getElem?_getD,List.getElem?_eq_none (by omega)];rfl
    split
    ·split
     ·rename_i t _
      by_cases h:t+1<r.kids.length
      ·left;rw [List.getD_eq_getElem?_getD,List.getElem?_eq_getElem h];exact List.getElem_mem h
      ·right;left;rw [List.getD_eq_getElem?_getD,List.getElem?_eq_none (by omega)];rfl
     ·right;left;rfl
    split
    ·by_cases h:0<r.kids.length
     ·exact .inl (List.mem_of_getElem? (kids0 h))
     ·right;right;omega
    ·right;left;rfl
   rcases hj with hj|hj|hj
   ·have:=hall _ hj;omega
   ·omega
   ·exfalso
    unfold itemK at h1
    by_cases e:r.kind=8∨r.kind=9
    ·rcases e with e|e
     ·have:=G.k8 e;omega
     ·have:=G.k9 e;omega
    ·by_cases e5:r.kind=5
     ·have:=(G.k5 e5).1;omega
     by_cases e6:r.kind=6
     ·rw [ownV_6 e6,decide_eq_true_eq] at hO;omega
     by_cases e7:r.kind=7
     ·have:=(G.k7 e7).1;omega
     ·rw [if_neg e5,if_neg e6,if_neg e7,if_neg e] at h1;omega
  have IT:∀ (q:Nat) (ks:List Nat) (z:List UInt8),q≤b.length→ks.length=vs.length→(∀ j (h:j<ks.length),itemK r n (j:Nat)=ks[j])→b.drop q=prVs D r n 0 vs++z→rdItems (rd D b f) ks q=(vs,q+(prVs D r n 0 vs).length,0):=fun q ks z h1 h2 h3 h4=>
   rd_prs hV vs ks 0 r n f q z h2 (fun j h=>by rw [Nat.zero_add];exact h3 j h) (fun j h=>by
    obtain ⟨x,e1,e2⟩:=hkid j (by omega)
    have:=h3 j h
    omega) hs h1 h4
  by_cases k1:r.kind=1
  ·rw [ownV_1 k1,decide_eq_true_eq] at hO
   obtain ⟨h1,h2,h3,h4⟩:=hO
   obtain rfl:=nil_of_len h3
   obtain rfl:=nil_of_len h4
   obtain ⟨m,rfl⟩:=Int.eq_ofNat_of_zero_le h1
   have e:headB D r (m:Int) [] ([]:List V).length++(prVs D r (m:Int) 0 []++tailB r (prVs D r (m:Int) 0 []))=intB r m:=by
    rw [headB,if_pos k1,prVs,tailB,if_neg (by omega)]
    simp
   rw [e] at hb ⊢
   rw [rd_1s hrD k1 (intAt_pr (G.k1 k1) (pow_fitL h2) hp hb),intB_len]
  by_cases k2:r.kind=2
  ·rw [ownV_2 k2,decide_eq_true_eq] at hO
   obtain ⟨rfl,h3,h4⟩:=hO
   obtain rfl:=nil_of_len h3
   obtain rfl:=nil_of_len h4
   have e:headB D r 0 [] ([]:List V).length++(prVs D r 0 0 []++tailB r (prVs D r 0 0 []))=r.bytes:=by
    rw [headB,if_neg k1,if_pos k2,prVs,tailB,if_neg (by omega)]
    simp
   rw [e] at hb ⊢
   rw [rd_2 hrD k2,constAt_pr r.bytes 0 hb]
   rfl
  by_cases k3:r.kind=3
  ·rw [ownV_3 k3,decide_eq_true_eq] at hO
   obtain ⟨rfl,h3,h4⟩:=hO
   obtain rfl:=nil_of_len h4
   have e:headB D r 0 bs ([]:List V).length++(prVs D r 0 0 []++tailB r (prVs D r 0 0 []))=bs:=by
    rw [headB,if_neg k1,if_neg k2,if_pos k3,prVs,tailB,if_neg (by omega)]
    simp
   rw [e] at hb ⊢
   rw [rd_3 hrD k3,show r.size.toNat=bs.length by omega,bytesAt_pr hp hb]
  by_cases k10:r.kind=10
  ·rw [ownV_10 k10,decide_eq_true_eq] at hO
   obtain ⟨rfl,h3,h4⟩:=hO
   obtain rfl:=nil_of_len h4
   have e:headB D r 0 bs ([]:List V).length++(prVs D r 0 0 []++tailB r (prVs D r 0 0 []))=escB (r.bytes.headD 0) bs:=by
    rw [headB,if_neg k1,if_neg k2,if_neg k3,if_neg (by omega),if_neg (by omega),if_neg (by omega),if_neg (by omega),if_pos k10,prVs,tailB,if_neg (by omega)]
    simp
   rw [e] at hb ⊢
   have ht:readTerm b p (r.bytes.headD 0)=some (bs,p+(escB (r.bytes.headD 0) bs).length):=by
    unfold readTerm
    rw [hb,term_pr (term_ne hV hr k10)]
    rfl
   rw [rd_10s hrD k10 ht]
  by_cases k6:r.kind=6
  ·rw [ownV_6 k6,decide_eq_true_eq] at hO
   obtain ⟨rfl,h3,h4⟩:=hO
   obtain rfl:=nil_of_len h3
   have e:headB D r 0 [] vs.length++(prVs D r 0 0 vs++tailB r (prVs D r 0 0 vs))=prVs D r 0 0 vs:=by
    rw [headB,if_neg k1,if_neg k2,if_neg k3,if_neg (by omega),if_neg (by omega),if_neg (by omega),if_neg (by omega),if_neg k10,tailB,if_neg (by omega)]
    simp
   rw [e] at hb ⊢
   rw [rd_6 hrD k6,IT p _ _ hp (by simp;omega) (fun j h=>by
    have hj:j<r.kids.length:=by simpa using h
    rw [itemK_6 k6 hj,List.getElem_map]
    have:=(G.kid j hj).1
    omega) hb]
   rfl
  by_cases k7:r.kind=7
  ·obtain ⟨hn,t,ht,htl⟩:=own_tag hV hr G k7 hO
   obtain ⟨j,q,ej,hj,hq,hqr,hlim⟩:=head_kid G (.inr (.inr k7))
   obtain ⟨m,rfl⟩:=Int.eq_ofNat_of_zero_le hn.1
   rw [hlim] at hn
   rw [ownV_7 k7,decide_eq_true_eq] at hO
   obtain ⟨h3,h4,_⟩:=hO
   obtain rfl:=nil_of_len h3
   have e:headB D r (m:Int) [] vs.length++(prVs D r (m:Int) 0 vs++tailB r (prVs D r (m:Int) 0 vs))=intB q m++prVs D r (m:Int) 0 vs:=by
    rw [headB,if_neg k1,if_neg k2,if_neg k3,if_neg (by omega),if_neg (by omega),if_pos k7,tailB,if_neg (by omega),hqr]
    simp
   rw [e] at hb ⊢
   rw [List.append_assoc] at hb
   have hl:=at_len hb (.inr hp)
   have hd:=at_drop hb
   rw [intB_len] at hl hd
   have hat:=intAt_pr hq (pow_fitL hn.2) hp hb
   rw [←hqr] at hat
   rw [rd_7s hrD k7 hat ht,hqr,IT (p+q.size.toNat) _ _ (by omega) (by simp;omega) (fun j h=>by
    obtain rfl:j=0:=by simp at h;omega
    rw [itemK_7 k7 ht htl,List.getElem_singleton,List.getD_eq_getElem?_getD,List.getElem?_eq_getElem htl]
    have:=(G.kid _ htl).1
    simp only [Option.getD_some]
    omega) hd,List.length_append,intB_len,←Nat.add_assoc]
   rfl
  by_cases k8:r.kind=8
  ·rw [ownV_8 k8,decide_eq_true_eq] at hO
   obtain ⟨rfl,h3,h4⟩:=hO
   obtain rfl:=nil_of_len h3
   have e:headB D r 0 [] vs.length++(prVs D r 0 0 vs++tailB r (prVs D r 0 0 vs))=[UInt8.ofNat vs.length]++prVs D r 0 0 vs:=by
    rw [headB,if_neg k1,if_neg k2,if_neg k3,if_neg (by omega),if_neg (by omega),if_neg (by omega),if_pos k8,tailB,if_neg (by omega)]
    simp
   rw [e] at hb ⊢
   rw [List.append_assoc] at hb
   have hl:=at_len hb (.inr hp)
   have hd:=at_drop hb
   simp only [List.length_singleton] at hl hd
   have hb0:b[p]?=some (UInt8.ofNat vs.length):=by
    have h2:=List.drop_eq_getElem_cons (show p<b.length by omega)
    rw [hb] at h2
    injection h2 with h3 h4
    rw [List.getElem?_eq_getElem (by omega),←h3]
   have hc:(UInt8.ofNat vs.length).toNat=vs.length:=by rw [UInt8.toNat_ofNat'];omega
   have hk0:=kids0 (r:=r) (by have:=G.k8 k8;omega)
   rw [rd_8s hrD k8 hb0 (by omega),hc,IT (p+1) _ _ (by omega) (by simp) (fun j h=>by
    rw [itemK_8 (.inl k8),List.getElem_replicate]
    have hl0:0<r.kids.length:=by have:=G.k8 k8;omega
    rw [List.getElem?_eq_getElem hl0] at hk0
    have:=(G.kid 0 hl0).1
    rw [Option.some.inj hk0] at this
    omega) hd,List.length_append,List.length_singleton,←Nat.add_assoc]
   rfl
  by_cases k9:r.kind=9
  ·rw [ownV_9 k9,decide_eq_true_eq] at hO
   obtain ⟨rfl,h3,h4⟩:=hO
   obtain rfl:=nil_of_len h3
   have e:headB D r 0 [] vs.length++(prVs D r 0 0 vs++tailB r (prVs D r 0 0 vs))=prVs D r 0 0 vs++[UInt8.ofNat (sumB (prVs D r 0 0 vs))]:=by
    rw [headB,if_neg k1,if_neg k2,if_neg k3,if_neg (by omega),if_neg (by omega),if_neg (by omega),if_neg (by omega),if_neg k10,tailB,if_pos k9]
    simp
   rw [e] at hb ⊢
   rw [List.append_assoc] at hb
   have hl:=at_len hb (.inr hp)
   have hd:=at_drop hb
   have ht:=at_take hb
   have hk0:=kids0 (r:=r) (by have:=G.k9 k9;omega)
   have hit:=IT p [(kid0 r).toNat] _ hp (by simp;omega) (fun j h=>by
    obtain rfl:j=0:=by simp at h;omega
    rw [itemK_8 (.inr k9),List.getElem_singleton]
    have hl0:0<r.kids.length:=by have:=G.k9 k9;omega
    rw [List.getElem?_eq_getElem hl0] at hk0
    have:=(G.kid 0 hl0).1
    rw [Option.some.inj hk0] at this
    omega) hb
   have hm:mkItems 0 (rdItems (rd D b f) [(kid0 r).toNat] p)=(.mk 0 [] vs,p+(prVs D r 0 0 vs).length,0):=by rw [hit];rfl
   simp only [List.length_append,List.length_singleton] at hl
   have hq:b[p+(prVs D r 0 0 vs).length]?=some (UInt8.ofNat (sumB (prVs D r 0 0 vs))):=by
    have h2:=List.drop_eq_getElem_cons (show p+(prVs D r 0 0 vs).length<b.length by omega)
    rw [hd] at h2
    injection h2 with h3 h4
    rw [List.getElem?_eq_getElem (by omega),←h3]
   have hsum:(UInt8.ofNat (sumB (prVs D r 0 0 vs))).toNat=sumB ((b.drop p).take (p+(prVs D r 0 0 vs).length - p)):=by
    rw [Nat.add_sub_cancel_left,ht,UInt8.toNat_ofNat']
    have:sumB (prVs D r 0 0 vs)<256:=by rw [sumB_eq];omega
    omega
   rw [rd_9s hrD k9 hm hq hsum,List.length_append,List.length_singleton,←Nat.add_assoc]
  by_cases k4:r.kind=4
  ·obtain ⟨j,q,ej,hj,hq,hqr,hlim⟩:=head_kid G (.inl k4)
   rw [ownV_4 k4,decide_eq_true_eq,hlim] at hO
   obtain ⟨rfl,h2,h3,h4⟩:=hO
   obtain rfl:=nil_of_len h4
   have e:headB D r 0 bs ([]:List V).length++(prVs D r 0 0 []++tailB r (prVs D r 0 0 []))=intB q bs.length++bs:=by
    rw [headB,if_neg k1,if_neg k2,if_neg k3,if_pos k4,prVs,tailB,if_neg (by omega),hqr]
    simp
   rw [e] at hb ⊢
   rw [List.append_assoc] at hb
   have hl:=at_len hb (.inr hp)
   have hd:=at_drop hb
   rw [intB_len] at hl hd
   have hat:=intAt_pr hq (pow_fitL h3) hp hb
   rw [←hqr] at hat
   rw [rd_4s hrD k4 hat,hqr,bytesAt_pr (by omega) hd,List.length_append,intB_len,←Nat.add_assoc]
  have k5:r.kind=5:=by omega
  obtain ⟨j,q,ej,hj,hq,hqr,hlim⟩:=head_kid G (.inr (.inl k5))
  rw [ownV_5 k5,decide_eq_true_eq,hlim] at hO
  obtain ⟨rfl,h2,h3,h4⟩:=hO
  obtain rfl:=nil_of_len h2
  have e:headB D r 0 [] vs.length++(prVs D r 0 0 vs++tailB r (prVs D r 0 0 vs))=intB q vs.length++prVs D r 0 0 vs:=by
   rw [headB,if_neg k1,if_neg k2,if_neg k3,if_neg k4,if_pos k5,tailB,if_neg (by omega),hqr]
   simp
  rw [e] at hb ⊢
  rw [List.append_assoc] at hb
  have hl:=at_len hb (.inr hp)
  have hd:=at_drop hb
  rw [intB_len] at hl hd
  have hat:=intAt_pr hq (pow_fitL h4) hp hb
  rw [←hqr] at hat
  have hk1:=kids1 (r:=r) (by have:=(G.k5 k5).1;omega)
  rw [rd_5s hrD k5 hat (by omega),hqr,IT (p+q.size.toNat) _ _ (by omega) (by simp) (fun j h=>by
   rw [itemK_5 k5,List.getElem_replicate]
   have hl1:1<r.kids.length:=by have:=(G.k5 k5).1;omega
   rw [List.getElem?_eq_getElem hl1] at hk1
   have:=(G.kid 1 hl1).1
   rw [Option.some.inj hk1] at this
   omega) hd,List.length_append,intB_len,←Nat.add_assoc]
  rfl
theorem rd_prs (hV:descP D) {b:List UInt8}:∀ (vs:List V) (ks:List Nat) (k:Nat) (r:RuleD) (n:Int) (f q:Nat) (z:List UInt8),ks.length=vs.length→(∀ j (h:j<ks.length),itemK r n (k+j:Nat)=ks[j])→(∀ j (h:j<ks.length),ks[j]<f∧ks[j]<D.length)→validVs D r n k vs=true→q≤b.length→b.drop q=prVs D r n k vs++z→rdItems (rd D b f) ks q=(vs,q+(prVs D r n k vs).length,0)
 | [],ks,k,r,n,f,q,z,h1,_,_,_,_,_=>by
  obtain rfl:=nil_of_len (l:=ks) (by simpa using h1)
  rfl
 | v::vs,ks,k,r,n,f,q,z,h1,h2,h3,h4,h5,h6=>by
  cases ks with
  | nil=>simp at h1
  | cons x ks=>
   have e0:=h2 0 (by simp)
   rw [Nat.add_zero,List.getElem_cons_zero] at e0
   obtain ⟨e1,e2⟩:=h3 0 (by simp)
   rw [List.getElem_cons_zero] at e1 e2
   rw [validVs,Bool.and_eq_true,e0] at h4
   rw [prVs,e0] at h6 ⊢
   rw [List.append_assoc] at h6
   have hl:=at_len h6 (.inr h5)
   have hd:=at_drop h6
   have hv:=rd_pr hV v x f q _ e2 e1 h4.1 h5 h6
   have hrest:=rd_prs hV vs ks (k+1) r n f (q+(prV D x v).length) z (by simpa using h1) (fun j h=>by
    have:=h2 (j+1) (by simpa using h)
    rw [List.getElem_cons_succ] at this
    rw [show k+1+j=k+(j+1) by omega]
    exact this) (fun j h=>by
    have:=h3 (j+1) (by simpa using h)
    rwa [List.getElem_cons_succ] at this) h4.2 (by omega) hd
   rw [rdItems,hv]
   simp only [if_true]
   rw [hrest]
   simp only [if_true,List.length_append,Nat.add_assoc]
end
end
end Go.Proofs.YtodkkldopciagaaGreatDoor.Eng
namespace Go.Proofs.YtodkkldopciagaaGreatDoor
open Go.RowKit

section
variable {B:List UInt8}{n:Nat}
end
end Go.Proofs.YtodkkldopciagaaGreatDoor
