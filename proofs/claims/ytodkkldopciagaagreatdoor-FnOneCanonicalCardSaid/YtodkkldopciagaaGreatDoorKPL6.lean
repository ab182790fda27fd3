/-
 Plain laws: what is read is a value of its rule; its encoding is not longer than what was read, and is the same where no rule is terminated.
-/
import Derived.Test.YtodkkldopciagaaGreatDoorKPLP
import Derived.Test.YtodkkldopciagaaGreatDoorKPure16
set_option linter.unusedSimpArgs false
set_option linter.unusedVariables false
set_option linter.defProp false
set_option maxRecDepth 100000
set_option maxHeartbeats 4000000
namespace Go.Proofs.YtodkkldopciagaaGreatDoor.Eng
open Go.RowKit

theorem beB_beNat:∀ (s:Nat) (l:List UInt8),l.length=s→beB s (beNat l)=l
 | 0,l,h=>by rw [List.eq_nil_of_length_eq_zero h];rfl
 | s+1,l,h=>by
  obtain ⟨m,c,rfl⟩:∃ m c,l=m++[c]:=⟨l.dropLast,l.getLast (by intro e;rw [e] at h;cases h),(List.dropLast_concat_getLast _).symm⟩
  have hm:m.length=s:=by simpa using h
  have hc:=c.toNat_lt
  rw [beB,beNat_snoc,show (beNat m*256+c.toNat) / 256=beNat m by omega,show (beNat m*256+c.toNat) % 256=c.toNat by omega,beB_beNat s m hm,UInt8.ofNat_toNat]
theorem intB_readInt {r:RuleD}{l:List UInt8} (hl:l.length=r.size.toNat) (h4:l.length≤4):intB r (readInt l r.little)=l:=by
 unfold readInt intB
 rw [if_neg (show ¬4<l.length by omega)]
 cases r.little with
 | false=>
  simp only [Bool.false_eq_true,if_false]
  exact beB_beNat _ _ hl
 | true=>
  simp only [if_true]
  rw [beB_beNat _ _ (by rw [List.length_reverse];exact hl),List.reverse_reverse]
theorem intAt_ok {r:RuleD}{b:List UInt8}{p n:Nat} (hs:1≤r.size∧r.size≤4) (hp:p≤b.length) (h:intAt r b p=some n):p+r.size.toNat≤b.length∧(n:Int)≤2 ^ (8*r.size.toNat) - 1∧(b.drop p).take r.size.toNat=intB r n:=by
 have h1:=(intAt_in h hp).1
 unfold intAt at h
 rw [if_neg (by omega)] at h
 have e:=(Option.some.inj h).symm
 have hl:((b.drop p).take r.size.toNat).length=r.size.toNat:=by rw [List.length_take,List.length_drop];omega
 refine ⟨h1,?_,?_⟩
 ·have hlt:n<256 ^ r.size.toNat:=by
   rw [e]
   unfold readInt
   rw [if_neg (by omega)]
   split
   ·have:=beNat_lt ((b.drop p).take r.size.toNat).reverse
    rwa [List.length_reverse,hl] at this
   ·have:=beNat_lt ((b.drop p).take r.size.toNat)
    rwa [hl] at this
  have h2:((2:Int) ^ (8*r.size.toNat))=((256 ^ r.size.toNat:Nat):Int):=by rw [Int.pow_mul];simp
  rw [h2]
  omega
 ·rw [e,intB_readInt hl (by omega)]
theorem constAt_can {b:List UInt8}{p:Nat}:∀ (cs:List UInt8) (i:Nat),(constAt b p i cs).2=0→(b.drop (p+i)).take cs.length=cs
 | [],i,_=>by simp
 | c::cs,i,h=>by
  rw [constAt] at h
  by_cases h1:b.length≤p+i
  ·rw [if_pos h1] at h;cases h
  ·rw [if_neg h1] at h
   by_cases h2:b[p+i]?=some c
   ·rw [if_pos h2] at h
    have ih:=constAt_can cs (i+1) h
    have hd:=List.drop_eq_getElem_cons (show p+i<b.length by omega)
    rw [List.getElem?_eq_getElem (by omega)] at h2
    rw [hd,Option.some.inj h2,List.length_cons,List.take_succ_cons]
    exact congrArg (c::·) ih
   ·rw [if_neg h2] at h;cases h
theorem term_can {t:UInt8}:∀ (n:Nat) (l:List UInt8),l.length≤n→∀ x,term t l=some x→(escB t x.1).length≤x.2∧x.2≤l.length:=by
 intro n
 induction n with
 | zero=>
  intro l hl x h
  have:l=[]:=List.eq_nil_of_length_eq_zero (by omega)
  subst this
  simp [term] at h
 | succ n ih=>
  intro l hl x h
  match l with
  | []=>simp [term] at h
  | c::r=>
   rw [term_cons] at h
   simp only [List.length_cons] at hl ⊢
   split at h
   ·have:=Option.some.inj h;subst this;simp [escB]
   ·rename_i hct
    split at h
    ·match r with
     | []=>simp at h
     | d::r2=>
      simp only [Option.map_eq_some_iff] at h
      obtain ⟨y,hy,rfl⟩:=h
      have:=ih r2 (by simp at hl;omega) y hy
      simp only [List.length_cons]
      rw [escB]
      split<;>(simp only [List.length_cons];omega)
    ·rename_i h92
     simp only [Option.map_eq_some_iff] at h
     obtain ⟨y,hy,rfl⟩:=h
     have:=ih r (by omega) y hy
     rw [escB,if_neg (by rintro (e|e);exact hct e;exact h92 e)]
     simp only [List.length_cons]
     omega
theorem seg {b:List UInt8}{p q q2:Nat} (h1:p≤q) (h2:q≤q2):(b.drop p).take (q2 - p)=(b.drop p).take (q - p)++(b.drop q).take (q2 - q):=by
 rw [show q2 - p=(q - p)+(q2 - q) by omega,List.take_add,List.drop_drop,show p+(q - p)=q by omega]
section
variable {D:List RuleD}{b:List UInt8}{U:Nat→Prop}
def Cq (D:List RuleD) (b:List UInt8) (U:Nat→Prop) (i p:Nat) (z:V × Nat × Nat):Prop:=
 z.2.2=0→p≤z.2.1∧z.2.1≤b.length∧validV D i z.1=true∧p+(prV D i z.1).length≤z.2.1∧(U i→(b.drop p).take (z.2.1 - p)=prV D i z.1)
theorem Cq.bad {i p:Nat}{z:V × Nat × Nat} (h:z.2.2≠0):Cq D b U i p z:=fun h0=>absurd h0 h
theorem rdItems_can {g:Nat→Nat→V × Nat × Nat}{r:RuleD}{n:Int}:∀ (ks:List Nat) (k p:Nat),p≤b.length→(∀ x∈ks,∀ p,p≤b.length→Cq D b U x p (g x p))→(∀ j (h:j<ks.length),itemK r n (k+j:Nat)=ks[j])→(rdItems g ks p).2.2=0→
  (rdItems g ks p).1.length=ks.length∧p≤(rdItems g ks p).2.1∧(rdItems g ks p).2.1≤b.length∧validVs D r n k (rdItems g ks p).1=true∧p+(prVs D r n k (rdItems g ks p).1).length≤(rdItems g ks p).2.1∧((∀ x∈ks,U x)→(b.drop p).take ((rdItems g ks p).2.1 - p)=prVs D r n k (rdItems g ks p).1)
 | [],k,p,hp,_,_,_=>by
  rw [rdItems]
  simp only
  exact ⟨rfl,Nat.le_refl _,hp,by rw [validVs],by rw [prVs];simp,fun _=>by rw [prVs,Nat.sub_self];rfl⟩
 | x::ks,k,p,hp,H,hk,h0=>by
  have h1:=H x (by simp) p hp
  have e0:=hk 0 (by simp)
  rw [Nat.add_zero,List.getElem_cons_zero] at e0
  unfold rdItems at h0 ⊢
  generalize g x p=y at h0 h1 ⊢
  obtain ⟨v,q,c⟩:=y
  simp only at h0 h1 ⊢
  by_cases hc:c=0
  ·rw [if_pos hc] at h0 ⊢
   obtain ⟨a1,a2,a3,a4,a5⟩:=h1 hc
   simp only at a1 a2 a3 a4 a5
   have h2:=rdItems_can (g:=g) (r:=r) (n:=n) ks (k+1) q a2 (fun x hx=>H x (by simp [hx])) (fun j h=>by
    have:=hk (j+1) (by simpa using h)
    rw [List.getElem_cons_succ] at this
    rw [show k+1+j=k+(j+1) by omega]
    exact this)
   generalize rdItems g ks q=z at h0 h2 ⊢
   obtain ⟨vs,q2,c2⟩:=z
   simp only at h0 h2 ⊢
   by_cases hc2:c2=0
   ·rw [if_pos hc2] at h0 ⊢
    obtain ⟨b1,b2,b3,b4,b5,b6⟩:=h2 hc2
    simp only
    refine ⟨by rw [List.length_cons,List.length_cons,b1],by omega,b3,?_,?_,fun hu=>?_⟩
    ·rw [validVs,e0,a3,b4];rfl
    ·rw [prVs,e0,List.length_append];omega
    ·rw [prVs,e0,seg a1 b2,a5 (hu x (by simp)),b6 fun x hx=>hu x (by simp [hx])]
   ·rw [if_neg hc2] at h0;exact absurd h0 hc2
  ·rw [if_neg hc] at h0;exact absurd h0 hc
theorem mk_can {g:Nat→Nat→V × Nat × Nat}{r:RuleD}{i:Nat}{n:Int}{ks:List Nat}{p q:Nat} (hrD:ruleD D i=r) (hp:p≤q) (hq:q≤b.length) (H:∀ x∈ks,∀ p,p≤b.length→Cq D b U x p (g x p)) (hk:∀ j (h:j<ks.length),itemK r n (j:Nat)=ks[j])
  (hO:ownV D r n 0 ks.length=true) (h9:r.kind≠9) (hh:headB D r n [] ks.length=(b.drop p).take (q - p)) (hu:U i→∀ x∈ks,U x):Cq D b U i p (mkItems n (rdItems g ks q)):=by
 have I:=rdItems_can (D:=D) (b:=b) (U:=U) (g:=g) (r:=r) (n:=n) ks 0 q hq H (fun j h=>by rw [Nat.zero_add];exact hk j h)
 generalize rdItems g ks q=x at I ⊢
 obtain ⟨vs,q2,c⟩:=x
 unfold mkItems
 simp only at I ⊢
 by_cases hc:c=0
 ·rw [if_pos hc]
  obtain ⟨a1,a2,a3,a4,a5,a6⟩:=I hc
  intro _
  simp only
  have hpr:prV D i (.mk n [] vs)=headB D r n [] vs.length++prVs D r n 0 vs:=by
   rw [prV,hrD,tailB,if_neg h9,List.append_nil]
  rw [hpr,a1,hh]
  refine ⟨by omega,a3,?_,?_,fun hi=>?_⟩
  ·rw [validV,hrD,List.length_nil,a1,hO,a4];rfl
  ·rw [List.length_append,List.length_take,List.length_drop];omega
  ·rw [seg hp a2,a6 (hu hi)]
 ·rw [if_neg hc]
  exact Cq.bad hc
theorem byt_can {i p q n:Nat} (hp:p≤q) (hq:q≤b.length) (hv:q+n≤b.length→validV D i (.mk 0 ((b.drop q).take n) [])=true) (hh:q+n≤b.length→prV D i (.mk 0 ((b.drop q).take n) [])=(b.drop p).take (q - p)++(b.drop q).take n):Cq D b U i p (bytesAt b q n):=by
 unfold bytesAt
 split
 ·exact Cq.bad (by simp)
 ·intro _
  simp only
  have h1:=hh (by omega)
  rw [h1]
  refine ⟨by omega,by omega,hv (by omega),?_,fun _=>?_⟩
  ·simp only [List.length_append,List.length_take,List.length_drop];omega
  ·rw [seg hp (Nat.le_add_right q n),Nat.add_sub_cancel_left]
theorem rd_can (hV:descP D) (hb:b.length≤400) (hU:∀ (i:Nat) (r:RuleD),U i→D[i]?=some r→r.kind≠10∧∀ x∈r.kids,U x.toNat):∀ (f i p:Nat),i<D.length→p≤b.length→Cq D b U i p (rd D b f i p)
 | 0,i,p,_,_=>Cq.bad (by rw [rd];simp)
 | f+1,i,p,hl,hp=>by
  obtain ⟨r,hr⟩:∃ r,D[i]?=some r:=⟨_,List.getElem?_eq_getElem hl⟩
  have G:GoodR D i r:=good_of hV hr
  have hrD:=ruleD_get hr
  have HX:∀ x∈r.kids,0≤x∧∀ p,p≤b.length→Cq D b U x.toNat p (rd D b f x.toNat p):=fun x hx=>by
   obtain ⟨j,hj,rfl⟩:=List.getElem_of_mem hx
   have:=G.kid j hj
   exact ⟨this.1,fun p hp=>rd_can hV hb hU f _ p (by omega) hp⟩
  have K0:1≤r.kids.length→kid0 r∈r.kids:=fun h=>List.mem_of_getElem? (kids0 h)
  have K1:2≤r.kids.length→kid1 r∈r.kids:=fun h=>List.mem_of_getElem? (kids1 h)
  have UK:U i→∀ x∈r.kids,U x.toNat:=fun h=>(hU i r h hr).2
  have ITE:∀ (c:Prop) [Decidable c] (x y:V × Nat × Nat),(c→Cq D b U i p x)→(¬c→Cq D b U i p y)→Cq D b U i p (if c then x else y):=fun c _ x y hx hy=>by
   by_cases h:c
   ·rw [if_pos h];exact hx h
   ·rw [if_neg h];exact hy h
  rw [rd]
  dsimp only
  rw [hrD]
  refine ITE _ _ _ (fun h1=>?_) fun n1=>ITE _ _ _ (fun h2=>?_) fun n2=>ITE _ _ _ (fun h3=>?_) fun n3=>ITE _ _ _ (fun h10=>?_) fun n10=>ITE _ _ _ (fun h6=>?_) fun n6=>ITE _ _ _ (fun h7=>?_) fun n7=>ITE _ _ _ (fun h8=>?_) fun n8=>ITE _ _ _ (fun h9=>?_) fun n9=>?_
  ·have hs:=G.k1 h1
   split
   ·rename_i n h
    obtain ⟨a1,a2,a3⟩:=intAt_ok hs hp h
    intro _
    simp only
    have hpr:prV D i (.mk (n:Nat) [] [])=intB r n:=by rw [prV,hrD,headB,if_pos h1,prVs,tailB,if_neg (by omega)];simp
    rw [hpr,intB_len]
    refine ⟨by omega,by omega,?_,Nat.le_refl _,fun _=>?_⟩
    ·rw [validV,hrD,ownV_1 h1,validVs,decide_eq_true ⟨by omega,a2,rfl,rfl⟩];rfl
    ·rw [Nat.add_sub_cancel_left,a3]
   ·exact Cq.bad (by simp)
  ·intro h
   have hq:=constAt_ok r.bytes 0 h
   have hc:=constAt_can r.bytes 0 h
   have hin:=(constAt_in hp r.bytes 0 hp).2
   have hpr:prV D i V0=r.bytes:=by rw [V0,prV,hrD,headB,if_neg n1,if_pos h2,prVs,tailB,if_neg (by omega)];simp
   rw [hq] at hin
   simp only
   rw [hq,hpr]
   refine ⟨by omega,by omega,?_,by omega,fun _=>?_⟩
   ·rw [V0,validV,hrD,ownV_2 h2,validVs];rfl
   ·rw [show p+0+r.bytes.length - p=r.bytes.length by omega];exact hc
  ·have hs:=G.k3 h3
   refine byt_can (Nat.le_refl _) hp (fun h=>?_) (fun h=>?_)
   ·have hlen:((b.drop p).take r.size.toNat).length=r.size.toNat:=by rw [List.length_take,List.length_drop];omega
    rw [validV,hrD,ownV_3 h3,validVs,hlen,decide_eq_true ⟨rfl,by omega,rfl⟩];rfl
   ·rw [prV,hrD,headB,if_neg n1,if_neg n2,if_pos h3,prVs,tailB,if_neg (by omega),Nat.sub_self];simp
  ·split
   ·rename_i x h
    have hx1:=readTerm_VB h
    unfold readTerm at h
    simp only [Option.map_eq_some_iff] at h
    obtain ⟨y,hy,rfl⟩:=h
    obtain ⟨t1,t2⟩:=term_can _ _ (Nat.le_refl _) y hy
    rw [List.length_drop] at t2
    intro _
    simp only at hx1 ⊢
    have hpr:prV D i (.mk 0 y.1 [])=escB (r.bytes.headD 0) y.1:=by
     rw [prV,hrD,headB,if_neg n1,if_neg n2,if_neg n3,if_neg (by omega),if_neg (by omega),if_neg (by omega),if_neg (by omega),if_pos h10,prVs,tailB,if_neg (by omega)]
     simp
    rw [hpr]
    refine ⟨by omega,by omega,?_,by omega,fun hu=>absurd h10 (hU i r hu hr).1⟩
    rw [validV,hrD,ownV_10 h10,validVs,decide_eq_true ⟨rfl,by omega,rfl⟩];rfl
   ·exact Cq.bad (by simp)
  ·refine mk_can hrD (Nat.le_refl _) hp (fun x hx=>?_) (fun j h=>?_) ?_ (by omega) ?_ (fun hu x hx=>?_)
   ·obtain ⟨y,hy,rfl⟩:=List.mem_map.1 hx
    exact (HX y hy).2
   ·have hj:j<r.kids.length:=by simpa using h
    rw [itemK_6 h6 hj,List.getElem_map]
    have:=(G.kid j hj).1
    omega
   ·rw [ownV_6 h6,List.length_map,decide_eq_true ⟨rfl,rfl,rfl⟩]
   ·rw [headB,if_neg n1,if_neg n2,if_neg n3,if_neg (by omega),if_neg (by omega),if_neg (by omega),if_neg (by omega),if_neg n10,Nat.sub_self];rfl
   ·obtain ⟨y,hy,rfl⟩:=List.mem_map.1 hx
    exact UK hu y hy
  ·obtain ⟨j,q,ej,hj,hq,hqr,hlim⟩:=head_kid G (.inr (.inr h7))
   rw [hqr]
   split
   ·exact Cq.bad (by simp)
   ·rename_i n hn
    split
    ·exact Cq.bad (by simp)
    ·rename_i k hk
     obtain ⟨a1,a2,a3⟩:=intAt_ok hq hp hn
     have hkl:=tagIx_lt hk
     have hkk:k+1<r.kids.length:=by have:=(G.k7 h7).1;omega
     have hkm:r.kids[k+1]∈r.kids:=List.getElem_mem hkk
     have hk0:=(G.kid (k+1) hkk).1
     have e1:r.kids.getD (k+1) 0=r.kids[k+1]:=by rw [List.getD_eq_getElem?_getD,List.getElem?_eq_getElem hkk];rfl
     rw [e1]
     refine mk_can hrD (Nat.le_add_right _ _) a1 (fun x hx=>?_) (fun j h=>?_) ?_ (by omega) ?_ (fun hu x hx=>?_)
     ·rw [List.mem_singleton] at hx
      subst hx
      exact (HX _ hkm).2
     ·obtain rfl:j=0:=by simp at h;omega
      rw [itemK_7 h7 hk hkk,List.getElem_singleton]
      omega
     ·rw [ownV_7 h7,decide_eq_true ⟨rfl,rfl,by rw [itemK_7 h7 hk hkk];exact hk0⟩]
     ·rw [headB,if_neg n1,if_neg n2,if_neg n3,if_neg (by omega),if_neg (by omega),if_pos h7,hqr,Nat.add_sub_cancel_left,a3];rfl
     ·rw [List.mem_singleton] at hx
      subst hx
      exact UK hu _ hkm
  ·have hk0:=K0 (by have:=G.k8 h8;omega)
   split
   ·exact Cq.bad (by simp)
   ·rename_i c hc
    have hpl:=get_lt hc
    refine ITE _ _ _ (fun _=>Cq.bad (by simp)) fun h1c=>mk_can hrD (Nat.le_add_right _ _) (by omega) (fun x hx=>?_) (fun j h=>?_) ?_ (by omega) ?_ (fun hu x hx=>?_)
    ·rw [(List.mem_replicate.1 hx).2]
     exact (HX _ hk0).2
    ·rw [itemK_8 (.inl h8),List.getElem_replicate]
     have:=(HX _ hk0).1
     omega
    ·rw [ownV_8 h8,List.length_replicate,decide_eq_true ⟨rfl,rfl,by omega⟩]
    ·rw [headB,if_neg n1,if_neg n2,if_neg n3,if_neg (by omega),if_neg (by omega),if_neg n7,if_pos h8,List.length_replicate,Nat.add_sub_cancel_left,UInt8.ofNat_toNat,List.drop_eq_getElem_cons hpl]
     rw [List.getElem?_eq_getElem hpl] at hc
     rw [Option.some.inj hc]
     rfl
    ·rw [(List.mem_replicate.1 hx).2]
     exact UK hu _ hk0
  ·have hk0:=K0 (by have:=G.k9 h9;omega)
   have I:=rdItems_can (D:=D) (b:=b) (U:=U) (g:=rd D b f) (r:=r) (n:=0) [(kid0 r).toNat] 0 p hp (fun x hx=>by rw [List.mem_singleton] at hx;subst hx;exact (HX _ hk0).2) (fun j h=>by
    obtain rfl:j=0:=by simp at h;omega
    rw [itemK_8 (.inr h9),List.getElem_singleton]
    have:=(HX _ hk0).1
    omega)
   generalize rdItems (rd D b f) [(kid0 r).toNat] p=x at I ⊢
   obtain ⟨vs,q,c⟩:=x
   simp only at I
   have E:mkItems 0 (vs,q,c)=if c=0 then (.mk 0 [] vs,q,0) else (V0,q,c):=rfl
   by_cases hc:c=0
   ·obtain ⟨b1,b2,b3,b4,b5,b6⟩:=I hc
    rw [if_pos hc] at E
    rw [E]
    dsimp only
    rw [if_pos rfl]
    split
    ·exact Cq.bad (by simp)
    ·rename_i s hs
     have hql:=get_lt hs
     refine ITE _ _ _ (fun hsum=>?_) fun _=>Cq.bad (by simp)
     intro _
     simp only
     have hpr:prV D i (.mk 0 [] vs)=prVs D r 0 0 vs++[UInt8.ofNat (sumB (prVs D r 0 0 vs))]:=by
      rw [prV,hrD,headB,if_neg n1,if_neg n2,if_neg n3,if_neg (by omega),if_neg (by omega),if_neg n7,if_neg n8,if_neg n10,tailB,if_pos h9]
      simp
     rw [hpr]
     refine ⟨by omega,by omega,?_,by simp only [List.length_append,List.length_singleton];omega,fun hu=>?_⟩
     ·rw [validV,hrD,ownV_9 h9,b1,b4];rfl
     ·have e6:=b6 (fun x hx=>by rw [List.mem_singleton] at hx;subst hx;exact UK hu _ hk0)
      have e7:(b.drop q).take (q+1 - q)=[s]:=by
       rw [Nat.add_sub_cancel_left,List.drop_eq_getElem_cons hql]
       rw [List.getElem?_eq_getElem hql] at hs
       rw [Option.some.inj hs]
       rfl
      rw [e6] at hsum
      rw [seg b2 (Nat.le_add_right q 1),e6,e7,←hsum,UInt8.ofNat_toNat]
   ·rw [if_neg hc] at E
    rw [E]
    dsimp only
    rw [if_neg hc]
    exact Cq.bad hc
  ·have h45:r.kind=4∨r.kind=5:=by have:=G.kd;omega
   obtain ⟨j,q,ej,hj,hq,hqr,hlim⟩:=head_kid G (by omega)
   rw [hqr]
   split
   ·exact Cq.bad (by simp)
   ·rename_i n hn
    obtain ⟨a1,a2,a3⟩:=intAt_ok hq hp hn
    refine ITE _ _ _ (fun h4=>?_) fun n4=>ITE _ _ _ (fun _=>Cq.bad (by simp)) fun h40=>?_
    ·refine byt_can (Nat.le_add_right _ _) a1 (fun h=>?_) (fun h=>?_)
     ·have hlen:((b.drop (p+q.size.toNat)).take n).length=n:=by rw [List.length_take,List.length_drop];omega
      rw [validV,hrD,ownV_4 h4,validVs,hlen,hlim,decide_eq_true ⟨rfl,by omega,a2,rfl⟩];rfl
     ·have hlen:((b.drop (p+q.size.toNat)).take n).length=n:=by rw [List.length_take,List.length_drop];omega
      rw [prV,hrD,headB,if_neg n1,if_neg n2,if_neg n3,if_pos h4,prVs,tailB,if_neg (by omega),hqr,hlen,Nat.add_sub_cancel_left,a3]
      simp
    ·have h5:r.kind=5:=by omega
     have hk1:=K1 (by have:=(G.k5 h5).1;omega)
     refine mk_can hrD (Nat.le_add_right _ _) a1 (fun x hx=>?_) (fun j h=>?_) ?_ (by omega) ?_ (fun hu x hx=>?_)
     ·rw [(List.mem_replicate.1 hx).2]
      exact (HX _ hk1).2
     ·rw [itemK_5 h5,List.getElem_replicate]
      have:=(HX _ hk1).1
      omega
     ·rw [ownV_5 h5,List.length_replicate,hlim,decide_eq_true ⟨rfl,rfl,by omega,a2⟩]
     ·rw [headB,if_neg n1,if_neg n2,if_neg n3,if_neg (by omega),if_pos h5,hqr,List.length_replicate,Nat.add_sub_cancel_left,a3]
     ·rw [(List.mem_replicate.1 hx).2]
      exact UK hu _ hk1
end
end Go.Proofs.YtodkkldopciagaaGreatDoor.Eng
