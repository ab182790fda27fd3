/-
 What the laws write over values whose rows lie in blocks of their own: plain.

 What is read has bytes or items, not both; plain.
-/
import Derived.Test.YtomfggmmhkpeeaaGreatDoorKLV2
import Derived.Test.YtomfggmmhkpeeaaGreatDoorKLSX
import Derived.Test.YtomfggmmhkpeeaaGreatDoorKP
import Derived.Test.YtomfggmmhkpeeaaGreatDoorKN9
set_option linter.unusedSimpArgs false
set_option linter.unusedVariables false
set_option linter.defProp false
set_option maxRecDepth 100000
set_option maxHeartbeats 4000000
namespace Go.Proofs.YtomfggmmhkpeeaaGreatDoor.Eng
open Go Go.RowKit

mutual
def mkV:V→Int→V
 | .mk n bs vs,k=>.mk n (mkB k bs.length) (mkVs vs (k+bs.length))
def mkVs:List V→Int→List V
 | [],_=>[]
 | v::l,k=>setN k (mkV v (k+1))::mkVs l (k+1+totV v)
def setN (k:Int):V→V
 | .mk _ bs vs=>.mk k bs vs
end
theorem mkVs_cons (v:V) (l:List V) (k:Int):mkVs (v::l) k=setN k (mkV v (k+1))::mkVs l (k+1+totV v):=by rw [mkVs]
theorem mkVs_len:∀ (l:List V) (k:Int),(mkVs l k).length=l.length
 | [],k=>by rw [mkVs]
 | v::l,k=>by rw [mkVs,List.length_cons,List.length_cons,mkVs_len l]
theorem mkVs_append:∀ (a b:List V) (k:Int),mkVs (a++b) k=mkVs a k++mkVs b (k+cntVs a)
 | [],b,k=>by rw [mkVs,cntVs];simp
 | v::a,b,k=>by
  rw [List.cons_append,mkVs,mkVs,mkVs_append a b,cntVs,List.cons_append]
  congr 3
  push_cast
  omega
mutual
def Thin:V→Prop
 | .mk _ bs vs=>(bs=[]∨vs=[])∧Thins vs
def Thins:List V→Prop
 | []=>True
 | v::l=>Thin v∧Thins l
end
theorem Thins.get:∀ {l:List V},Thins l→∀ v∈l,Thin v
 | [],_,v,hv=>by cases hv
 | x::l,h,v,hv=>by
  unfold Thins at h
  rcases List.mem_cons.1 hv with rfl|hv
  ·exact h.1
  ·exact Thins.get h.2 v hv
theorem Thins.append:∀ {a b:List V},Thins a→Thins b→Thins (a++b)
 | [],b,_,h=>h
 | x::a,b,h,k=>by
  unfold Thins at h
  rw [List.cons_append]
  unfold Thins
  exact ⟨h.1,h.2.append k⟩

/-! One element's data is exchanged. -/
theorem RepSp.mono' {z:Nat}:∀ {C C':CellR}{es:List (List D)}{b o:Nat},(∀ b' o' v,C b' o' v→(b'=b→o≤o')→C' b' o' v)→RepSp C z es b o→RepSp C' z es b o
 | C,C',[],b,o,_,_=>by unfold RepSp;trivial
 | C,C',e::es,b,o,h,k=>by
  unfold RepSp at k
  obtain ⟨F,h0,h1,h2,h3⟩:=k
  obtain ⟨us,g1,g2⟩:=h2.list
  unfold RepSp
  refine ⟨F,h0,h1,RepCsF.ofList (RepL.mono (fun b' o' v hc=>⟨h b' o' v hc.1 fun e=>absurd (e▸hc.2) h0,hc.2⟩) _ _ g1) fun i u hu=>h _ _ _ (g2 i u hu) fun _=>by omega,RepSp.mono' (fun b' o' v hc hb=>⟨h b' o' v hc.1 fun e=>by have:=hb e;omega,hc.2⟩) h3⟩
theorem RepSp.focus {z:Nat} (e:List D) (es2:List (List D)):∀ {C:CellR}{es1:List (List D)}{b o:Nat},RepSp C z (es1++e::es2) b o→
  ∃ F:Nat→Prop,¬F b∧e.length=z∧RepCsF C F e b (o+es1.length*z)∧
   ∀ (C':CellR) (e':List D),e'.length=z→(∀ b' o' v,C b' o' v→¬F b'→(b'=b→o'<o+es1.length*z∨o+es1.length*z+z≤o')→C' b' o' v)→RepCsF C' F e' b (o+es1.length*z)→RepSp C' z (es1++e'::es2) b o
 | C,[],b,o,h=>by
  simp only [List.nil_append] at h ⊢
  unfold RepSp at h
  obtain ⟨F,h0,h1,h2,h3⟩:=h
  refine ⟨F,h0,h1,by simpa using h2,fun C' e' he' hC hr=>?_⟩
  unfold RepSp
  refine ⟨F,h0,he',by simpa using hr,RepSp.mono' (fun b' o' v hc hb=>⟨hC b' o' v hc.1 hc.2 fun e=>.inr (by have:=hb e;simp;omega),hc.2⟩) h3⟩
 | C,e1::es1,b,o,h=>by
  simp only [List.cons_append] at h
  unfold RepSp at h
  obtain ⟨F1,h0,h1,h2,h3⟩:=h
  obtain ⟨F,f0,f1,f2,f3⟩:=RepSp.focus e es2 h3
  have ho:o+z+es1.length*z=o+(e1::es1).length*z:=by rw [List.length_cons,Nat.add_mul,Nat.one_mul];omega
  rw [ho] at f2 f3
  obtain ⟨us,g1,g2⟩:=f2.list
  obtain ⟨us1,k1,k2⟩:=h2.list
  have hl1:=k1.get.1
  refine ⟨fun x=>F x∧¬F1 x,fun hx=>f0 hx.1,f1,RepCsF.ofList (RepL.mono (fun b' o' v hc=>⟨hc.1.1,hc.2,hc.1.2⟩) _ _ g1) fun i u hu=>(g2 i u hu).1,fun C' e' he' hC hr=>?_⟩
  obtain ⟨us',q1,q2⟩:=hr.list
  simp only [List.cons_append]
  unfold RepSp
  refine ⟨F1,h0,h1,RepCsF.ofList (RepL.mono (fun b' o' v hc=>⟨hC b' o' v hc.1 (fun hx=>hx.2 hc.2) fun e=>absurd (e▸hc.2) h0,hc.2⟩) _ _ k1) fun i u hu=>hC _ _ _ (k2 i u hu) (fun hx=>f0 hx.1) fun _=>.inl ?_,f3 _ e' he' (fun b' o' v hc hn hb=>⟨hC b' o' v hc.1 (fun hx=>hn hx.1) fun e=>(hb e).imp (fun h=>by omega) fun h=>by omega,hc.2⟩) (RepCsF.ofList (RepL.mono (fun b' o' v hc=>⟨⟨hc.1,hc.2.2⟩,hc.2.1⟩) _ _ q1) fun i u hu=>⟨q2 i u hu,h0⟩)⟩
  have hi:=(List.getElem?_eq_some_iff.1 hu).1
  rw [List.length_cons,Nat.add_mul,Nat.one_mul]
  omega
theorem spv_open {C:CellR}{l1 l2:List V}{n:Int}{bs:List UInt8}{vs:List V}{b o:Nat} (h:RepSp C 3 (encWs (l1++.mk n bs vs::l2)) b o) :
  ∃ F:Nat→Prop,¬F b∧∃ u1 u2,C b (o+l1.length*3) (.int .i64 n)∧C b (o+l1.length*3+1) u1∧C b (o+l1.length*3+2) u2∧RepD (C.on F) (encB bs) u1∧RepD (C.on F) (.sp 3 (encWs vs)) u2∧
   ∀ (C':CellR) (n':Int) (bs':List UInt8) (vs':List V),(∀ b' o' v,C b' o' v→¬F b'→¬(b'=b∧o'=o+l1.length*3)→C' b' o' v)→C' b (o+l1.length*3) (.int .i64 n')→RepD (C'.on F) (encB bs') u1→RepD (C'.on F) (.sp 3 (encWs vs')) u2→RepSp C' 3 (encWs (l1++.mk n' bs' vs'::l2)) b o:=by
 have hs:∀ v:V,encWs (l1++v::l2)=encWs l1++encWc v::encWs l2:=fun v=>by simp [encWs_eq]
 rw [hs] at h
 obtain ⟨F,f0,f1,f2,f3⟩:=RepSp.focus _ _ h
 rw [encWs_len] at f2 f3
 simp only [encWc] at f2
 unfold RepCsF at f2
 obtain ⟨⟨u0,a1,a2⟩,f2⟩:=f2
 unfold RepCsF at f2
 obtain ⟨⟨u1,b1,b2⟩,f2⟩:=f2
 unfold RepCsF at f2
 obtain ⟨⟨u2,c1,c2⟩,_⟩:=f2
 rw [repD_v] at a2
 subst a2
 refine ⟨F,f0,u1,u2,a1,b1,c1,b2,c2,fun C' n' bs' vs' hC hn hb hv=>?_⟩
 rw [hs]
 refine f3 C' _ rfl (fun b' o' v hc hnF hb'=>hC b' o' v hc hnF fun e=>?_) ?_
 ·have:=hb' e.1
  omega
 ·simp only [encWc]
  have keep:∀ o' v,C b o' v→o'≠o+l1.length*3→C' b o' v:=fun o' v hc hne=>hC b o' v hc f0 fun e=>hne e.2
  unfold RepCsF
  refine ⟨⟨_,hn,by unfold RepD;rfl⟩,?_⟩
  unfold RepCsF
  refine ⟨⟨u1,keep _ _ b1 (by omega),hb⟩,?_⟩
  unfold RepCsF
  exact ⟨⟨u2,keep _ _ c1 (by omega),hv⟩,by unfold RepCsF;trivial⟩
end Go.Proofs.YtomfggmmhkpeeaaGreatDoor.Eng
namespace Go.Proofs.YtomfggmmhkpeeaaGreatDoor.Eng
open Go Go.RowKit

theorem thin_V0:Thin V0:=by unfold V0 Thin;exact ⟨.inl rfl,by unfold Thins;trivial⟩
theorem thin_num (n:Int):Thin (.mk n [] []):=by unfold Thin;exact ⟨.inl rfl,by unfold Thins;trivial⟩
theorem thin_bytes (n:Int) (bs:List UInt8):Thin (.mk n bs []):=by unfold Thin;exact ⟨.inr rfl,by unfold Thins;trivial⟩
theorem thin_mk {n:Int}{x:List V × Nat × Nat} (h:Thins x.1):Thin (mkItems n x).1:=by
 unfold mkItems
 split
 ·unfold Thin;exact ⟨.inl rfl,h⟩
 ·exact thin_V0
theorem thins_items {f:Nat→Nat→V × Nat × Nat} (hf:∀ k p,Thin (f k p).1):∀ (ks:List Nat) (p:Nat),Thins (rdItems f ks p).1
 | [],p=>by unfold rdItems Thins;trivial
 | k::ks,p=>by
  have h1:=hf k p
  unfold rdItems
  generalize f k p=x at *
  obtain ⟨v,q,c⟩:=x
  have h2:=thins_items hf ks q
  by_cases hc:c=0
  ·simp only [hc,if_true]
   generalize rdItems f ks q=y at *
   obtain ⟨vs,q2,c2⟩:=y
   by_cases hc2:c2=0
   ·simp only [hc2,if_true]
    unfold Thins
    exact ⟨h1,h2⟩
   ·simp only [hc2,if_false]
    unfold Thins;trivial
  ·simp only [hc,if_false]
   unfold Thins;trivial
theorem thin_rd (D:List RuleD) (b:List UInt8):∀ (f rule p:Nat),Thin (rd D b f rule p).1
 | 0,rule,p=>thin_V0
 | f+1,rule,p=>by
  have ITE:∀ (c:Prop) [Decidable c] (x y:V × Nat × Nat),Thin x.1→Thin y.1→Thin (if c then x else y).1:=fun c _ x y hx hy=>by
   by_cases h:c
   ·rw [if_pos h];exact hx
   ·rw [if_neg h];exact hy
  have BA:∀ q n,Thin (bytesAt b q n).1:=fun q n=>by
   unfold bytesAt
   split
   ·exact thin_V0
   ·exact thin_bytes _ _
  have IT:∀ (n:Int) (ks:List Nat) (q:Nat),Thin (mkItems n (rdItems (rd D b f) ks q)).1:=fun n ks q=>thin_mk (thins_items (fun k p=>thin_rd D b f k p) ks q)
  rw [rd]
  dsimp only
  generalize ruleD D rule=r
  refine ITE _ _ _ ?_ (ITE _ _ _ thin_V0 (ITE _ _ _ (BA _ _) (ITE _ _ _ ?_ (ITE _ _ _ (IT _ _ _) (ITE _ _ _ ?_ (ITE _ _ _ ?_ (ITE _ _ _ ?_ ?_)))))))
  ·split
   ·exact thin_num _
   ·exact thin_V0
  ·split
   ·exact thin_bytes _ _
   ·exact thin_V0
  ·split
   ·exact thin_V0
   ·split
    ·exact thin_V0
    ·exact IT _ _ _
  ·split
   ·exact thin_V0
   ·exact ITE _ _ _ thin_V0 (IT _ _ _)
  ·have h1:=IT 0 [(kid0 r).toNat] p
   generalize mkItems 0 (rdItems (rd D b f) [(kid0 r).toNat] p)=x at *
   obtain ⟨v,q,c⟩:=x
   dsimp only
   refine ITE _ _ _ ?_ h1
   split
   ·exact thin_V0
   ·exact ITE _ _ _ h1 thin_V0
  ·split
   ·exact thin_V0
   ·exact ITE _ _ _ (BA _ _) (ITE _ _ _ thin_V0 (IT _ _ _))
theorem thin_readV (D:List RuleD) (b:List UInt8) (i p:Int):Thin (readV D b i p).1:=by
 unfold readV
 split
 ·exact thin_rd _ _ _ _ _
 ·exact thin_V0
theorem thin_readF (D:List RuleD) (b:List UInt8):Thin (readF D b).1:=by
 unfold readF
 split
 ·exact thin_V0
 ·exact thin_readV _ _ _ _
end Go.Proofs.YtomfggmmhkpeeaaGreatDoor.Eng
