/-
 The engine, part 41: regions that draw their order, whose last operations wait for all that come ahead of them.

 The engine, part 42: rows whose elements hold rows of ours: appending to them.

 The engine, part 43: a row whose elements hold a row of ours becomes a variable.

 The engine, part 44: functions that are walked in place and have loops.
-/
import Derived.Test.YtomfggmmhkpeeaaGreatDoorKE5
import Derived.Test.YtomfggmmhkpeeaaGreatDoorKE30
set_option linter.unusedSimpArgs false
set_option linter.unusedVariables false
set_option linter.defProp false
set_option maxRecDepth 100000
set_option maxHeartbeats 4000000
namespace Go.Proofs.YtomfggmmhkpeeaaGreatDoor.Eng
open Go Go.RowKit

section
variable {P:Program}{ops:Array Oper}
structure LeftT (ops:Array Oper) (last:Nat) (listed:Array Bool) (l:List It):Prop where
 sz:listed.size=ops.size
 cl:Closed ops listed
 un:∀ i,listed.getD i true=false↔i∈l.map It.i∨(last≤i∧i<ops.size)
 st:l.Pairwise fun x y=>x.i<y.i
 ok:l.Pairwise fun x y=>okPair ops (x.i,x.c) (y.i,y.c)=true
 lt:∀ x∈l,x.i<last
theorem LeftT.ready {last:Nat}{listed:Array Bool}{x:It}{l:List It} (h:LeftT ops last listed (x::l)) (hlast:last≤ops.size) (hd:downs ops=true):Region.ready .any ops listed≠[]:=fun hr=>by
 have hxl:=h.lt x List.mem_cons_self
 have hlt':x.i<ops.size:=by omega
 have:x.i∈Region.ready .any ops listed:=mem_ready.2 ⟨(h.un x.i).2 (.inl (by simp)),ops[x.i],Array.getElem?_eq_getElem hlt',fun e he hb=>by
  have hlo:=downs_spec hd (Array.getElem?_eq_getElem hlt') e he hb
  rw [←getD_tf (by rw [h.sz];omega)]
  cases hq:listed.getD e.on true with
  | true=>rfl
  | false=>
   rcases (h.un e.on).1 hq with hm|hm
   ·rw [List.map_cons] at hm
    rcases List.mem_cons.1 hm with hm|hm
    ·omega
    ·obtain ⟨y,hy,hye⟩:=List.mem_map.1 hm
     have:=(List.pairwise_cons.1 h.st).1 y hy
     omega
   ·omega⟩
 rw [hr] at this
 cases this
theorem LeftT.set {last:Nat}{listed:Array Bool}{pre post:List It}{x:It} (h:LeftT ops last listed (pre++x::post)) (hr:x.i∈Region.ready .any ops listed):LeftT ops last (listed.setIfInBounds x.i true) (pre++post):=by
 have hsub:List.Sublist (pre++post) (pre++x::post):=List.Sublist.append (List.Sublist.refl _) (List.sublist_cons_self _ _)
 obtain ⟨h0,ox,hox,hal⟩:=mem_ready.1 hr
 have hlt:x.i<listed.size:=by rw [h.sz];exact (Array.getElem?_eq_some_iff.1 hox).1
 have hst:=h.st
 rw [List.pairwise_append] at hst
 have hxl:=h.lt x (by simp)
 refine ⟨by simp [h.sz],fun j o ho hl e he hb=>?_,fun i=>?_,h.st.sublist hsub,h.ok.sublist hsub,fun y hy=>h.lt y (hsub.subset hy)⟩
 ·by_cases hj:x.i=j
  ·subst hj
   rw [hox] at ho
   have:=Option.some.inj ho;subst this
   exact getD_set_true (hal e he hb)
  ·rw [getD_set_ne false hj] at hl
   exact getD_set_true (h.cl j o ho hl e he hb)
 ·rw [set_getD hlt,h.un]
  simp only [List.map_append,List.map_cons,List.mem_append,List.mem_cons]
  constructor
  ·rintro ⟨(h1|h1|h1)|h1,h2⟩
   ·exact .inl (.inl h1)
   ·exact absurd h1 h2
   ·exact .inl (.inr h1)
   ·exact .inr h1
  ·rintro ((h1|h1)|h1)
   ·obtain ⟨y,hy,rfl⟩:=List.mem_map.1 h1
    have:=hst.2.2 y hy x List.mem_cons_self
    exact ⟨.inl (.inl h1),by omega⟩
   ·obtain ⟨y,hy,rfl⟩:=List.mem_map.1 h1
    have:=(List.pairwise_cons.1 hst.2.1).1 y hy
    exact ⟨.inl (.inr (.inr h1)),by omega⟩
   ·exact ⟨.inr h1,by omega⟩
end
section
variable {P:Program}{en:En}{ops:Array Oper}{s:St}
end
end Go.Proofs.YtomfggmmhkpeeaaGreatDoor.Eng
namespace Go.Proofs.YtomfggmmhkpeeaaGreatDoor.Eng
open Go Go.RowKit

theorem RepEsX.len {C:CellR}{p:Nat→Prop}{z:Nat}:∀ {es:List (List D)}{b o:Nat},RepEsX C p z es b o→∀ e∈es,e.length=z:=fun h=>h.es.len
theorem RepCsX.list {C:CellR}{p:Nat→Prop}:∀ {cs:List D}{b o:Nat},RepCsX C p cs b o→∃ us,RepL (C.on p) cs us∧∀ (i:Nat) u,us[i]?=some u→C b (o+i) u
 | [],b,o,_=>⟨[],by simp [RepL],fun i u h=>by simp at h⟩
 | c::cs,b,o,h=>by
  unfold RepCsX at h
  obtain ⟨⟨u,h1,h2⟩,h3⟩:=h
  obtain ⟨us,k1,k2⟩:=h3.list
  refine ⟨u::us,by unfold RepL;exact ⟨u,us,rfl,h2,k1⟩,fun i v hv=>?_⟩
  cases i with
  | zero=>simp only [List.getElem?_cons_zero,Option.some.injEq] at hv;subst hv;simpa using h1
  | succ i=>rw [List.getElem?_cons_succ] at hv;have:=k2 i v hv;rwa [show o+(i+1)=o+1+i by omega]
theorem RepEsX.list {C:CellR}{p:Nat→Prop}{z:Nat}:∀ {es:List (List D)}{b o:Nat},RepEsX C p z es b o→∃ us,RepL (C.on p) es.flatten us∧us.length=es.length*z∧∀ (i:Nat) u,us[i]?=some u→C b (o+i) u
 | [],b,o,_=>⟨[],by simp [RepL],by simp,fun i u h=>by simp at h⟩
 | e::es,b,o,h=>by
  unfold RepEsX at h
  obtain ⟨h1,h2,h3⟩:=h
  obtain ⟨us,g1,g2⟩:=h2.list
  obtain ⟨vs,k1,k2,k3⟩:=h3.list
  have hl:=g1.get.1
  refine ⟨us++vs,by rw [List.flatten_cons];exact RepL.append g1 k1,by rw [List.length_append,k2,List.length_cons,Nat.add_mul,Nat.one_mul];omega,fun i u hu=>?_⟩
  rcases Nat.lt_or_ge i us.length with hi|hi
  ·rw [List.getElem?_append_left hi] at hu
   exact g2 i u hu
  ·rw [List.getElem?_append_right hi] at hu
   have:=k3 _ u hu
   rwa [show o+i=o+z+(i - us.length) by omega]
theorem RepCsX.ofList {C:CellR}{p:Nat→Prop}:∀ {cs:List D}{us:List Value}{b o:Nat},RepL (C.on p) cs us→(∀ (i:Nat) u,us[i]?=some u→C b (o+i) u)→RepCsX C p cs b o
 | [],us,b,o,_,_=>by unfold RepCsX;trivial
 | c::cs,us,b,o,h,k=>by
  unfold RepL at h
  obtain ⟨u,us',rfl,h1,h2⟩:=h
  unfold RepCsX
  refine ⟨⟨u,by simpa using k 0 u rfl,h1⟩,RepCsX.ofList h2 fun i v hv=>?_⟩
  have:=k (i+1) v (by simpa using hv)
  rwa [show o+1+i=o+(i+1) by omega]
theorem RepEsX.ofList {C:CellR}{p:Nat→Prop}{z:Nat}:∀ {es:List (List D)}{us:List Value}{b o:Nat},(∀ e∈es,e.length=z)→RepL (C.on p) es.flatten us→(∀ (i:Nat) u,us[i]?=some u→C b (o+i) u)→RepEsX C p z es b o
 | [],us,b,o,_,_,_=>by unfold RepEsX;trivial
 | e::es,us,b,o,hz,h,k=>by
  simp only [List.flatten_cons] at h
  obtain ⟨h1,h2⟩:=h.split
  have he:=hz e (by simp)
  unfold RepEsX
  refine ⟨he,RepCsX.ofList h1 fun i u hu=>k i u ?_,RepEsX.ofList (fun e' he'=>hz e' (by simp [he'])) h2 fun i u hu=>?_⟩
  ·rw [List.getElem?_take] at hu
   split at hu
   ·exact hu
   ·cases hu
  ·rw [List.getElem?_drop] at hu
   have:=k _ u hu
   rwa [show o+z+i=o+(e.length+i) by omega]
def rawOf:List (List D)→List Value→List (List D)
 | [],_=>[]
 | e::es,xs=>(xs.take e.length).map .v::rawOf es (xs.drop e.length)
theorem rawOf_flat:∀ (es:List (List D)) (xs:List Value),xs.length=es.flatten.length→(rawOf es xs).flatten=xs.map .v
 | [],xs,h=>by
  have:xs=[]:=List.eq_nil_of_length_eq_zero (by simpa using h)
  subst this;rfl
 | e::es,xs,h=>by
  rw [List.flatten_cons,List.length_append] at h
  rw [rawOf,List.flatten_cons,rawOf_flat es _ (by rw [List.length_drop];omega),←List.map_append,List.take_append_drop]
theorem rawOf_len:∀ (es:List (List D)) (xs:List Value),(rawOf es xs).length=es.length
 | [],_=>rfl
 | e::es,xs=>by rw [rawOf,List.length_cons,List.length_cons,rawOf_len es]
theorem rawOf_z {z:Nat}:∀ (es:List (List D)) (xs:List Value),(∀ e∈es,e.length=z)→xs.length=es.flatten.length→∀ e∈rawOf es xs,e.length=z
 | [],xs,_,_,e,he=>by cases he
 | e0::es,xs,hz,h,e,he=>by
  rw [List.flatten_cons,List.length_append] at h
  rw [rawOf] at he
  have h0:=hz e0 (by simp)
  rcases List.mem_cons.1 he with rfl|he
  ·rw [List.length_map,List.length_take];omega
  ·exact rawOf_z es _ (fun e' he'=>hz e' (by simp [he'])) (by rw [List.length_drop];omega) e he
theorem RepL_raw (C:CellR):∀ vs:List Value,RepL C (vs.map .v) vs
 | []=>by simp [RepL]
 | v::vs=>by
  simp only [List.map_cons]
  unfold RepL
  exact ⟨v,vs,rfl,by unfold RepD;rfl,RepL_raw C vs⟩
theorem RepL_raw_eq {C:CellR}:∀ {xs us:List Value},RepL C (xs.map .v) us→us=xs
 | [],us,h=>by simp only [List.map_nil] at h;unfold RepL at h;exact h
 | v::vs,us,h=>by
  simp only [List.map_cons] at h
  unfold RepL at h
  obtain ⟨u,us',rfl,h1,h2⟩:=h
  unfold RepD at h1
  rw [h1,RepL_raw_eq h2]
def VwOk (m:Mem) (k:Nat):List A→List D→Prop
 | [],ds=>ds=[]
 | c::cs,ds=>∃ d ds',ds=d::ds'∧((∃ x,c=.d (.v x)∧d=.v x)∨(∃ j e z es,c=.own j e z es∧d=.sl z es∧m.al j=some (es.length,e,z)∧j≠k∧flatEs es))∧VwOk m k cs ds'
section
variable {P:Program}{o:Oper}{ρ:Operand→A}{m:Mem}{κ:Nat}{t e:TypeId}{s x:Operand}{z:Nat}
end
section
variable {P:Program}{en:En}{ops:Array Oper}{o:Oper}{l:List Oper}{K:St→Prop}{s:St}
variable {acc:List Nat}{K2:List Nat→St→Prop}
end
end Go.Proofs.YtomfggmmhkpeeaaGreatDoor.Eng
namespace Go.Proofs.YtomfggmmhkpeeaaGreatDoor.Eng
open Go Go.RowKit

def KpL (N:Nat):List A→Prop
 | []=>True
 | x::xs=>Safe (fun b=>N≤b) x∧KpL N xs
theorem KpL.rep {N:Nat}{G:Gh}{C':CellR} (hC:∀ b o v,G.C b o v→¬N≤b→C' b o v):∀ {xs:List A}{us:List Value},KpL N xs→RepAL G xs us→RepAL { G with C:=C' } xs us
 | [],us,_,h=>by unfold RepAL at h ⊢;exact h
 | x::xs,us,k,h=>by
  unfold KpL at k
  unfold RepAL at h ⊢
  obtain ⟨u,us',rfl,h1,h2⟩:=h
  exact ⟨u,us',rfl,k.1 G C' u hC h1,KpL.rep hC k.2 h2⟩
def KpB (s:St) (N:Nat):List (Nat × Option (List A))→Prop
 | []=>True
 | (k,o)::r=>(∃ cs,o=some cs∧lk none s.bx k=some cs∧KpL N cs)∧KpB s N r
theorem KpB.get {s:St}{N:Nat}:∀ {bs:List (Nat × Option (List A))},KpB s N bs→∀ {k:Nat}{cs:List A},lk none bs k=some cs→lk none s.bx k=some cs∧KpL N cs
 | [],_,k,cs,h=>by simp [lk] at h
 | (k0,o)::r,hb,k,cs,h=>by
  unfold KpB at hb
  rw [lk_cons] at h
  by_cases e:k=k0
  ·subst e
   rw [upd_same] at h
   obtain ⟨cs0,h1,h2,h3⟩:=hb.1
   rw [h1] at h
   have:=Option.some.inj h;subst this
   exact ⟨h2,h3⟩
  ·rw [upd_ne _ _ e] at h
   exact hb.2.get h
structure Own1' (en:En) (s:St):Prop where
 cok:Cok en.C en.w
 X:∀ b,en.X b→en.E 0=some b
 ks:en.ks 0
 b0:(lk none s.bx 0).isSome=true
section
variable {P:Program}{en:En}{s:St}
end
end Go.Proofs.YtomfggmmhkpeeaaGreatDoor.Eng
namespace Go.Proofs.YtomfggmmhkpeeaaGreatDoor.Eng
open Go Go.RowKit

section
variable {P:Program}{en:En}{ops:Array Oper}{o:Oper}{l:List Oper}{s:St}
end
section
variable {P:Program}{en:En}{K:Exit→St→Prop}{s:St}
theorem sow_rep {G:Gh}{k z:Nat}{e:TypeId}{es:List (List D)}{p:Nat→Prop}{u:Value} (h:RepA G (.sow k e z es p) u):RepA G (.d (.iv p (.sp z es))) u:=by
 unfold RepA at h ⊢
 unfold RepD RepD
 rcases h with ⟨_,rfl,rfl⟩|⟨_,b,_,h2,h3,h4,h5⟩
 ·exact ⟨none,0,rfl,Nat.le_refl _,by decide,.inl rfl⟩
 ·exact ⟨_,_,h2,h3,h4,.inr ⟨b,0,rfl,h5⟩⟩
def dvL:List A→List A→Prop
 | [],ys=>ys=[]
 | x::xs,ys=>∃ y ys',ys=y::ys'∧(y=x∨(∃ k e z es,x=.own k e z es∧y=.d (.sl z es))∨∃ k e z es p,x=.sow k e z es p∧y=.d (.iv p (.sp z es)))∧dvL xs ys'
theorem dvL.rep {G:Gh}:∀ {xs ys:List A}{us:List Value},dvL xs ys→RepAL G xs us→RepAL G ys us
 | [],ys,us,h,k=>by unfold dvL at h;subst h;exact k
 | x::xs,ys,us,h,k=>by
  unfold dvL at h
  obtain ⟨y,ys',rfl,h1,h2⟩:=h
  unfold RepAL at k ⊢
  obtain ⟨u,us',rfl,k1,k2⟩:=k
  refine ⟨u,us',rfl,?_,dvL.rep h2 k2⟩
  rcases h1 with rfl|⟨k0,e,z,es,rfl,rfl⟩|⟨k0,e,z,es,p,rfl,rfl⟩
  ·exact k1
  ·have:=own_rep k1
   unfold RepA
   exact this
  ·exact sow_rep k1
theorem dvL.lt {n:Nat→Prop}:∀ {xs ys:List A},dvL xs ys→A.ltL n xs→A.ltL n ys
 | [],ys,h,k=>by unfold dvL at h;subst h;exact k
 | x::xs,ys,h,k=>by
  unfold dvL at h
  obtain ⟨y,ys',rfl,h1,h2⟩:=h
  unfold A.ltL at k ⊢
  refine ⟨?_,h2.lt k.2⟩
  rcases h1 with rfl|⟨k0,e,z,es,rfl,rfl⟩|⟨k0,e,z,es,p,rfl,rfl⟩
  ·exact k.1
  ·unfold A.lt;trivial
  ·unfold A.lt;trivial
theorem aw_boxD {c:Code}{k:Nat}{cs cs':List A} (hb:lk none s.bx k=some cs) (hv:dvL cs cs') (h:AWs P en c K { s with bx:=(k,some cs')::s.bx }):AWs P en c K s:=fun a w ⟨G,hG⟩=>by
 have hbx:∀ j,(lk none ((k,some cs')::s.bx) j).isSome=true→(lk none s.bx j).isSome=true:=fun j hj=>by
  rw [lk_cons] at hj
  by_cases e:j=k
  ·subst e;rw [hb];rfl
  ·rwa [upd_ne _ _ e] at hj
 have hlv:∀ j,({ s with bx:=(k,some cs')::s.bx }:St).mem.live j→s.mem.live j:=fun j hj=>hj.imp (hbx j) id
 refine h a w ⟨G,⟨⟨hG.ok.cok,fun j ds hj=>?_,hG.ok.row,fun j j' b hj hj'=>?_,fun j hj=>?_,fun j hj=>?_⟩,hG.rep,hG.kf,hG.sz,hG.df,hG.fw,hG.c0,hG.c1,fun b ⟨j,hj,hE⟩=>?_,hG.e0,hG.p0,hG.ks,hG.am,fun b hb'=>⟨(hG.az b hb').1,fun ⟨j,hj,hE⟩=>?_,(hG.az b hb').2.2⟩⟩⟩
 ·have hj':lk none ((k,some cs')::s.bx) j=some ds:=hj
  rw [lk_cons] at hj'
  by_cases e:j=k
  ·subst e
   rw [upd_same] at hj'
   have:=Option.some.inj hj';subst this
   obtain ⟨b,q1,⟨vs,ty,q2,q3,q4,q5⟩,q6⟩:=hG.ok.box j cs hb
   exact ⟨b,q1,⟨vs,ty,q2,hv.rep q3,q4,q5⟩,hv.lt q6⟩
  ·rw [upd_ne _ _ e] at hj'
   exact hG.ok.box j ds hj'
 ·exact hG.ok.inj j j' b (hlv j hj) (hlv j' hj')
 ·exact hG.ok.lt j (hlv j hj)
 ·exact hG.ok.sep j (hbx j hj)
 ·exact hG.lv b ⟨j,hlv j hj,hE⟩
 ·exact (hG.az b hb').2.1 ⟨j,hlv j hj,hE⟩
end
section
variable {P:Program}{en:En}{ops:Array Oper}{o:Oper}{l:List Oper}{K:St→Prop}{s:St}
end
end Go.Proofs.YtomfggmmhkpeeaaGreatDoor.Eng
