/-
 The engine, part 32: regions that draw their order, whose last operation waits for all others.
-/
import Derived.Test.YtomfggmmhkpeeaaDoorKE4
import Derived.Test.YtomfggmmhkpeeaaDoorKE3
set_option linter.unusedSimpArgs false
set_option linter.unusedVariables false
set_option linter.defProp false
set_option maxRecDepth 100000
set_option maxHeartbeats 4000000
namespace Go.Proofs.YtomfggmmhkpeeaaDoor.Eng
open Go Go.RowKit

section
variable {P:Program}{ops:Array Oper}
structure LeftL (ops:Array Oper) (last:Nat) (listed:Array Bool) (l:List It):Prop where
 sz:listed.size=ops.size
 cl:Closed ops listed
 un:∀ i,listed.getD i true=false↔i∈l.map It.i∨i=last
 st:l.Pairwise fun x y=>x.i<y.i
 ok:l.Pairwise fun x y=>okPair ops (x.i,x.c) (y.i,y.c)=true
 lt:∀ x∈l,x.i<last
theorem LeftL.ready {last:Nat}{listed:Array Bool}{l:List It} (h:LeftL ops last listed l) (hlast:last<ops.size) (hd:downs ops=true):Region.ready .any ops listed≠[]:=fun hr=>by
 have key:∀ i,i≤last→(∀ j,j<i→listed.getD j true=true)→listed.getD i true=false→False:=fun i hi hj hu=>by
  have hlt':i<ops.size:=by omega
  have:i∈Region.ready .any ops listed:=mem_ready.2 ⟨hu,ops[i],Array.getElem?_eq_getElem hlt',fun e he hb=>by
   have hlo:=downs_spec hd (Array.getElem?_eq_getElem hlt') e he hb
   rw [←getD_tf (by rw [h.sz];omega)]
   exact hj e.on hlo⟩
  rw [hr] at this
  cases this
 cases l with
 | nil=>
  refine key last (Nat.le_refl _) (fun j hj=>?_) ((h.un last).2 (.inr rfl))
  cases hq:listed.getD j true with
  | true=>rfl
  | false=>
   rcases (h.un j).1 hq with hm|hm
   ·cases hm
   ·omega
 | cons x l=>
  have hxl:=h.lt x List.mem_cons_self
  refine key x.i (by omega) (fun j hj=>?_) ((h.un x.i).2 (.inl (by simp)))
  cases hq:listed.getD j true with
  | true=>rfl
  | false=>
   rcases (h.un j).1 hq with hm|hm
   ·rcases List.mem_cons.1 hm with hm|hm
    ·omega
    ·obtain ⟨y,hy,hye⟩:=List.mem_map.1 hm
     have:=(List.pairwise_cons.1 h.st).1 y hy
     omega
   ·omega
theorem LeftL.set {last:Nat}{listed:Array Bool}{pre post:List It}{x:It} (h:LeftL ops last listed (pre++x::post)) (hr:x.i∈Region.ready .any ops listed):LeftL ops last (listed.setIfInBounds x.i true) (pre++post):=by
 have hsub:List.Sublist (pre++post) (pre++x::post):=List.Sublist.append (List.Sublist.refl _) (List.sublist_cons_self _ _)
 obtain ⟨h0,ox,hox,hal⟩:=mem_ready.1 hr
 have hlt:x.i<listed.size:=by rw [h.sz];exact (Array.getElem?_eq_some_iff.1 hox).1
 have hst:=h.st
 rw [List.pairwise_append] at hst
 have hxl:=h.lt x (by simp)
 refine ⟨by simp [h.sz],fun j o ho hl e he hb=>?_,fun i=>?_,h.st.sublist hsub,h.ok.sublist hsub,fun y hy=>h.lt y (hsub.subset hy)⟩
 ·by_cases hj:x.i=j
  ·subst hj
   rw [hox] at ho
   have:=Option.some.inj ho;subst this
   exact getD_set_true (hal e he hb)
  ·rw [getD_set_ne false hj] at hl
   exact getD_set_true (h.cl j o ho hl e he hb)
 ·rw [set_getD hlt,h.un]
  simp only [List.map_append,List.map_cons,List.mem_append,List.mem_cons]
  constructor
  ·rintro ⟨(h1|h1|h1)|h1,h2⟩
   ·exact .inl (.inl h1)
   ·exact absurd h1 h2
   ·exact .inl (.inr h1)
   ·exact .inr h1
  ·rintro ((h1|h1)|h1)
   ·obtain ⟨y,hy,rfl⟩:=List.mem_map.1 h1
    have:=hst.2.2 y hy x List.mem_cons_self
    exact ⟨.inl (.inl h1),by omega⟩
   ·obtain ⟨y,hy,rfl⟩:=List.mem_map.1 h1
    have:=(List.pairwise_cons.1 hst.2.1).1 y hy
    exact ⟨.inl (.inr (.inr h1)),by omega⟩
   ·exact ⟨.inr h1,by omega⟩
end
section
variable {P:Program}{en:En}{ops:Array Oper}{s:St}
theorem ol_chainL {N:Nat}{K:List Nat→St→Prop}:∀ (l t:List Oper) (acc:List Nat) (s:St),ops.toList.drop acc.length=l++t→OL P N ops l acc K s→
  ∃ (L:List It) (s':St),L.map It.i=List.range' acc.length l.length∧(∀ x∈L,s.nx+16*(x.i - acc.length)=x.κ)∧Ch P N ops L s.f s.mem s'.f s'.mem∧s'.nx=s.nx+16*l.length∧K (acc++L.map It.c) s'
 | [],t,acc,s,_,h=>⟨[],s,rfl,fun x hx=>(by cases hx),.nil,by simp,by simpa using (show K acc s from h)⟩
 | o::l,t,acc,s,hd,h=>by
  obtain ⟨c,s1,h1,h2,h3⟩:=h
  have hlt:acc.length<ops.toList.length:=by
   rcases Nat.lt_or_ge acc.length ops.toList.length with h|h
   ·exact h
   ·rw [List.drop_of_length_le h] at hd;cases hd
  have hd':=hd
  rw [List.drop_eq_getElem_cons hlt,List.cons_append,List.cons.injEq] at hd'
  obtain ⟨L,s',k1,k2,k3,k4,k5⟩:=ol_chainL l t (acc++[c]) s1 (by rw [List.length_append,List.length_singleton];exact hd'.2) h3
  rw [List.length_append,List.length_singleton] at k1 k2
  refine ⟨⟨acc.length,s.nx,c⟩::L,s',?_,?_,?_,?_,?_⟩
  ·rw [List.map_cons,k1];rfl
  ·intro x hx
   rcases List.mem_cons.1 hx with rfl|hx
   ·simp
   ·have hm:x.i∈L.map It.i:=List.mem_map.2 ⟨x,hx,rfl⟩
    rw [k1,List.mem_range'] at hm
    obtain ⟨j,_,hj⟩:=hm
    rw [←k2 x hx,h2]
    omega
  ·refine .cons (o:=o) ?_ h1 k3
   show ops[acc.length]?=some o
   rw [←hd'.1,Array.getElem_toList]
   exact Array.getElem?_eq_getElem (by simpa using hlt)
  ·rw [k4,h2,List.length_cons];omega
  ·simpa using k5
end
end Go.Proofs.YtomfggmmhkpeeaaDoor.Eng
