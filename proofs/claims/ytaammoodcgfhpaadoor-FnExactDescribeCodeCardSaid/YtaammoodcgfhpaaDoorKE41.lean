/-
 The engine, part 41: regions that draw their order, whose last operations wait for all that come ahead of them.

 The engine, part 42: rows whose elements hold rows of ours: appending to them.
-/
import Derived.Test.YtaammoodcgfhpaaDoorKE5
import Derived.Test.YtaammoodcgfhpaaDoorKE30
set_option linter.unusedSimpArgs false
set_option linter.unusedVariables false
set_option linter.defProp false
set_option maxRecDepth 100000
set_option maxHeartbeats 4000000
namespace Go.Proofs.YtaammoodcgfhpaaDoor.Eng
open Go Go.RowKit

section
variable {P:Program}{ops:Array Oper}
structure LeftT (ops:Array Oper) (last:Nat) (listed:Array Bool) (l:List It):Prop where
 sz:listed.size=ops.size
 cl:Closed ops listed
 un:∀ i,listed.getD i true=false↔i∈l.map It.i∨(last≤i∧i<ops.size)
 st:l.Pairwise fun x y=>x.i<y.i
 ok:l.Pairwise fun x y=>okPair ops (x.i,x.c) (y.i,y.c)=true
 lt:∀ x∈l,x.i<last
theorem LeftT.ready {last:Nat}{listed:Array Bool}{x:It}{l:List It} (h:LeftT ops last listed (x::l)) (hlast:last≤ops.size) (hd:downs ops=true):Region.ready .any ops listed≠[]:=fun hr=>by
 have hxl:=h.lt x List.mem_cons_self
 have hlt':x.i<ops.size:=by omega
 have:x.i∈Region.ready .any ops listed:=mem_ready.2 ⟨(h.un x.i).2 (.inl (by simp)),ops[x.i],Array.getElem?_eq_getElem hlt',fun e he hb=>by
  have hlo:=downs_spec hd (Array.getElem?_eq_getElem hlt') e he hb
  rw [←getD_tf (by rw [h.sz];omega)]
  cases hq:listed.getD e.on true with
  | true=>rfl
  | false=>
   rcases (h.un e.on).1 hq with hm|hm
   ·rw [List.map_cons] at hm
    rcases List.mem_cons.1 hm with hm|hm
    ·omega
    ·obtain ⟨y,hy,hye⟩:=List.mem_map.1 hm
     have:=(List.pairwise_cons.1 h.st).1 y hy
     omega
   ·omega⟩
 rw [hr] at this
 cases this
theorem LeftT.set {last:Nat}{listed:Array Bool}{pre post:List It}{x:It} (h:LeftT ops last listed (pre++x::post)) (hr:x.i∈Region.ready .any ops listed):LeftT ops last (listed.setIfInBounds x.i true) (pre++post):=by
 have hsub:List.Sublist (pre++post) (pre++x::post):=List.Sublist.append (List.Sublist.refl _) (List.sublist_cons_self _ _)
 obtain ⟨h0,ox,hox,hal⟩:=mem_ready.1 hr
 have hlt:x.i<listed.size:=by rw [h.sz];exact (Array.getElem?_eq_some_iff.1 hox).1
 have hst:=h.st
 rw [List.pairwise_append] at hst
 have hxl:=h.lt x (by simp)
 refine ⟨by simp [h.sz],fun j o ho hl e he hb=>?_,fun i=>?_,h.st.sublist hsub,h.ok.sublist hsub,fun y hy=>h.lt y (hsub.subset hy)⟩
 ·by_cases hj:x.i=j
  ·subst hj
   rw [hox] at ho
   have:=Option.some.inj ho;subst this
   exact getD_set_true (hal e he hb)
  ·rw [getD_set_ne false hj] at hl
   exact getD_set_true (h.cl j o ho hl e he hb)
 ·rw [set_getD hlt,h.un]
  simp only [List.map_append,List.map_cons,List.mem_append,List.mem_cons]
  constructor
  ·rintro ⟨(h1|h1|h1)|h1,h2⟩
   ·exact .inl (.inl h1)
   ·exact absurd h1 h2
   ·exact .inl (.inr h1)
   ·exact .inr h1
  ·rintro ((h1|h1)|h1)
   ·obtain ⟨y,hy,rfl⟩:=List.mem_map.1 h1
    have:=hst.2.2 y hy x List.mem_cons_self
    exact ⟨.inl (.inl h1),by omega⟩
   ·obtain ⟨y,hy,rfl⟩:=List.mem_map.1 h1
    have:=(List.pairwise_cons.1 hst.2.1).1 y hy
    exact ⟨.inl (.inr (.inr h1)),by omega⟩
   ·exact ⟨.inr h1,by omega⟩
end
section
variable {P:Program}{en:En}{ops:Array Oper}{s:St}
end
end Go.Proofs.YtaammoodcgfhpaaDoor.Eng
namespace Go.Proofs.YtaammoodcgfhpaaDoor.Eng
open Go Go.RowKit

theorem RepEsX.len {C:CellR}{p:Nat→Prop}{z:Nat}:∀ {es:List (List D)}{b o:Nat},RepEsX C p z es b o→∀ e∈es,e.length=z:=fun h=>h.es.len
theorem RepCsX.list {C:CellR}{p:Nat→Prop}:∀ {cs:List D}{b o:Nat},RepCsX C p cs b o→∃ us,RepL (C.on p) cs us∧∀ (i:Nat) u,us[i]?=some u→C b (o+i) u
 | [],b,o,_=>⟨[],by simp [RepL],fun i u h=>by simp at h⟩
 | c::cs,b,o,h=>by
  unfold RepCsX at h
  obtain ⟨⟨u,h1,h2⟩,h3⟩:=h
  obtain ⟨us,k1,k2⟩:=h3.list
  refine ⟨u::us,by unfold RepL;exact ⟨u,us,rfl,h2,k1⟩,fun i v hv=>?_⟩
  cases i with
  | zero=>simp only [List.getElem?_cons_zero,Option.some.injEq] at hv;subst hv;simpa using h1
  | succ i=>rw [List.getElem?_cons_succ] at hv;have:=k2 i v hv;rwa [show o+(i+1)=o+1+i by omega]
theorem RepEsX.list {C:CellR}{p:Nat→Prop}{z:Nat}:∀ {es:List (List D)}{b o:Nat},RepEsX C p z es b o→∃ us,RepL (C.on p) es.flatten us∧us.length=es.length*z∧∀ (i:Nat) u,us[i]?=some u→C b (o+i) u
 | [],b,o,_=>⟨[],by simp [RepL],by simp,fun i u h=>by simp at h⟩
 | e::es,b,o,h=>by
  unfold RepEsX at h
  obtain ⟨h1,h2,h3⟩:=h
  obtain ⟨us,g1,g2⟩:=h2.list
  obtain ⟨vs,k1,k2,k3⟩:=h3.list
  have hl:=g1.get.1
  refine ⟨us++vs,by rw [List.flatten_cons];exact RepL.append g1 k1,by rw [List.length_append,k2,List.length_cons,Nat.add_mul,Nat.one_mul];omega,fun i u hu=>?_⟩
  rcases Nat.lt_or_ge i us.length with hi|hi
  ·rw [List.getElem?_append_left hi] at hu
   exact g2 i u hu
  ·rw [List.getElem?_append_right hi] at hu
   have:=k3 _ u hu
   rwa [show o+i=o+z+(i - us.length) by omega]
theorem RepCsX.ofList {C:CellR}{p:Nat→Prop}:∀ {cs:List D}{us:List Value}{b o:Nat},RepL (C.on p) cs us→(∀ (i:Nat) u,us[i]?=some u→C b (o+i) u)→RepCsX C p cs b o
 | [],us,b,o,_,_=>by unfold RepCsX;trivial
 | c::cs,us,b,o,h,k=>by
  unfold RepL at h
  obtain ⟨u,us',rfl,h1,h2⟩:=h
  unfold RepCsX
  refine ⟨⟨u,by simpa using k 0 u rfl,h1⟩,RepCsX.ofList h2 fun i v hv=>?_⟩
  have:=k (i+1) v (by simpa using hv)
  rwa [show o+1+i=o+(i+1) by omega]
theorem RepEsX.ofList {C:CellR}{p:Nat→Prop}{z:Nat}:∀ {es:List (List D)}{us:List Value}{b o:Nat},(∀ e∈es,e.length=z)→RepL (C.on p) es.flatten us→(∀ (i:Nat) u,us[i]?=some u→C b (o+i) u)→RepEsX C p z es b o
 | [],us,b,o,_,_,_=>by unfold RepEsX;trivial
 | e::es,us,b,o,hz,h,k=>by
  simp only [List.flatten_cons] at h
  obtain ⟨h1,h2⟩:=h.split
  have he:=hz e (by simp)
  unfold RepEsX
  refine ⟨he,RepCsX.ofList h1 fun i u hu=>k i u ?_,RepEsX.ofList (fun e' he'=>hz e' (by simp [he'])) h2 fun i u hu=>?_⟩
  ·rw [List.getElem?_take] at hu
   split at hu
   ·exact hu
   ·cases hu
  ·rw [List.getElem?_drop] at hu
   have:=k _ u hu
   rwa [show o+z+i=o+(e.length+i) by omega]
def rawOf:List (List D)→List Value→List (List D)
 | [],_=>[]
 | e::es,xs=>(xs.take e.length).map .v::rawOf es (xs.drop e.length)
theorem RepL_raw (C:CellR):∀ vs:List Value,RepL C (vs.map .v) vs
 | []=>by simp [RepL]
 | v::vs=>by
  simp only [List.map_cons]
  unfold RepL
  exact ⟨v,vs,rfl,by unfold RepD;rfl,RepL_raw C vs⟩
theorem RepL_raw_eq {C:CellR}:∀ {xs us:List Value},RepL C (xs.map .v) us→us=xs
 | [],us,h=>by simp only [List.map_nil] at h;unfold RepL at h;exact h
 | v::vs,us,h=>by
  simp only [List.map_cons] at h
  unfold RepL at h
  obtain ⟨u,us',rfl,h1,h2⟩:=h
  unfold RepD at h1
  rw [h1,RepL_raw_eq h2]
def VwOk (m:Mem) (k:Nat):List A→List D→Prop
 | [],ds=>ds=[]
 | c::cs,ds=>∃ d ds',ds=d::ds'∧((∃ x,c=.d (.v x)∧d=.v x)∨(∃ j e z es,c=.own j e z es∧d=.sl z es∧m.al j=some (es.length,e,z)∧j≠k∧flatEs es))∧VwOk m k cs ds'
section
variable {P:Program}{o:Oper}{ρ:Operand→A}{m:Mem}{κ:Nat}{t e:TypeId}{s x:Operand}{z:Nat}
end
section
variable {P:Program}{en:En}{ops:Array Oper}{o:Oper}{l:List Oper}{K:St→Prop}{s:St}
variable {acc:List Nat}{K2:List Nat→St→Prop}
end
end Go.Proofs.YtaammoodcgfhpaaDoor.Eng
