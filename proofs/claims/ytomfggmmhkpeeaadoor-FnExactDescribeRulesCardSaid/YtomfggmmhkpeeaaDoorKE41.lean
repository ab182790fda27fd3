/-
 The engine, part 41: regions that draw their order, whose last operations wait for all that come ahead of them.
-/
import Derived.Test.YtomfggmmhkpeeaaDoorKE5
set_option linter.unusedSimpArgs false
set_option linter.unusedVariables false
set_option linter.defProp false
set_option maxRecDepth 100000
set_option maxHeartbeats 4000000
namespace Go.Proofs.YtomfggmmhkpeeaaDoor.Eng
open Go Go.RowKit

section
variable {P:Program}{ops:Array Oper}
structure LeftT (ops:Array Oper) (last:Nat) (listed:Array Bool) (l:List It):Prop where
 sz:listed.size=ops.size
 cl:Closed ops listed
 un:∀ i,listed.getD i true=false↔i∈l.map It.i∨(last≤i∧i<ops.size)
 st:l.Pairwise fun x y=>x.i<y.i
 ok:l.Pairwise fun x y=>okPair ops (x.i,x.c) (y.i,y.c)=true
 lt:∀ x∈l,x.i<last
theorem LeftT.ready {last:Nat}{listed:Array Bool}{x:It}{l:List It} (h:LeftT ops last listed (x::l)) (hlast:last≤ops.size) (hd:downs ops=true):Region.ready .any ops listed≠[]:=fun hr=>by
 have hxl:=h.lt x List.mem_cons_self
 have hlt':x.i<ops.size:=by omega
 have:x.i∈Region.ready .any ops listed:=mem_ready.2 ⟨(h.un x.i).2 (.inl (by simp)),ops[x.i],Array.getElem?_eq_getElem hlt',fun e he hb=>by
  have hlo:=downs_spec hd (Array.getElem?_eq_getElem hlt') e he hb
  rw [←getD_tf (by rw [h.sz];omega)]
  cases hq:listed.getD e.on true with
  | true=>rfl
  | false=>
   rcases (h.un e.on).1 hq with hm|hm
   ·rw [List.map_cons] at hm
    rcases List.mem_cons.1 hm with hm|hm
    ·omega
    ·obtain ⟨y,hy,hye⟩:=List.mem_map.1 hm
     have:=(List.pairwise_cons.1 h.st).1 y hy
     omega
   ·omega⟩
 rw [hr] at this
 cases this
theorem LeftT.set {last:Nat}{listed:Array Bool}{pre post:List It}{x:It} (h:LeftT ops last listed (pre++x::post)) (hr:x.i∈Region.ready .any ops listed):LeftT ops last (listed.setIfInBounds x.i true) (pre++post):=by
 have hsub:List.Sublist (pre++post) (pre++x::post):=List.Sublist.append (List.Sublist.refl _) (List.sublist_cons_self _ _)
 obtain ⟨h0,ox,hox,hal⟩:=mem_ready.1 hr
 have hlt:x.i<listed.size:=by rw [h.sz];exact (Array.getElem?_eq_some_iff.1 hox).1
 have hst:=h.st
 rw [List.pairwise_append] at hst
 have hxl:=h.lt x (by simp)
 refine ⟨by simp [h.sz],fun j o ho hl e he hb=>?_,fun i=>?_,h.st.sublist hsub,h.ok.sublist hsub,fun y hy=>h.lt y (hsub.subset hy)⟩
 ·by_cases hj:x.i=j
  ·subst hj
   rw [hox] at ho
   have:=Option.some.inj ho;subst this
   exact getD_set_true (hal e he hb)
  ·rw [getD_set_ne false hj] at hl
   exact getD_set_true (h.cl j o ho hl e he hb)
 ·rw [set_getD hlt,h.un]
  simp only [List.map_append,List.map_cons,List.mem_append,List.mem_cons]
  constructor
  ·rintro ⟨(h1|h1|h1)|h1,h2⟩
   ·exact .inl (.inl h1)
   ·exact absurd h1 h2
   ·exact .inl (.inr h1)
   ·exact .inr h1
  ·rintro ((h1|h1)|h1)
   ·obtain ⟨y,hy,rfl⟩:=List.mem_map.1 h1
    have:=hst.2.2 y hy x List.mem_cons_self
    exact ⟨.inl (.inl h1),by omega⟩
   ·obtain ⟨y,hy,rfl⟩:=List.mem_map.1 h1
    have:=(List.pairwise_cons.1 hst.2.1).1 y hy
    exact ⟨.inl (.inr (.inr h1)),by omega⟩
   ·exact ⟨.inr h1,by omega⟩
end
section
variable {P:Program}{en:En}{ops:Array Oper}{s:St}
end
end Go.Proofs.YtomfggmmhkpeeaaDoor.Eng
