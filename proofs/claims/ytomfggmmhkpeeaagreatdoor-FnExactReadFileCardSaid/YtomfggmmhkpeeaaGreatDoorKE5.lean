/-
 The engine, part 32: regions that draw their order, whose last operation waits for all others.

 The engine, part 33: calls of functions that are values, with a variable of ours.

 The engine, part 34: rows that are made empty, with room.

 The engine, part 35: calls that work on a variable that holds data and a row of its own.
-/
import Derived.Test.YtomfggmmhkpeeaaGreatDoorKE4
import Derived.Test.YtomfggmmhkpeeaaGreatDoorKE3
set_option linter.unusedSimpArgs false
set_option linter.unusedVariables false
set_option linter.defProp false
set_option maxRecDepth 100000
set_option maxHeartbeats 4000000
namespace Go.Proofs.YtomfggmmhkpeeaaGreatDoor.Eng
open Go Go.RowKit

section
variable {P:Program}{ops:Array Oper}
structure LeftL (ops:Array Oper) (last:Nat) (listed:Array Bool) (l:List It):Prop where
 sz:listed.size=ops.size
 cl:Closed ops listed
 un:∀ i,listed.getD i true=false↔i∈l.map It.i∨i=last
 st:l.Pairwise fun x y=>x.i<y.i
 ok:l.Pairwise fun x y=>okPair ops (x.i,x.c) (y.i,y.c)=true
 lt:∀ x∈l,x.i<last
theorem LeftL.ready {last:Nat}{listed:Array Bool}{l:List It} (h:LeftL ops last listed l) (hlast:last<ops.size) (hd:downs ops=true):Region.ready .any ops listed≠[]:=fun hr=>by
 have key:∀ i,i≤last→(∀ j,j<i→listed.getD j true=true)→listed.getD i true=false→False:=fun i hi hj hu=>by
  have hlt':i<ops.size:=by omega
  have:i∈Region.ready .any ops listed:=mem_ready.2 ⟨hu,ops[i],Array.getElem?_eq_getElem hlt',fun e he hb=>by
   have hlo:=downs_spec hd (Array.getElem?_eq_getElem hlt') e he hb
   rw [←getD_tf (by rw [h.sz];omega)]
   exact hj e.on hlo⟩
  rw [hr] at this
  cases this
 cases l with
 | nil=>
  refine key last (Nat.le_refl _) (fun j hj=>?_) ((h.un last).2 (.inr rfl))
  cases hq:listed.getD j true with
  | true=>rfl
  | false=>
   rcases (h.un j).1 hq with hm|hm
   ·cases hm
   ·omega
 | cons x l=>
  have hxl:=h.lt x List.mem_cons_self
  refine key x.i (by omega) (fun j hj=>?_) ((h.un x.i).2 (.inl (by simp)))
  cases hq:listed.getD j true with
  | true=>rfl
  | false=>
   rcases (h.un j).1 hq with hm|hm
   ·rcases List.mem_cons.1 hm with hm|hm
    ·omega
    ·obtain ⟨y,hy,hye⟩:=List.mem_map.1 hm
     have:=(List.pairwise_cons.1 h.st).1 y hy
     omega
   ·omega
theorem LeftL.set {last:Nat}{listed:Array Bool}{pre post:List It}{x:It} (h:LeftL ops last listed (pre++x::post)) (hr:x.i∈Region.ready .any ops listed):LeftL ops last (listed.setIfInBounds x.i true) (pre++post):=by
 have hsub:List.Sublist (pre++post) (pre++x::post):=List.Sublist.append (List.Sublist.refl _) (List.sublist_cons_self _ _)
 obtain ⟨h0,ox,hox,hal⟩:=mem_ready.1 hr
 have hlt:x.i<listed.size:=by rw [h.sz];exact (Array.getElem?_eq_some_iff.1 hox).1
 have hst:=h.st
 rw [List.pairwise_append] at hst
 have hxl:=h.lt x (by simp)
 refine ⟨by simp [h.sz],fun j o ho hl e he hb=>?_,fun i=>?_,h.st.sublist hsub,h.ok.sublist hsub,fun y hy=>h.lt y (hsub.subset hy)⟩
 ·by_cases hj:x.i=j
  ·subst hj
   rw [hox] at ho
   have:=Option.some.inj ho;subst this
   exact getD_set_true (hal e he hb)
  ·rw [getD_set_ne false hj] at hl
   exact getD_set_true (h.cl j o ho hl e he hb)
 ·rw [set_getD hlt,h.un]
  simp only [List.map_append,List.map_cons,List.mem_append,List.mem_cons]
  constructor
  ·rintro ⟨(h1|h1|h1)|h1,h2⟩
   ·exact .inl (.inl h1)
   ·exact absurd h1 h2
   ·exact .inl (.inr h1)
   ·exact .inr h1
  ·rintro ((h1|h1)|h1)
   ·obtain ⟨y,hy,rfl⟩:=List.mem_map.1 h1
    have:=hst.2.2 y hy x List.mem_cons_self
    exact ⟨.inl (.inl h1),by omega⟩
   ·obtain ⟨y,hy,rfl⟩:=List.mem_map.1 h1
    have:=(List.pairwise_cons.1 hst.2.1).1 y hy
    exact ⟨.inl (.inr (.inr h1)),by omega⟩
   ·exact ⟨.inr h1,by omega⟩
end
section
variable {P:Program}{en:En}{ops:Array Oper}{s:St}
end
end Go.Proofs.YtomfggmmhkpeeaaGreatDoor.Eng
namespace Go.Proofs.YtomfggmmhkpeeaaGreatDoor.Eng
open Go Go.RowKit

section
variable {P:Program}{en:En}{ops:Array Oper}{o:Oper}{l:List Oper}{K:St→Prop}{s:St}
end
end Go.Proofs.YtomfggmmhkpeeaaGreatDoor.Eng
namespace Go.Proofs.YtomfggmmhkpeeaaGreatDoor.Eng
open Go Go.RowKit

section
variable {P:Program}{o:Oper}{ρ:Operand→A}{m:Mem}{κ:Nat}
end
section
variable {P:Program}{en:En}{ops:Array Oper}{o:Oper}{l:List Oper}{K:St→Prop}{s:St}
end
theorem AC.frz {P:Program}{f:FuncId}{args:List A}{z n:Nat}{ds:List D}{es:List (List D)} (h:AC P f args none fun r _=>r=.arr z n ds) (he:es.flatten=ds) (hz:∀ e∈es,e.length=z) (hn:es.length=n):AC P f args none fun r _=>r=.d (.sl z es):=
 ⟨h.1,fun w C β F0 vs h1 h2 h3 h4=>(h.2 w C β F0 vs h1 h2 h3 h4).mono fun e w' ⟨v,r,bx',C',F,F',he',hq,hb,g1,g2,g3,g4,g5,g6,g7,g8⟩=>by
  subst hq
  cases bx' with
  | some x=>simp at hb
  | none=>
   unfold RepZ at g5
   obtain ⟨b,cap,rfl,rfl,hc1,hc2,us,ty,k1,k2,k3,k4⟩:=g5
   unfold BoxO at g6
   subst g6
   have hbn:w.heap.size≤b:=by
    rcases g8 b (by simp) with h|h
    ·exact h
    ·simp [XO] at h
   have hnl:¬Lst b:=fun hl=>by
    obtain ⟨u,hu⟩:=lst_cell h1.gl hl
    have:=cell_lt (h1.cell _ _ _ hu).1
    omega
   have hle:∀ b' o u,C' b' o u→(C' b' o u∨(b'=b∧us[o]?=some u)):=fun _ _ _ h=>.inl h
   refine ⟨_,.d (.sl z es),none,fun b' o u=>C' b' o u∨(b'=b∧us[o]?=some u),[],[],he',rfl,rfl,fun b' o u h=>.inl (g1 _ _ _ h),⟨fun b' o u hc=>?_,fun b' o u hc hl=>?_,g2.gl.mono hle,g2.tb⟩,g3,fun b' o u hc=>?_,?_,rfl,by simp [XO],fun b' hb'=>by cases hb'⟩
   ·rcases hc with hc|⟨rfl,hu⟩
    ·exact g2.cell _ _ _ hc
    ·exact ⟨by simp [World.cell?,k1,hu],k3 u (List.mem_of_getElem? hu)⟩
   ·rcases hc with hc|⟨rfl,_⟩
    ·exact g2.nf _ _ _ hc hl
    ·exact frz_of_cells k1
   ·rcases hc with hc|⟨rfl,_⟩
    ·exact g4 _ _ _ hc
    ·exact .inr (.inl hbn)
   ·unfold RepZ
    refine ⟨rfl,?_⟩
    unfold RepD
    refine ⟨_,cap,by rw [hn],by rw [hn];exact hc1,hc2,.inr ⟨b,0,rfl,?_⟩⟩
    subst he
    exact RepEs.ofList hz (RepL.mono hle _ _ k2) fun i u hu=>.inr ⟨rfl,by simpa using hu⟩⟩
end Go.Proofs.YtomfggmmhkpeeaaGreatDoor.Eng
namespace Go.Proofs.YtomfggmmhkpeeaaGreatDoor.Eng
open Go Go.RowKit

section
variable {P:Program}{en:En}{ops:Array Oper}{o:Oper}{l:List Oper}{K:St→Prop}{s:St}
end
section
variable {P:Program}{en:En}{ops:Array Oper}{o:Oper}{l:List Oper}{K:St→Prop}{s:St}
end
end Go.Proofs.YtomfggmmhkpeeaaGreatDoor.Eng
