/-
 The engine, part 32: regions that draw their order, whose last operation waits for all others.

 The engine, part 33: calls of functions that are values, with a variable of ours.

 The engine, part 34: rows that are made empty, with room.

 The engine, part 35: calls that work on a variable that holds data and a row of its own.
-/
import Derived.Test.YtaammoodcgfhpaaDoorKE4
import Derived.Test.YtaammoodcgfhpaaDoorKE3
set_option linter.unusedSimpArgs false
set_option linter.unusedVariables false
set_option linter.defProp false
set_option maxRecDepth 100000
set_option maxHeartbeats 4000000
namespace Go.Proofs.YtaammoodcgfhpaaDoor.Eng
open Go Go.RowKit

section
variable {P:Program}{ops:Array Oper}
structure LeftL (ops:Array Oper) (last:Nat) (listed:Array Bool) (l:List It):Prop where
 sz:listed.size=ops.size
 cl:Closed ops listed
 un:∀ i,listed.getD i true=false↔i∈l.map It.i∨i=last
 st:l.Pairwise fun x y=>x.i<y.i
 ok:l.Pairwise fun x y=>okPair ops (x.i,x.c) (y.i,y.c)=true
 lt:∀ x∈l,x.i<last
theorem LeftL.ready {last:Nat}{listed:Array Bool}{l:List It} (h:LeftL ops last listed l) (hlast:last<ops.size) (hd:downs ops=true):Region.ready .any ops listed≠[]:=fun hr=>by
 have key:∀ i,i≤last→(∀ j,j<i→listed.getD j true=true)→listed.getD i true=false→False:=fun i hi hj hu=>by
  have hlt':i<ops.size:=by omega
  have:i∈Region.ready .any ops listed:=mem_ready.2 ⟨hu,ops[i],Array.getElem?_eq_getElem hlt',fun e he hb=>by
   have hlo:=downs_spec hd (Array.getElem?_eq_getElem hlt') e he hb
   rw [←getD_tf (by rw [h.sz];omega)]
   exact hj e.on hlo⟩
  rw [hr] at this
  cases this
 cases l with
 | nil=>
  refine key last (Nat.le_refl _) (fun j hj=>?_) ((h.un last).2 (.inr rfl))
  cases hq:listed.getD j true with
  | true=>rfl
  | false=>
   rcases (h.un j).1 hq with hm|hm
   ·cases hm
   ·omega
 | cons x l=>
  have hxl:=h.lt x List.mem_cons_self
  refine key x.i (by omega) (fun j hj=>?_) ((h.un x.i).2 (.inl (by simp)))
  cases hq:listed.getD j true with
  | true=>rfl
  | false=>
   rcases (h.un j).1 hq with hm|hm
   ·rcases List.mem_cons.1 hm with hm|hm
    ·omega
    ·obtain ⟨y,hy,hye⟩:=List.mem_map.1 hm
     have:=(List.pairwise_cons.1 h.st).1 y hy
     omega
   ·omega
theorem LeftL.set {last:Nat}{listed:Array Bool}{pre post:List It}{x:It} (h:LeftL ops last listed (pre++x::post)) (hr:x.i∈Region.ready .any ops listed):LeftL ops last (listed.setIfInBounds x.i true) (pre++post):=by
 have hsub:List.Sublist (pre++post) (pre++x::post):=List.Sublist.append (List.Sublist.refl _) (List.sublist_cons_self _ _)
 obtain ⟨h0,ox,hox,hal⟩:=mem_ready.1 hr
 have hlt:x.i<listed.size:=by rw [h.sz];exact (Array.getElem?_eq_some_iff.1 hox).1
 have hst:=h.st
 rw [List.pairwise_append] at hst
 have hxl:=h.lt x (by simp)
 refine ⟨by simp [h.sz],fun j o ho hl e he hb=>?_,fun i=>?_,h.st.sublist hsub,h.ok.sublist hsub,fun y hy=>h.lt y (hsub.subset hy)⟩
 ·by_cases hj:x.i=j
  ·subst hj
   rw [hox] at ho
   have:=Option.some.inj ho;subst this
   exact getD_set_true (hal e he hb)
  ·rw [getD_set_ne false hj] at hl
   exact getD_set_true (h.cl j o ho hl e he hb)
 ·rw [set_getD hlt,h.un]
  simp only [List.map_append,List.map_cons,List.mem_append,List.mem_cons]
  constructor
  ·rintro ⟨(h1|h1|h1)|h1,h2⟩
   ·exact .inl (.inl h1)
   ·exact absurd h1 h2
   ·exact .inl (.inr h1)
   ·exact .inr h1
  ·rintro ((h1|h1)|h1)
   ·obtain ⟨y,hy,rfl⟩:=List.mem_map.1 h1
    have:=hst.2.2 y hy x List.mem_cons_self
    exact ⟨.inl (.inl h1),by omega⟩
   ·obtain ⟨y,hy,rfl⟩:=List.mem_map.1 h1
    have:=(List.pairwise_cons.1 hst.2.1).1 y hy
    exact ⟨.inl (.inr (.inr h1)),by omega⟩
   ·exact ⟨.inr h1,by omega⟩
theorem any_chainL {en:En}{Q:Exit→Act→World→Prop}{fr':Nat→A}{m':Mem}{last:Nat}{ol:Oper} (hol:ops[last]?=some ol) (hsz:ops.size=last+1) (hrc:∀ i,i<last→reach ops ops.size last i=true) (hd:downs ops=true) (hQ:∀ a w G,Sim en fr' m' a w G→wpList P ops Q [ol] a w) (hds:∀ (i:Nat) o,ops[i]?=some o→∀ x,o.dst=some x→x<en.sz) :
  ∀ (n:Nat) (l:List It) (listed:Array Bool) (fr:Nat→A) (m:Mem) (a:Act) (w:World) (G:Gh),l.length<n→LeftL ops last listed l→Frs l m→Ch P en.w.heap.size ops l fr m fr' m'→Sim en fr m a w G→wpAny P .any ops Q n listed a w
 | 0,l,listed,fr,m,a,w,G,hn,hl,hf,hc,hs=>by omega
 | n+1,l,listed,fr,m,a,w,G,hn,hl,hf,hc,hs=>by
  refine ⟨fun hr=>absurd hr (hl.ready (by omega) hd),fun i hi=>?_⟩
  rcases (hl.un i).1 (mem_ready.1 hi).1 with hm|hm
  ·obtain ⟨x,hx,rfl⟩:=List.mem_map.1 hm
   obtain ⟨pre,post,rfl⟩:=List.append_of_mem hx
   have hg:Good fr m:=⟨hs.kf,hs.ok.lt,fun k cs hb=>by
    obtain ⟨_,_,_,h⟩:=hs.ok.box k cs hb
    exact h⟩
   have hap:∀ y∈pre,Apt ops y x:=fun y hy=>okPair_apt hl.cl ((hl.un y.i).2 (.inl (List.mem_map.2 ⟨y,by simp [hy],rfl⟩))) hi ((List.pairwise_append.1 hl.ok).2.2 y hy x (by simp))
   have hc':=hc.front hg hf hap
   have hl':=hl.set hi
   have hf':Frs (x::(pre++post)) m:=hf.perm List.perm_middle
   cases hc' with
   | @cons _ _ o _ fr1 _ _ m1 _ ho hex t=>
    refine ex_wpOp ho (hds _ o ho) (hf'.1 x (by simp)) hs hex fun a' w' G' hs'=>?_
    exact any_chainL hol hsz hrc hd hQ hds n (pre++post) _ fr1 m1 a' w' G' (by simp only [List.length_append,List.length_cons] at hn ⊢;omega) hl' (hf'.tail rfl hex.us) t hs'
  ·subst hm
   obtain ⟨h0,ox,hox,hal⟩:=mem_ready.1 hi
   obtain rfl:ox=ol:=Option.some.inj (hox.symm.trans hol)
   have hnil:l=[]:=by
    cases l with
    | nil=>rfl
    | cons x l=>
     have hxl:=hl.lt x List.mem_cons_self
     have h1:=reach_listed hl.cl hox (hrc x.i hxl) hal
     have h2:=(hl.un x.i).2 (.inl (by simp))
     rw [getD_tf (by rw [hl.sz];omega),h1] at h2
     cases h2
   subst hnil
   have hlt:i<listed.size:=by rw [hl.sz];omega
   have hfin:Region.ready .any ops (listed.setIfInBounds i true)=[]:=by
    cases hq:Region.ready .any ops (listed.setIfInBounds i true) with
    | nil=>rfl
    | cons j js=>
     have hj:j∈Region.ready .any ops (listed.setIfInBounds i true):=by rw [hq];simp
     have h1:=(mem_ready.1 hj).1
     rw [set_getD hlt,hl.un] at h1
     rcases h1.1 with h2|h2
     ·cases h2
     ·exact absurd h2 h1.2
   have hK:∀ a w,Q .normal a w→wpAny P .any ops Q n (listed.setIfInBounds i true) a w:=fun a w h=>by
    cases n with
    | zero=>exact ⟨hfin,h⟩
    | succ n=>exact ⟨fun _=>h,fun j hj=>by rw [hfin] at hj;cases hj⟩
   cases hc with
   | nil=>
    have h:=hQ a w G hs
    unfold wpOp
    rw [hox]
    simp only
    unfold wpList at h
    split
    ·rename_i hw
     rw [if_pos hw] at h
     exact h.imp (Oper.wp_mono hK) id
    ·rename_i hw
     rw [if_neg hw] at h
     exact hK _ _ h
end
section
variable {P:Program}{en:En}{ops:Array Oper}{s:St}
theorem ol_chainL {N:Nat}{K:List Nat→St→Prop}:∀ (l t:List Oper) (acc:List Nat) (s:St),ops.toList.drop acc.length=l++t→OL P N ops l acc K s→
  ∃ (L:List It) (s':St),L.map It.i=List.range' acc.length l.length∧(∀ x∈L,s.nx+16*(x.i - acc.length)=x.κ)∧Ch P N ops L s.f s.mem s'.f s'.mem∧s'.nx=s.nx+16*l.length∧K (acc++L.map It.c) s'
 | [],t,acc,s,_,h=>⟨[],s,rfl,fun x hx=>(by cases hx),.nil,by simp,by simpa using (show K acc s from h)⟩
 | o::l,t,acc,s,hd,h=>by
  obtain ⟨c,s1,h1,h2,h3⟩:=h
  have hlt:acc.length<ops.toList.length:=by
   rcases Nat.lt_or_ge acc.length ops.toList.length with h|h
   ·exact h
   ·rw [List.drop_of_length_le h] at hd;cases hd
  have hd':=hd
  rw [List.drop_eq_getElem_cons hlt,List.cons_append,List.cons.injEq] at hd'
  obtain ⟨L,s',k1,k2,k3,k4,k5⟩:=ol_chainL l t (acc++[c]) s1 (by rw [List.length_append,List.length_singleton];exact hd'.2) h3
  rw [List.length_append,List.length_singleton] at k1 k2
  refine ⟨⟨acc.length,s.nx,c⟩::L,s',?_,?_,?_,?_,?_⟩
  ·rw [List.map_cons,k1];rfl
  ·intro x hx
   rcases List.mem_cons.1 hx with rfl|hx
   ·simp
   ·have hm:x.i∈L.map It.i:=List.mem_map.2 ⟨x,hx,rfl⟩
    rw [k1,List.mem_range'] at hm
    obtain ⟨j,_,hj⟩:=hm
    rw [←k2 x hx,h2]
    omega
  ·refine .cons (o:=o) ?_ h1 k3
   show ops[acc.length]?=some o
   rw [←hd'.1,Array.getElem_toList]
   exact Array.getElem?_eq_getElem (by simpa using hlt)
  ·rw [k4,h2,List.length_cons];omega
  ·simpa using k5
theorem aw_anyL {id:Nat}{K:Exit→St→Prop}{ol:Oper}{last:Nat} (hm:P.follows .mixedOrders=true) (hd:downs ops=true) (hlast:ops.size=last+1) (hol:ops[last]?=some ol) (hrc:(List.range last).all (fun i=>reach ops ops.size last i)=true) (hsz:ops.toList.all (fun o=>match o.dst with|some d=>decide (d<en.sz)|none=>true)=true)
  (h:OL P en.w.heap.size ops (ops.toList.take last) [] (fun acc s'=>okAll ops (zipI acc 0)=true∧OWs P en ops [ol] (K .normal) s') s):AWs P en (.region id ops true) K s:=fun a w ⟨G,hs⟩=>by
 have hdrop:ops.toList.drop ([]:List Nat).length=ops.toList.take last++ops.toList.drop last:=by simp
 obtain ⟨L,s',h1,h2,h3,h4,h5,h6⟩:=ol_chainL (ops.toList.take last) _ [] s hdrop h
 simp only [List.length_nil,List.nil_append,Nat.sub_zero] at h1 h2 h5
 have hlt0:(ops.toList.take last).length=last:=by simp;omega
 rw [hlt0] at h1
 have hlen:L.length=last:=by
  have:=congrArg List.length h1
  simpa using this
 have hx:∀ x∈L,∀ k,rng x.κ k→s.nx+16*x.i≤k∧k<s.nx+16*x.i+16:=fun x hx k hk=>by
  unfold rng at hk
  rw [←h2 x hx] at hk
  exact hk
 rw [zipI_map L 0 (by rw [h1,hlen])] at h5
 have hpw:=okAll_pw h5
 rw [List.pairwise_map] at hpw
 have hst:L.Pairwise fun x y=>x.i<y.i:=by
  have:=range'_pw 0 last
  rw [←h1,List.pairwise_map] at this
  exact this
 refine wp_region_any hm ?_
 have hs':Sim en s.f s.mem a { w with drawn:=w.drawn+1 } G:=by
  exact ⟨⟨⟨hs.ok.cok.cell,hs.ok.cok.nf,hs.ok.cok.gl,hs.ok.cok.tb⟩,hs.ok.box,hs.ok.row,hs.ok.inj,hs.ok.lt,hs.ok.sep⟩,hs.rep,hs.kf,hs.sz,hs.df,⟨hs.fw.os,hs.fw.tape,hs.fw.output,hs.fw.size,hs.fw.block⟩,hs.c0,hs.c1,hs.lv,hs.e0,hs.p0,hs.ks,en.stab w _ (fun _ _=>rfl) hs.am,hs.az⟩
 refine any_chainL hol hlast (fun i hi=>by rw [List.all_eq_true] at hrc;exact hrc i (List.mem_range.2 hi)) hd (fun a' w' G' hs'=>h6 a' w' ⟨G',hs'⟩ _ fun s2 a2 w2 hs2 hk=>⟨s2,hs2,hk⟩) (fun i o ho x hx=>?_) ops.size L _ _ _ a _ G (by omega) ⟨by simp,?_,?_,hst,hpw,fun x hx=>?_⟩ ⟨fun x hxL k k1 k2 hk=>?_,?_⟩ h3 hs'
 ·rw [List.all_eq_true] at hsz
  have:=hsz o (by rw [Array.mem_toList_iff];exact Array.mem_of_getElem? ho)
  rw [hx] at this
  simpa using this
 ·intro j o ho hl
  by_cases hj:j<ops.size
  ·simp [hj] at hl
  ·simp [hj] at hl
 ·intro i
  rw [h1,List.mem_range']
  by_cases hi:i<ops.size
  ·simp only [hi,Array.getD_eq_getD_getElem?,Array.size_replicate,Array.getElem?_replicate,if_true,Option.getD_some,true_iff]
   by_cases e:i=last
   ·exact .inr e
   ·exact .inl ⟨i,by omega,by omega⟩
  ·simp only [hi,Array.getD_eq_getD_getElem?,Array.size_replicate,Array.getElem?_replicate,if_false,Option.getD_none,Bool.true_eq_false,false_iff]
   rintro (⟨j,hj,rfl⟩|rfl)
   ·omega
   ·omega
 ·have:x.i∈L.map It.i:=List.mem_map.2 ⟨x,hx,rfl⟩
  rw [h1,List.mem_range'] at this
  obtain ⟨j,hj,e⟩:=this
  omega
 ·have:=hx x hxL k ⟨k1,k2⟩
  have hk':k<s.nx:=hk
  omega
 ·refine hst.imp_of_mem ?_
  intro x y hxL hyL hxy k hk1 hk2
  have a1:=hx x hxL k hk1
  have a2:=hx y hyL k hk2
  omega
end
end Go.Proofs.YtaammoodcgfhpaaDoor.Eng
namespace Go.Proofs.YtaammoodcgfhpaaDoor.Eng
open Go Go.RowKit

section
variable {P:Program}{en:En}{ops:Array Oper}{o:Oper}{l:List Oper}{K:St→Prop}{s:St}
theorem ow_call1V {f:FuncId}{c:Operand}{fs cl:List A}{xs:Array Operand}{ats:Array TypeId} (hg:Wanted s ops o) (hd:∀ x,o.dst=some x→x<en.sz) (ho:o.op=.call { callee:=.value c,args:=xs,argTypes:=ats }) (hcl:clA (ev s.f c)=some (f,fs,cl)) (h:CallN1 P s f (fs++xs.toList.map (ev s.f)++cl) o.dst (OWs P en ops l K)):OWs P en ops (o::l) K s:=by
 obtain ⟨k,ys,cs,zs,ks,Q,h1,h2,h3,h4,h5,h6,h7⟩:=h
 refine ow_step hg hd (does_call1C (κ:=s.nx) ho hcl h1 h2 h3 h4 h5 h6 (mem_fresh s) fun r zs' hr=>(h7 r zs' hr).1) fun v m' ⟨r,zs',hr,e1,e2⟩=>?_
 subst e1 e2
 obtain ⟨g1,g2⟩:=h7 r zs' hr
 obtain ⟨q1,q2,_⟩:=St.back_mem s k ks zs' r g1
 exact ⟨s.back k ks zs' r,q1,q2,g2⟩
end
end Go.Proofs.YtaammoodcgfhpaaDoor.Eng
namespace Go.Proofs.YtaammoodcgfhpaaDoor.Eng
open Go Go.RowKit

theorem repD_v' {C:CellR}{x u:Value}:RepD C (.v x) u↔u=x:=by rw [RepD]

section
variable {P:Program}{o:Oper}{ρ:Operand→A}{m:Mem}{κ:Nat}
end
section
variable {P:Program}{en:En}{ops:Array Oper}{o:Oper}{l:List Oper}{K:St→Prop}{s:St}
end
theorem AC.frz {P:Program}{f:FuncId}{args:List A}{z n:Nat}{ds:List D}{es:List (List D)} (h:AC P f args none fun r _=>r=.arr z n ds) (he:es.flatten=ds) (hz:∀ e∈es,e.length=z) (hn:es.length=n):AC P f args none fun r _=>r=.d (.sl z es):=
 ⟨h.1,fun w C β F0 vs h1 h2 h3 h4=>(h.2 w C β F0 vs h1 h2 h3 h4).mono fun e w' ⟨v,r,bx',C',F,F',he',hq,hb,g1,g2,g3,g4,g5,g6,g7,g8⟩=>by
  subst hq
  cases bx' with
  | some x=>simp at hb
  | none=>
   unfold RepZ at g5
   obtain ⟨b,cap,rfl,rfl,hc1,hc2,us,ty,k1,k2,k3,k4⟩:=g5
   unfold BoxO at g6
   subst g6
   have hbn:w.heap.size≤b:=by
    rcases g8 b (by simp) with h|h
    ·exact h
    ·simp [XO] at h
   have hnl:¬Lst b:=fun hl=>by
    obtain ⟨u,hu⟩:=lst_cell h1.gl hl
    have:=cell_lt (h1.cell _ _ _ hu).1
    omega
   have hle:∀ b' o u,C' b' o u→(C' b' o u∨(b'=b∧us[o]?=some u)):=fun _ _ _ h=>.inl h
   refine ⟨_,.d (.sl z es),none,fun b' o u=>C' b' o u∨(b'=b∧us[o]?=some u),[],[],he',rfl,rfl,fun b' o u h=>.inl (g1 _ _ _ h),⟨fun b' o u hc=>?_,fun b' o u hc hl=>?_,g2.gl.mono hle,g2.tb⟩,g3,fun b' o u hc=>?_,?_,rfl,by simp [XO],fun b' hb'=>by cases hb'⟩
   ·rcases hc with hc|⟨rfl,hu⟩
    ·exact g2.cell _ _ _ hc
    ·exact ⟨by simp [World.cell?,k1,hu],k3 u (List.mem_of_getElem? hu)⟩
   ·rcases hc with hc|⟨rfl,_⟩
    ·exact g2.nf _ _ _ hc hl
    ·exact frz_of_cells k1
   ·rcases hc with hc|⟨rfl,_⟩
    ·exact g4 _ _ _ hc
    ·exact .inr (.inl hbn)
   ·unfold RepZ
    refine ⟨rfl,?_⟩
    unfold RepD
    refine ⟨_,cap,by rw [hn],by rw [hn];exact hc1,hc2,.inr ⟨b,0,rfl,?_⟩⟩
    subst he
    exact RepEs.ofList hz (RepL.mono hle _ _ k2) fun i u hu=>.inr ⟨rfl,by simpa using hu⟩⟩
end Go.Proofs.YtaammoodcgfhpaaDoor.Eng
namespace Go.Proofs.YtaammoodcgfhpaaDoor.Eng
open Go Go.RowKit

section
variable {P:Program}{en:En}{ops:Array Oper}{o:Oper}{l:List Oper}{K:St→Prop}{s:St}
end
section
variable {P:Program}{en:En}{ops:Array Oper}{o:Oper}{l:List Oper}{K:St→Prop}{s:St}
end
end Go.Proofs.YtaammoodcgfhpaaDoor.Eng
