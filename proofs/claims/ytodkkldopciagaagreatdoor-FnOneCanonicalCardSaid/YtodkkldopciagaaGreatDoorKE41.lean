/-
 The engine, part 41: regions that draw their order, whose last operations wait for all that come ahead of them.

 The engine, part 42: rows whose elements hold rows of ours: appending to them.

 The engine, part 43: a row whose elements hold a row of ours becomes a variable.

 The engine, part 44: functions that are walked in place and have loops.

 The engine, part 45: a variable's row is data from now on, too.
-/
import Derived.Test.YtodkkldopciagaaGreatDoorKE5
import Derived.Test.YtodkkldopciagaaGreatDoorKE30
set_option linter.unusedSimpArgs false
set_option linter.unusedVariables false
set_option linter.defProp false
set_option maxRecDepth 100000
set_option maxHeartbeats 4000000
namespace Go.Proofs.YtodkkldopciagaaGreatDoor.Eng
open Go Go.RowKit

section
variable {P:Program}{ops:Array Oper}
theorem suf_chain {Q:Exit→Act→World→Prop}{last:Nat} (hd:downs ops=true) (hrc:∀ j i,last≤j→j<ops.size→i<j→reach ops ops.size j i=true) :
  ∀ (suf:List Oper) (k n:Nat) (listed:Array Bool) (a:Act) (w:World),last≤k→k+suf.length=ops.size→ops.toList.drop k=suf→listed.size=ops.size→Closed ops listed→(∀ i,listed.getD i true=false↔(k≤i∧i<ops.size))→suf.length≤n→wpList P ops Q suf a w→wpAny P .any ops Q n listed a w
 | [],k,n,listed,a,w,hk,hl,hs,hz,hc,hu,hn,h=>by
  have hr:Region.ready .any ops listed=[]:=by
   cases hq:Region.ready .any ops listed with
   | nil=>rfl
   | cons j js=>
    have hj:j∈Region.ready .any ops listed:=by rw [hq];simp
    have h1:=(hu j).1 (mem_ready.1 hj).1
    simp only [List.length_nil,Nat.add_zero] at hl
    omega
  have hq:Q .normal a w:=h
  cases n with
  | zero=>exact ⟨hr,hq⟩
  | succ n=>exact ⟨fun _=>hq,fun j hj=>by rw [hr] at hj;cases hj⟩
 | o::suf,k,0,listed,a,w,hk,hl,hs,hz,hc,hu,hn,h=>by simp at hn
 | o::suf,k,n+1,listed,a,w,hk,hl,hs,hz,hc,hu,hn,h=>by
  simp only [List.length_cons] at hl hn
  have hlt:k<ops.size:=by omega
  have hget:ops[k]?=some o:=by
   have h1:ops.toList[k]?=some o:=by
    have:=congrArg (fun l:List Oper=>l[0]?) hs
    simpa using this
   simpa using h1
  have hkr:k∈Region.ready .any ops listed:=mem_ready.2 ⟨(hu k).2 ⟨Nat.le_refl _,hlt⟩,o,hget,fun e he hb=>by
   have hlo:=downs_spec hd hget e he hb
   rw [←getD_tf (by rw [hz];omega)]
   cases hq:listed.getD e.on true with
   | true=>rfl
   | false=>
    have:=(hu e.on).1 hq
    omega⟩
  refine ⟨fun hr=>(by rw [hr] at hkr;cases hkr),fun i hi=>?_⟩
  obtain ⟨h0,ox,hox,hal⟩:=mem_ready.1 hi
  have hi2:=(hu i).1 h0
  have hik:i=k:=by
   by_cases e:i=k
   ·exact e
   ·have h1:=reach_listed hc hox (hrc i k (by omega) hi2.2 (by omega)) hal
    have h2:=(hu k).2 ⟨Nat.le_refl _,hlt⟩
    rw [getD_tf (by rw [hz];omega),h1] at h2
    cases h2
  subst hik
  obtain rfl:ox=o:=Option.some.inj (hox.symm.trans hget)
  have hlt':i<listed.size:=by rw [hz];omega
  have hK:∀ a w,wpList P ops Q suf a w→wpAny P .any ops Q n (listed.setIfInBounds i true) a w:=fun a w h=>by
   refine suf_chain hd hrc suf (i+1) n _ a w (by omega) (by omega) ?_ (by simp [hz]) (fun j o' ho hl' e he hb=>?_) (fun j=>?_) (by omega) h
   ·rw [←List.drop_drop,hs];rfl
   ·by_cases hj:i=j
    ·subst hj
     rw [hox] at ho
     have:=Option.some.inj ho;subst this
     exact getD_set_true (hal e he hb)
    ·rw [getD_set_ne false hj] at hl'
     exact getD_set_true (hc j o' ho hl' e he hb)
   ·rw [set_getD hlt',hu]
    constructor
    ·rintro ⟨h1,h2⟩
     omega
    ·rintro ⟨h1,h2⟩
     exact ⟨⟨by omega,h2⟩,by omega⟩
  unfold wpOp
  rw [hox]
  simp only
  unfold wpList at h
  split
  ·rename_i hw
   rw [if_pos hw] at h
   exact h.imp (Oper.wp_mono hK) id
  ·rename_i hw
   rw [if_neg hw] at h
   exact hK _ _ h
structure LeftT (ops:Array Oper) (last:Nat) (listed:Array Bool) (l:List It):Prop where
 sz:listed.size=ops.size
 cl:Closed ops listed
 un:∀ i,listed.getD i true=false↔i∈l.map It.i∨(last≤i∧i<ops.size)
 st:l.Pairwise fun x y=>x.i<y.i
 ok:l.Pairwise fun x y=>okPair ops (x.i,x.c) (y.i,y.c)=true
 lt:∀ x∈l,x.i<last
theorem LeftT.ready {last:Nat}{listed:Array Bool}{x:It}{l:List It} (h:LeftT ops last listed (x::l)) (hlast:last≤ops.size) (hd:downs ops=true):Region.ready .any ops listed≠[]:=fun hr=>by
 have hxl:=h.lt x List.mem_cons_self
 have hlt':x.i<ops.size:=by omega
 have:x.i∈Region.ready .any ops listed:=mem_ready.2 ⟨(h.un x.i).2 (.inl (by simp)),ops[x.i],Array.getElem?_eq_getElem hlt',fun e he hb=>by
  have hlo:=downs_spec hd (Array.getElem?_eq_getElem hlt') e he hb
  rw [←getD_tf (by rw [h.sz];omega)]
  cases hq:listed.getD e.on true with
  | true=>rfl
  | false=>
   rcases (h.un e.on).1 hq with hm|hm
   ·rw [List.map_cons] at hm
    rcases List.mem_cons.1 hm with hm|hm
    ·omega
    ·obtain ⟨y,hy,hye⟩:=List.mem_map.1 hm
     have:=(List.pairwise_cons.1 h.st).1 y hy
     omega
   ·omega⟩
 rw [hr] at this
 cases this
theorem LeftT.set {last:Nat}{listed:Array Bool}{pre post:List It}{x:It} (h:LeftT ops last listed (pre++x::post)) (hr:x.i∈Region.ready .any ops listed):LeftT ops last (listed.setIfInBounds x.i true) (pre++post):=by
 have hsub:List.Sublist (pre++post) (pre++x::post):=List.Sublist.append (List.Sublist.refl _) (List.sublist_cons_self _ _)
 obtain ⟨h0,ox,hox,hal⟩:=mem_ready.1 hr
 have hlt:x.i<listed.size:=by rw [h.sz];exact (Array.getElem?_eq_some_iff.1 hox).1
 have hst:=h.st
 rw [List.pairwise_append] at hst
 have hxl:=h.lt x (by simp)
 refine ⟨by simp [h.sz],fun j o ho hl e he hb=>?_,fun i=>?_,h.st.sublist hsub,h.ok.sublist hsub,fun y hy=>h.lt y (hsub.subset hy)⟩
 ·by_cases hj:x.i=j
  ·subst hj
   rw [hox] at ho
   have:=Option.some.inj ho;subst this
   exact getD_set_true (hal e he hb)
  ·rw [getD_set_ne false hj] at hl
   exact getD_set_true (h.cl j o ho hl e he hb)
 ·rw [set_getD hlt,h.un]
  simp only [List.map_append,List.map_cons,List.mem_append,List.mem_cons]
  constructor
  ·rintro ⟨(h1|h1|h1)|h1,h2⟩
   ·exact .inl (.inl h1)
   ·exact absurd h1 h2
   ·exact .inl (.inr h1)
   ·exact .inr h1
  ·rintro ((h1|h1)|h1)
   ·obtain ⟨y,hy,rfl⟩:=List.mem_map.1 h1
    have:=hst.2.2 y hy x List.mem_cons_self
    exact ⟨.inl (.inl h1),by omega⟩
   ·obtain ⟨y,hy,rfl⟩:=List.mem_map.1 h1
    have:=(List.pairwise_cons.1 hst.2.1).1 y hy
    exact ⟨.inl (.inr (.inr h1)),by omega⟩
   ·exact ⟨.inr h1,by omega⟩
theorem any_chainT {en:En}{Q:Exit→Act→World→Prop}{fr':Nat→A}{m':Mem}{last:Nat} (hlast:last≤ops.size) (hrc:∀ j i,last≤j→j<ops.size→i<j→reach ops ops.size j i=true) (hd:downs ops=true) (hQ:∀ a w G,Sim en fr' m' a w G→wpList P ops Q (ops.toList.drop last) a w) (hds:∀ (i:Nat) o,ops[i]?=some o→∀ x,o.dst=some x→x<en.sz) :
  ∀ (n:Nat) (l:List It) (listed:Array Bool) (fr:Nat→A) (m:Mem) (a:Act) (w:World) (G:Gh),l.length+(ops.size - last)≤n→LeftT ops last listed l→Frs l m→Ch P ops l fr m fr' m'→Sim en fr m a w G→wpAny P .any ops Q n listed a w
 | n,[],listed,fr,m,a,w,G,hn,hl,hf,hc,hs=>by
  cases hc with
  | nil=>
   refine suf_chain hd hrc (ops.toList.drop last) last n listed a w (Nat.le_refl _) (by simp;omega) rfl hl.sz hl.cl (fun i=>?_) (by simp at hn ⊢;omega) (hQ a w G hs)
   rw [hl.un]
   simp
 | 0,x::l,listed,fr,m,a,w,G,hn,hl,hf,hc,hs=>by simp at hn
 | n+1,y0::l0,listed,fr,m,a,w,G,hn,hl,hf,hc,hs=>by
  refine ⟨fun hr=>absurd hr (hl.ready hlast hd),fun i hi=>?_⟩
  rcases (hl.un i).1 (mem_ready.1 hi).1 with hm|hm
  ·obtain ⟨x,hx,rfl⟩:=List.mem_map.1 hm
   obtain ⟨pre,post,hpp⟩:=List.append_of_mem hx
   rw [hpp] at hl hf hc hn
   have hg:Good fr m:=⟨hs.kf,hs.ok.lt,fun k cs hb=>by
    obtain ⟨_,_,_,h⟩:=hs.ok.box k cs hb
    exact h⟩
   have hap:∀ y∈pre,Apt ops y x:=fun y hy=>okPair_apt hl.cl ((hl.un y.i).2 (.inl (List.mem_map.2 ⟨y,by simp [hy],rfl⟩))) hi ((List.pairwise_append.1 hl.ok).2.2 y hy x (by simp))
   have hc':=hc.front hg hf hap
   have hl':=hl.set hi
   have hf':Frs (x::(pre++post)) m:=hf.perm List.perm_middle
   cases hc' with
   | @cons _ _ o _ fr1 _ _ m1 _ ho hex t=>
    refine ex_wpOp ho (hds _ o ho) (hf'.1 x (by simp)) hs hex fun a' w' G' hs'=>?_
    exact any_chainT hlast hrc hd hQ hds n (pre++post) _ fr1 m1 a' w' G' (by simp only [List.length_append,List.length_cons] at hn ⊢;omega) hl' (hf'.tail rfl hex.us) t hs'
  ·exfalso
   obtain ⟨h0,ox,hox,hal⟩:=mem_ready.1 hi
   have hxl:=hl.lt y0 List.mem_cons_self
   have h1:=reach_listed hl.cl hox (hrc i y0.i hm.1 hm.2 (by omega)) hal
   have h2:=(hl.un y0.i).2 (.inl (by simp))
   rw [getD_tf (by rw [hl.sz];omega),h1] at h2
   cases h2
end
section
variable {P:Program}{en:En}{ops:Array Oper}{s:St}
theorem aw_anyT (last:Nat) {id:Nat}{K:Exit→St→Prop} (hm:P.follows .mixedOrders=true) (hd:downs ops=true) (hlast:decide (last≤ops.size)=true) (hrc:(List.range ops.size).all (fun j=>decide (j<last) || (List.range j).all fun i=>reach ops ops.size j i)=true) (hsz:ops.toList.all (fun o=>match o.dst with|some d=>decide (d<en.sz)|none=>true)=true)
  (h:OL P ops (ops.toList.take last) [] (fun acc s'=>okAll ops (zipI acc 0)=true∧OWs P en ops (ops.toList.drop last) (K .normal) s') s):AWs P en (.region id ops true) K s:=fun a w ⟨G,hs⟩=>by
 have hlast:=of_decide_eq_true hlast
 have hdrop:ops.toList.drop ([]:List Nat).length=ops.toList.take last++ops.toList.drop last:=by simp
 obtain ⟨L,s',h1,h2,h3,h4,h5,h6⟩:=ol_chainL (ops.toList.take last) _ [] s hdrop h
 simp only [List.length_nil,List.nil_append,Nat.sub_zero] at h1 h2 h5
 have hlt0:(ops.toList.take last).length=last:=by simp;omega
 rw [hlt0] at h1
 have hlen:L.length=last:=by
  have:=congrArg List.length h1
  simpa using this
 have hx:∀ x∈L,∀ k,rng x.κ k→s.nx+16*x.i≤k∧k<s.nx+16*x.i+16:=fun x hx k hk=>by
  unfold rng at hk
  rw [←h2 x hx] at hk
  exact hk
 rw [zipI_map L 0 (by rw [h1,hlen])] at h5
 have hpw:=okAll_pw h5
 rw [List.pairwise_map] at hpw
 have hst:L.Pairwise fun x y=>x.i<y.i:=by
  have:=range'_pw 0 last
  rw [←h1,List.pairwise_map] at this
  exact this
 have hrc':∀ j i,last≤j→j<ops.size→i<j→reach ops ops.size j i=true:=fun j i hj hjs hij=>by
  rw [List.all_eq_true] at hrc
  have:=hrc j (List.mem_range.2 hjs)
  rw [Bool.or_eq_true,decide_eq_true_eq,List.all_eq_true] at this
  rcases this with h|h
  ·omega
  ·exact h i (List.mem_range.2 hij)
 refine wp_region_any hm ?_
 have hs':Sim en s.f s.mem a { w with drawn:=w.drawn+1 } G:=by
  exact ⟨⟨⟨hs.ok.cok.cell,hs.ok.cok.nf,hs.ok.cok.gl⟩,hs.ok.box,hs.ok.row,hs.ok.inj,hs.ok.lt,hs.ok.sep⟩,hs.rep,hs.kf,hs.sz,hs.df,⟨hs.fw.os,hs.fw.tape,hs.fw.output,hs.fw.size,hs.fw.block⟩,hs.c0,hs.c1,hs.lv,hs.e0,hs.p0,hs.ks,en.stab w _ (fun _ _=>rfl) hs.am,hs.az⟩
 refine any_chainT hlast hrc' hd (fun a' w' G' hs'=>h6 a' w' ⟨G',hs'⟩ _ fun s2 a2 w2 hs2 hk=>⟨s2,hs2,hk⟩) (fun i o ho x hx=>?_) ops.size L _ _ _ a _ G (by omega) ⟨by simp,?_,?_,hst,hpw,fun x hx=>?_⟩ ⟨fun x hxL k k1 k2 hk=>?_,?_⟩ h3 hs'
 ·rw [List.all_eq_true] at hsz
  have:=hsz o (by rw [Array.mem_toList_iff];exact Array.mem_of_getElem? ho)
  rw [hx] at this
  simpa using this
 ·intro j o ho hl
  by_cases hj:j<ops.size
  ·simp [hj] at hl
  ·simp [hj] at hl
 ·intro i
  rw [h1,List.mem_range']
  by_cases hi:i<ops.size
  ·simp only [hi,Array.getD_eq_getD_getElem?,Array.size_replicate,Array.getElem?_replicate,if_true,Option.getD_some,true_iff]
   by_cases e:last≤i
   ·exact .inr ⟨e,trivial⟩
   ·exact .inl ⟨i,by omega,by omega⟩
  ·simp only [hi,Array.getD_eq_getD_getElem?,Array.size_replicate,Array.getElem?_replicate,if_false,Option.getD_none,Bool.true_eq_false,false_iff]
   rintro (⟨j,hj,rfl⟩|⟨_,h⟩)
   ·omega
   ·exact h.elim
 ·have:x.i∈L.map It.i:=List.mem_map.2 ⟨x,hx,rfl⟩
  rw [h1,List.mem_range'] at this
  obtain ⟨j,hj,e⟩:=this
  omega
 ·have:=hx x hxL k ⟨k1,k2⟩
  have hk':k<s.nx:=hk
  omega
 ·refine hst.imp_of_mem ?_
  intro x y hxL hyL hxy k hk1 hk2
  have a1:=hx x hxL k hk1
  have a2:=hx y hyL k hk2
  omega
end
end Go.Proofs.YtodkkldopciagaaGreatDoor.Eng
namespace Go.Proofs.YtodkkldopciagaaGreatDoor.Eng
open Go Go.RowKit

theorem RepEsX.len {C:CellR}{p:Nat→Prop}{z:Nat}:∀ {es:List (List D)}{b o:Nat},RepEsX C p z es b o→∀ e∈es,e.length=z:=fun h=>h.es.len
theorem RepCsX.list {C:CellR}{p:Nat→Prop}:∀ {cs:List D}{b o:Nat},RepCsX C p cs b o→∃ us,RepL (C.on p) cs us∧∀ (i:Nat) u,us[i]?=some u→C b (o+i) u
 | [],b,o,_=>⟨[],by simp [RepL],fun i u h=>by simp at h⟩
 | c::cs,b,o,h=>by
  unfold RepCsX at h
  obtain ⟨⟨u,h1,h2⟩,h3⟩:=h
  obtain ⟨us,k1,k2⟩:=h3.list
  refine ⟨u::us,by unfold RepL;exact ⟨u,us,rfl,h2,k1⟩,fun i v hv=>?_⟩
  cases i with
  | zero=>simp only [List.getElem?_cons_zero,Option.some.injEq] at hv;subst hv;simpa using h1
  | succ i=>rw [List.getElem?_cons_succ] at hv;have:=k2 i v hv;rwa [show o+(i+1)=o+1+i by omega]
theorem RepEsX.list {C:CellR}{p:Nat→Prop}{z:Nat}:∀ {es:List (List D)}{b o:Nat},RepEsX C p z es b o→∃ us,RepL (C.on p) es.flatten us∧us.length=es.length*z∧∀ (i:Nat) u,us[i]?=some u→C b (o+i) u
 | [],b,o,_=>⟨[],by simp [RepL],by simp,fun i u h=>by simp at h⟩
 | e::es,b,o,h=>by
  unfold RepEsX at h
  obtain ⟨h1,h2,h3⟩:=h
  obtain ⟨us,g1,g2⟩:=h2.list
  obtain ⟨vs,k1,k2,k3⟩:=h3.list
  have hl:=g1.get.1
  refine ⟨us++vs,by rw [List.flatten_cons];exact RepL.append g1 k1,by rw [List.length_append,k2,List.length_cons,Nat.add_mul,Nat.one_mul];omega,fun i u hu=>?_⟩
  rcases Nat.lt_or_ge i us.length with hi|hi
  ·rw [List.getElem?_append_left hi] at hu
   exact g2 i u hu
  ·rw [List.getElem?_append_right hi] at hu
   have:=k3 _ u hu
   rwa [show o+i=o+z+(i - us.length) by omega]
theorem RepCsX.ofList {C:CellR}{p:Nat→Prop}:∀ {cs:List D}{us:List Value}{b o:Nat},RepL (C.on p) cs us→(∀ (i:Nat) u,us[i]?=some u→C b (o+i) u)→RepCsX C p cs b o
 | [],us,b,o,_,_=>by unfold RepCsX;trivial
 | c::cs,us,b,o,h,k=>by
  unfold RepL at h
  obtain ⟨u,us',rfl,h1,h2⟩:=h
  unfold RepCsX
  refine ⟨⟨u,by simpa using k 0 u rfl,h1⟩,RepCsX.ofList h2 fun i v hv=>?_⟩
  have:=k (i+1) v (by simpa using hv)
  rwa [show o+1+i=o+(i+1) by omega]
theorem RepEsX.ofList {C:CellR}{p:Nat→Prop}{z:Nat}:∀ {es:List (List D)}{us:List Value}{b o:Nat},(∀ e∈es,e.length=z)→RepL (C.on p) es.flatten us→(∀ (i:Nat) u,us[i]?=some u→C b (o+i) u)→RepEsX C p z es b o
 | [],us,b,o,_,_,_=>by unfold RepEsX;trivial
 | e::es,us,b,o,hz,h,k=>by
  simp only [List.flatten_cons] at h
  obtain ⟨h1,h2⟩:=h.split
  have he:=hz e (by simp)
  unfold RepEsX
  refine ⟨he,RepCsX.ofList h1 fun i u hu=>k i u ?_,RepEsX.ofList (fun e' he'=>hz e' (by simp [he'])) h2 fun i u hu=>?_⟩
  ·rw [List.getElem?_take] at hu
   split at hu
   ·exact hu
   ·cases hu
  ·rw [List.getElem?_drop] at hu
   have:=k _ u hu
   rwa [show o+z+i=o+(e.length+i) by omega]
def rawOf:List (List D)→List Value→List (List D)
 | [],_=>[]
 | e::es,xs=>(xs.take e.length).map .v::rawOf es (xs.drop e.length)
theorem rawOf_flat:∀ (es:List (List D)) (xs:List Value),xs.length=es.flatten.length→(rawOf es xs).flatten=xs.map .v
 | [],xs,h=>by
  have:xs=[]:=List.eq_nil_of_length_eq_zero (by simpa using h)
  subst this;rfl
 | e::es,xs,h=>by
  rw [List.flatten_cons,List.length_append] at h
  rw [rawOf,List.flatten_cons,rawOf_flat es _ (by rw [List.length_drop];omega),←List.map_append,List.take_append_drop]
theorem rawOf_len:∀ (es:List (List D)) (xs:List Value),(rawOf es xs).length=es.length
 | [],_=>rfl
 | e::es,xs=>by rw [rawOf,List.length_cons,List.length_cons,rawOf_len es]
theorem rawOf_z {z:Nat}:∀ (es:List (List D)) (xs:List Value),(∀ e∈es,e.length=z)→xs.length=es.flatten.length→∀ e∈rawOf es xs,e.length=z
 | [],xs,_,_,e,he=>by cases he
 | e0::es,xs,hz,h,e,he=>by
  rw [List.flatten_cons,List.length_append] at h
  rw [rawOf] at he
  have h0:=hz e0 (by simp)
  rcases List.mem_cons.1 he with rfl|he
  ·rw [List.length_map,List.length_take];omega
  ·exact rawOf_z es _ (fun e' he'=>hz e' (by simp [he'])) (by rw [List.length_drop];omega) e he
theorem RepL_raw (C:CellR):∀ vs:List Value,RepL C (vs.map .v) vs
 | []=>by simp [RepL]
 | v::vs=>by
  simp only [List.map_cons]
  unfold RepL
  exact ⟨v,vs,rfl,by unfold RepD;rfl,RepL_raw C vs⟩
theorem RepL_raw_eq {C:CellR}:∀ {xs us:List Value},RepL C (xs.map .v) us→us=xs
 | [],us,h=>by simp only [List.map_nil] at h;unfold RepL at h;exact h
 | v::vs,us,h=>by
  simp only [List.map_cons] at h
  unfold RepL at h
  obtain ⟨u,us',rfl,h1,h2⟩:=h
  unfold RepD at h1
  rw [h1,RepL_raw_eq h2]
def VwOk (m:Mem) (k:Nat):List A→List D→Prop
 | [],ds=>ds=[]
 | c::cs,ds=>∃ d ds',ds=d::ds'∧((∃ x,c=.d (.v x)∧d=.v x)∨(∃ j e z es,c=.own j e z es∧d=.sl z es∧m.al j=some (es.length,e,z)∧j≠k∧flatEs es))∧VwOk m k cs ds'
theorem vw_rep {G:Gh}{w:World}{m:Mem}{k:Nat}{p:Nat→Prop} (hok:MemOk G w m) (hp:∀ b,(∃ j,m.live j∧j≠k∧G.E j=some b)→p b):∀ {cs:List A}{ds:List D}{vs:List Value},VwOk m k cs ds→RepAL G cs vs→RepL (G.C.on p) ds vs
 | [],ds,vs,h,hr=>by
  unfold VwOk at h
  subst h
  unfold RepAL at hr
  unfold RepL
  exact hr
 | c::cs,ds,vs,h,hr=>by
  unfold VwOk at h
  obtain ⟨d,ds',rfl,h1,h2⟩:=h
  unfold RepAL at hr
  obtain ⟨u,us',rfl,h3,h4⟩:=hr
  unfold RepL
  refine ⟨u,us',rfl,?_,vw_rep hok hp h2 h4⟩
  rcases h1 with ⟨x,rfl,rfl⟩|⟨j,e,z,es,rfl,rfl,hal,hne,hfl⟩
  ·unfold RepA RepD at h3
   unfold RepD
   exact h3
  ·unfold RepA at h3
   unfold RepD
   rcases h3 with ⟨_,rfl,rfl⟩|⟨b,hE,rfl,h5,h6,h7⟩
   ·exact ⟨none,0,rfl,Nat.le_refl _,by decide,.inl rfl⟩
   ·exact ⟨_,_,rfl,h5,h6,.inr ⟨b,0,rfl,repEs_on (hp b ⟨j,.inr (by rw [hal];rfl),hne,hE⟩) hfl h7⟩⟩
theorem dec_of {G G':Gh}{m:Mem}{κ z b:Nat}{e:TypeId}{es:List (List D)}{xs vs:List Value}{ds:List D}{ks kn:List (Nat × Nat × List (List D))}{u:Value}
  (hle:G.Le m.us G') (hr:RepA G' (.own κ e z (rawOf es xs++[vs.map .v])) u) (hu:∃ n cp,u=.slice (some ⟨b,0,none⟩) n cp)
  (hxl:xs.length=es.flatten.length) (hz:∀ e∈es,e.length=z) (hvl:vs.length=z)
  (hx:RepL (G.C.on fun q=>q≠b) es.flatten xs) (hd:RepL (G.C.on fun q=>q≠b) ds vs)
  (hks:∀ p∈ks,m.us p.2.1∧∃ u',xs[p.1]?=some u'∧RepOwn G.C (G.E p.2.1) (G.cp p.2.1) 1 p.2.2 u') (hkn:∀ p∈kn,m.us p.2.1∧∃ u',vs[p.1]?=some u'∧RepOwn G.C (G.E p.2.1) (G.cp p.2.1) 1 p.2.2 u') :
  RepA G' (.dec κ e z (es++[ds]) (ks++kn.map fun p:Nat × Nat × List (List D)=>(es.length*z+p.1,p.2))) u:=by
 have hel:xs.length=es.length*z:=by rw [hxl,flatten_len hz]
 have hlen:(rawOf es xs++[vs.map D.v]).length=(es++[ds]).length:=by rw [List.length_append,List.length_append,rawOf_len];rfl
 unfold RepA at hr
 rcases hr with ⟨_,hnil,_⟩|⟨b',h1,h2,h3,h4,h5⟩
 ·exact absurd hnil (by simp)
 obtain ⟨n,cp,hu⟩:=hu
 rw [hu] at h2
 simp only [Value.slice.injEq,Option.some.injEq,Addr.mk.injEq,and_true] at h2
 obtain ⟨⟨rfl⟩,hn,hcp⟩:=h2
 obtain ⟨us,g1,g2,g3⟩:=h5.list
 have hus:us=xs++vs:=by
  rw [List.flatten_append,rawOf_flat es xs hxl,List.flatten_singleton,←List.map_append] at g1
  exact RepL_raw_eq g1
 subst hus
 have hown:∀ p:Nat × Nat × List (List D),m.us p.2.1→∀ u',RepOwn G.C (G.E p.2.1) (G.cp p.2.1) 1 p.2.2 u'→RepOwn G'.C (G'.E p.2.1) (G'.cp p.2.1) 1 p.2.2 u':=fun p hp u' h=>by
  rw [hle.E _ hp,hle.cp _ hp]
  exact h.mono hle.C
 unfold RepA
 refine ⟨b,h1,by rw [hu,hn,hcp,hlen],by rw [←hlen];exact h3,h4,RepEsX.ofList (us:=xs++vs) (fun e' he'=>?_) ?_ fun i v hv=>by have:=g3 i v hv;exact this,fun p hp=>?_⟩
 ·rcases List.mem_append.1 he' with he'|he'
  ·exact hz e' he'
  ·rw [List.mem_singleton] at he'
   subst he'
   rw [hd.get.1]
   exact hvl
 ·rw [List.flatten_append,List.flatten_singleton]
  exact RepL.append (RepL.mono (fun _ _ _ hc=>⟨hle.C _ _ _ hc.1,hc.2⟩) _ _ hx) (RepL.mono (fun _ _ _ hc=>⟨hle.C _ _ _ hc.1,hc.2⟩) _ _ hd)
 ·rcases List.mem_append.1 hp with hp|hp
  ·obtain ⟨q1,u',q2,q3⟩:=hks p hp
   refine ⟨u',?_,hown p q1 u' q3⟩
   have:=g3 p.1 u' (by rw [List.getElem?_append_left (List.getElem?_eq_some_iff.1 q2).1];exact q2)
   rwa [Nat.zero_add] at this
  ·obtain ⟨p0,hp0,rfl⟩:=List.mem_map.1 hp
   obtain ⟨q1,u',q2,q3⟩:=hkn p0 hp0
   refine ⟨u',?_,hown p0 q1 u' q3⟩
   have:=g3 (es.length*z+p0.1) u' (by rw [←hel,List.getElem?_append_right (by omega),Nat.add_sub_cancel_left];exact q2)
   rwa [Nat.zero_add] at this

section
variable {P:Program}{o:Oper}{ρ:Operand→A}{m:Mem}{κ:Nat}{t e:TypeId}{s x:Operand}{z:Nat}
theorem elt_rep {G:Gh}{w:World}{a:Act} (hok:MemOk G w m) (hr:∀ x,RepA G (ρ x) (a.eval x)) {kt:Nat}{cs:List A} (hx:ρ x=.arr kt z 1) (hb:m.bx kt=some cs) (hz:cs.length=z) :
  ∃ bt c vs,a.eval x=.slice (some ⟨bt,0,none⟩) 1 c∧RepAL G cs vs∧vs.length=1*z∧(∀ u∈vs,u.oneCell'=true)∧∀ j u,vs[j]?=some u→w.cell? (Addr.add ⟨bt,0,none⟩ j)=some u:=by
 obtain ⟨bt,h1,⟨vs,ty,h2,h3,h4,h5⟩,h6⟩:=hok.box kt cs hb
 have hxr:=hr x
 rw [hx] at hxr
 unfold RepA at hxr
 obtain ⟨b',c,g1,g2,g3,g4⟩:=hxr
 rw [h1] at g1
 have:=Option.some.inj g1;subst this
 refine ⟨bt,c,vs,g2,h3,by rw [Nat.one_mul,←hz];exact h3.get.1.symm,h4,fun j u hj=>?_⟩
 rw [addr_add,Nat.zero_add,cell_of_row w bt j _ ty (0,0) h2]
 simpa using hj
theorem does_appD0 {kt:Nat}{cs:List A}{ds:List D} (kn:List (Nat × Nat × List (List D))) (h:o.op=.call { callee:=.builtin .append,args:=#[s,x],argTypes:=#[t,t] }) (ht:tyElem P t=some e) (he:tyRow P e=some z) (hs:ρ s=.d (.v (.slice none 0 0))) (hx:ρ x=.arr kt z 1) (hb:m.bx kt=some cs) (hz:cs.length=z)
  (hv:VwOk m κ cs ds) (hkn:∀ p∈kn,∃ e',cs[p.1]?=some (.own p.2.1 e' 1 p.2.2)) (hf:m.fresh κ):Does P o ρ m (.dec κ e z [ds] kn) (m.row κ 1 e z):=fun G w a hok hr hlt Kc Q hK=>by
 have hsv:=v_rep hs hr
 obtain ⟨bt,c,vs,hu,hra,hl,h1,hc⟩:=elt_rep hok hr hx hb hz
 obtain ⟨i,zv,hi,hzv,hsz,hzc,hpos,hby⟩:=tyRow_spec he
 have htu:=tyElem_run ht
 have hlcs:A.ltL m.us cs:=by obtain ⟨_,_,_,h⟩:=hok.box kt cs hb;exact h
 have hkn':∀ p∈kn,m.us p.2.1∧∃ u',vs[p.1]?=some u'∧RepOwn G.C (G.E p.2.1) (G.cp p.2.1) 1 p.2.2 u':=fun p hp=>by
  obtain ⟨e',hc'⟩:=hkn p hp
  obtain ⟨u',q1,q2⟩:=hra.get.2 p.1 _ hc'
  refine ⟨?_,u',q1,by unfold RepA at q2;exact q2⟩
  have:=ltL_get hlcs _ _ hc'
  unfold A.lt at this
  exact this
 have hg:=grownPost (es:=[]) (es2:=[vs.map D.v]) (xs:=[]) (news:=vs) (old:=0) (e:=e) (κ:=κ) hok hf hzc (by simp [RepL]) (by simp) (by simp) (by simp) (by rw [List.flatten_singleton];exact RepL_raw _ _) h1 (by simpa using hl) (fun y hy=>by rw [List.mem_singleton] at hy;subst hy;rw [List.length_map];omega) (by simp) (tyRow_one he hi hzv)
 simp only [List.nil_append,List.length_nil,Nat.zero_add,Array.empty_append,List.length_singleton] at hg
 obtain ⟨G',e1,e2,e3⟩:=hg
 have hdec:=dec_of (es:=[]) (xs:=[]) (vs:=vs) (ds:=ds) (ks:=[]) (kn:=kn) (b:=w.heap.size) e1.le e3 ⟨_,_,rfl⟩ rfl (by simp) (by omega) (by simp [RepL]) (vw_rep hok (fun b ⟨j,hj,_,hE⟩=>by have:=Mine.lt hok ⟨j,hj,hE⟩;omega) hv hra) (fun p hp=>by cases hp) hkn'
 have hkm:(kn.map fun p:Nat × Nat × List (List D)=>(([]:List (List D)).length*z+p.1,p.2))=kn:=by simp
 rw [hkm] at hdec
 simp only [List.nil_append] at hdec
 refine wp_append h ?_ (hK _ _ G' e1 e2 hdec ?_)
 ·rw [hsv,hu]
  exact run_append_nil (P:=P) w t o.type e i zv htu hi hzv ⟨bt,0,none⟩ 1 c vs (by rw [hsz];exact hl) hc (by omega) (by omega) (by have h4:1*i.bytes≤4096:=(by omega);omega)
 ·unfold A.lt
  exact ⟨.inr ⟨Nat.le_refl _,by omega⟩,fun p hp=>.inl (hkn' p hp).1⟩
theorem does_appD {k kt:Nat}{es:List (List D)}{ks:List (Nat × Nat × List (List D))}{cs:List A}{ds:List D} (kn:List (Nat × Nat × List (List D))) (h:o.op=.call { callee:=.builtin .append,args:=#[s,x],argTypes:=#[t,t] }) (ht:tyElem P t=some e) (he:tyRow P e=some z) (hs:ρ s=.dec k e z es ks) (hal:m.al k=some (es.length,e,z)) (hx:ρ x=.arr kt z 1) (hb:m.bx kt=some cs) (hz:cs.length=z)
  (hv:VwOk m k cs ds) (hkn:∀ p∈kn,∃ e',cs[p.1]?=some (.own p.2.1 e' 1 p.2.2)) (hm:es.length+1≤268435456) (hf:m.fresh κ) :
  Does P o ρ m (.dec κ e z (es++[ds]) (ks++kn.map fun p:Nat × Nat × List (List D)=>(es.length*z+p.1,p.2))) ((m.drop k).row κ (es.length+1) e z):=fun G w a hok hr hlt Kc Q hK=>by
 have hsr:=hr s
 rw [hs] at hsr
 unfold RepA at hsr
 obtain ⟨g,hE,hsv,hncap,hcm,hesX,hksX⟩:=hsr
 obtain ⟨bt,c,vs,hu,hra,hl,h1,hc⟩:=elt_rep hok hr hx hb hz
 obtain ⟨i,zv,hi,hzv,hsz,hzc,hpos,hby⟩:=tyRow_spec he
 have htu:=tyElem_run ht
 have hlcs:A.ltL m.us cs:=by obtain ⟨_,_,_,h⟩:=hok.box kt cs hb;exact h
 have hlts:=hlt s
 rw [hs] at hlts
 unfold A.lt at hlts
 have hkn':∀ p∈kn,m.us p.2.1∧∃ u',vs[p.1]?=some u'∧RepOwn G.C (G.E p.2.1) (G.cp p.2.1) 1 p.2.2 u':=fun p hp=>by
  obtain ⟨e',hc'⟩:=hkn p hp
  obtain ⟨u',q1,q2⟩:=hra.get.2 p.1 _ hc'
  refine ⟨?_,u',q1,by unfold RepA at q2;exact q2⟩
  have:=ltL_get hlcs _ _ hc'
  unfold A.lt at this
  exact this
 obtain ⟨cur,hg,hcs,⟨_,hco⟩,hnc⟩:=hok.row k es.length e z hal g hE
 obtain ⟨xs,x1,x2,x3⟩:=hesX.list
 have hes:=hesX.es
 have hez:=hes.len
 have hxl:xs.length=es.flatten.length:=x1.get.1.symm
 have hone:∀ v∈xs,v.oneCell'=true:=fun v hv=>by
  obtain ⟨j,hj⟩:=List.getElem?_of_mem hv
  exact (hok.cell _ _ _ (x3 j v hj)).2
 have hks':∀ p∈ks,m.us p.2.1∧∃ u',xs[p.1]?=some u'∧RepOwn G.C (G.E p.2.1) (G.cp p.2.1) 1 p.2.2 u':=fun p hp=>by
  obtain ⟨u',q1,q2⟩:=hksX p hp
  refine ⟨hlts.2 p hp,u',?_,q2⟩
  have hlt:p.1<es.length*z:=by
   rcases Nat.lt_or_ge p.1 (es.length*z) with h|h
   ·exact h
   ·exact (hnc p.1 u' h q1).elim
  have hq:xs[p.1]?=some xs[p.1]:=List.getElem?_eq_getElem (by omega)
  have c1:=(hok.cell _ _ _ (x3 p.1 _ hq)).1
  rw [Nat.zero_add,(hok.cell _ _ _ q1).1] at c1
  rw [hq,←Option.some.inj c1]
 have hklive:m.live k:=.inr (by rw [hal];rfl)
 have hraw:RepEs G.C z (rawOf es xs) g 0:=RepEs.ofList (us:=xs) (rawOf_z es xs hez hxl) (by rw [rawOf_flat es xs hxl];exact RepL_raw _ _) (fun i u hi=>x3 i u hi)
 have hrl:(rawOf es xs).length=es.length:=rawOf_len es xs
 have hrn:(rawOf es xs++[vs.map D.v]).length=es.length+1:=by rw [List.length_append,hrl];rfl
 have hz2:∀ e∈[vs.map D.v],e.length=z:=fun y hy=>by rw [List.mem_singleton] at hy;subst hy;rw [List.length_map];omega
 have hlo:(A.dec κ e z (es++[ds]) (ks++kn.map fun p:Nat × Nat × List (List D)=>(es.length*z+p.1,p.2))).lt ((m.drop k).row κ (es.length+1) e z).us:=by
  unfold A.lt
  refine ⟨.inr ⟨Nat.le_refl _,by omega⟩,fun p hp=>?_⟩
  rcases List.mem_append.1 hp with hp|hp
  ·exact .inl (hlts.2 p hp)
  ·obtain ⟨p0,hp0,rfl⟩:=List.mem_map.1 hp
   exact .inl (hkn' p0 hp0).1
 have hbytes:(es.length+1)*i.bytes≤140737488355328:=by
  have:(es.length+1)*i.bytes≤268435456*4096:=Nat.mul_le_mul hm hby
  omega
 by_cases hroom:es.length+1≤G.cp k
 ·have hro:=roomOk (es:=rawOf es xs) (es2:=[vs.map D.v]) (news:=vs) (mm:=1) hok hf hal hrl.symm hE rfl hg hcs hraw hnc hcm hl rfl (by rw [List.flatten_singleton];exact RepL_raw _ _) h1 hz2 hroom hco
  rw [hrn] at hro
  obtain ⟨G',e1,e2,e3⟩:=hro
  have hle:G.Le m.us G':=e1.le
  have hdec:=dec_of (es:=es) (xs:=xs) (vs:=vs) (ds:=ds) (ks:=ks) (kn:=kn) (b:=g) hle e3 ⟨_,_,rfl⟩ hxl hez (by omega) x1 (vw_rep hok (fun b ⟨j,hj,hne,hEj⟩ e'=>hne (hok.inj j k g hj hklive (e'▸hEj) hE)) hv hra) hks' hkn'
  refine wp_append h ?_ (hK _ _ G' e1 e2 hdec hlo)
  rw [hsv,hu]
  have:=run_append_room (P:=P) w t o.type e i htu hi g es.length (G.cp k) cur hg ⟨bt,0,none⟩ 1 c vs (by rw [hsz];exact hl) hc h1 hroom (by rw [hsz,hl,hcs,←Nat.add_mul];exact Nat.mul_le_mul_right _ hroom)
  rw [hsz] at this
  exact this
 ·have hgr:=grownPost (es:=rawOf es xs) (es2:=[vs.map D.v]) (xs:=xs) (news:=vs) (old:=G.cp k) (e:=e) (κ:=κ) (hok.dropRow k) (m:=m.drop k) hf hzc (by rw [rawOf_flat es xs hxl];exact RepL_raw _ _) hone (by rw [hrl];exact x2) (rawOf_z es xs hez hxl) (by rw [List.flatten_singleton];exact RepL_raw _ _) h1 (by simpa using hl) hz2 (by rw [hrl];exact hm) (tyRow_one he hi hzv)
  rw [hrn] at hgr
  obtain ⟨G',e1,e2,e3⟩:=hgr
  have hlow:∀ b o u,G.C b o u→(G.C.on fun q=>q≠w.heap.size) b o u:=fun b o u hc=>⟨hc,fun e'=>by have:=hok.lt_size hc;omega⟩
  have hdec:=dec_of (m:=m) (es:=es) (xs:=xs) (vs:=vs) (ds:=ds) (ks:=ks) (kn:=kn) (b:=w.heap.size) e1.le e3 ⟨_,_,rfl⟩ hxl hez (by omega) (RepL.mono (fun b o u hc=>hlow b o u hc.1) _ _ x1) (RepL.mono (fun b o u hc=>hlow b o u hc.1) _ _ (vw_rep (p:=fun _=>True) hok (fun _ _=>trivial) hv hra)) hks' hkn'
  refine wp_append h ?_ (hK _ _ G' ((Evo.drop k).trans e1) e2 hdec hlo)
  rw [hsv,hu]
  have hrun:=run_append_grow (P:=P) w t o.type e i zv htu hi hzv ⟨g,0,none⟩ es.length (G.cp k) xs (by rw [hsz];exact x2) (fun j v hj=>by rw [addr_add];exact (hok.cell _ _ _ (x3 j v hj)).1) ⟨bt,0,none⟩ 1 c vs (by rw [hsz];exact hl) hc (by omega) (by omega) (growslice_fits (by omega) hbytes)
  simp only [hrl,List.length_singleton] at *
  exact hrun
end
section
variable {P:Program}{en:En}{ops:Array Oper}{o:Oper}{l:List Oper}{K:St→Prop}{s:St}
theorem ow_appD0 {t e:TypeId}{y x:Operand}{z kt:Nat}{cs:List A}{ds:List D} (kn:List (Nat × Nat × List (List D))) (hg:Wanted s ops o) (hd:∀ x,o.dst=some x→x<en.sz) (h:o.op=.call { callee:=.builtin .append,args:=#[y,x],argTypes:=#[t,t] }) (ht:tyElem P t=some e) (he:tyRow P e=some z)
  (hs:ev s.f y=.d (.v (.slice none 0 0))) (hx:ev s.f x=.arr kt z 1) (hb:lk none s.bx kt=some cs) (hz:cs.length=z) (hv:VwOk s.mem s.nx cs ds) (hkn:∀ p∈kn,∃ e',cs[p.1]?=some (.own p.2.1 e' 1 p.2.2))
  (hK:OWs P en ops l K ({ s with al:=(s.nx,some (1,e,z))::s.al,nx:=s.nx+16 }.set o.dst (.dec s.nx e z [ds] kn))):OWs P en ops (o::l) K s:=
 ow_does hg hd (does_appD0 kn h ht he hs hx hb hz hv hkn (mem_fresh s)) { s with al:=(s.nx,some (1,e,z))::s.al,nx:=s.nx+16 } (by rw [St.mem_bump (s:=s) (h:=rfl),lk_cons];rfl) rfl hK
theorem ow_appD {t e:TypeId}{y x:Operand}{z k kt:Nat}{es:List (List D)}{ks:List (Nat × Nat × List (List D))}{cs:List A}{ds:List D} (kn:List (Nat × Nat × List (List D))) (hg:Wanted s ops o) (hd:∀ x,o.dst=some x→x<en.sz) (h:o.op=.call { callee:=.builtin .append,args:=#[y,x],argTypes:=#[t,t] }) (ht:tyElem P t=some e) (he:tyRow P e=some z)
  (hs:ev s.f y=.dec k e z es ks) (hal:lk none s.al k=some (es.length,e,z)) (hx:ev s.f x=.arr kt z 1) (hb:lk none s.bx kt=some cs) (hz:cs.length=z) (hv:VwOk s.mem k cs ds) (hkn:∀ p∈kn,∃ e',cs[p.1]?=some (.own p.2.1 e' 1 p.2.2)) (hm:es.length+1≤268435456)
  (hK:OWs P en ops l K ({ s with al:=(s.nx,some (es.length+1,e,z))::(k,none)::s.al,nx:=s.nx+16 }.set o.dst (.dec s.nx e z (es++[ds]) (ks++kn.map fun p:Nat × Nat × List (List D)=>(es.length*z+p.1,p.2))))):OWs P en ops (o::l) K s:=
 ow_does hg hd (does_appD kn h ht he hs hal hx hb hz hv hkn hm (mem_fresh s)) { s with al:=(s.nx,some (es.length+1,e,z))::(k,none)::s.al,nx:=s.nx+16 } (by rw [St.mem_bump (s:=s) (h:=rfl),lk_cons,lk_cons];rfl) rfl hK
variable {acc:List Nat}{K2:List Nat→St→Prop}
theorem ol_call1z {f:FuncId}{xs:Array Operand}{ats:Array TypeId}{k:Nat}{ys:List A}{ds ds':List D}{r:Rz} (hg:match o.guard with|none=>True|some (g,want)=>guardB s ops g=some want) (ho:o.op=.call { callee:=.value (.func f),args:=xs,argTypes:=ats }) (hc:AC P f ys (some (ds.map .d)) fun r' b=>r'=r∧b=some (ds'.map .d)) (hk:r.nk≤16)
  (h1:argsOf (some k) (xs.toList.map (ev s.f))=some ys) (h2:lk none s.bx k=some (ds.map .d)) (h8:∃ o,A.ptr k o∈xs.toList.map (ev s.f)) (h:OL P ops l (acc++[5+2*k]) K2 (({ s with bx:=(k,some (ds'.map .d))::s.bx }:St).got r o.dst)):OL P ops (o::l) acc K2 s:=by
 obtain ⟨a1,a2,a3,a4⟩:=Rz.addS_mem r s.nx ({ s with bx:=(k,some (ds'.map .d))::s.bx }:St) (s.mem.put k (ds'.map .d)) (by rw [lk_cons];rfl) rfl
 have hmem:({ r.addS s.nx ({ s with bx:=(k,some (ds'.map .d))::s.bx }:St) with nx:=s.nx+16 }:St).mem=(r.add s.nx (s.mem.put k (ds'.map .d))).bump s.nx:=by
  unfold St.mem Mem.bump
  rw [←a1,←a2]
  congr 1
  funext j
  apply propext
  have h5:(r.add s.nx (s.mem.put k (ds'.map .d))).us j↔j<s.nx∨(s.nx≤j∧j<s.nx+r.nk):=a4 j
  show j<s.nx+16↔(r.add s.nx (s.mem.put k (ds'.map .d))).us j∨(s.nx≤j∧j<s.nx+16)
  rw [h5]
  omega
 have hfr:({ r.addS s.nx ({ s with bx:=(k,some (ds'.map .d))::s.bx }:St) with nx:=s.nx+16 }:St).f=s.f:=by
  show lk .top (r.addS s.nx ({ s with bx:=(k,some (ds'.map .d))::s.bx }:St)).fr=lk .top s.fr
  rw [a3]
 refine ⟨5+2*k,_,?_,(St.set_nx _ _ _).trans rfl,h⟩
 show Ex P ops s.nx (5+2*k) o s.f s.mem (St.set ({ r.addS s.nx ({ s with bx:=(k,some (ds'.map .d))::s.bx }:St) with nx:=s.nx+16 }:St) o.dst (r.toA s.nx)).f (St.set ({ r.addS s.nx ({ s with bx:=(k,some (ds'.map .d))::s.bx }:St) with nx:=s.nx+16 }:St) o.dst (r.toA s.nx)).mem
 rw [St.set_f,St.set_mem,hmem,hfr]
 refine .run (fun g want hg'=>?_) (by rw [ho];exact .call1z h1 h2 hc hk h8)
 rw [hg'] at hg
 simp only at hg
 unfold guardB at hg
 split at hg
 ·rename_i t ht
  refine ⟨t,ht,?_⟩
  split at hg
  ·rename_i b hb
   show s.f t=_
   rw [hb,Option.some.inj hg]
  ·cases hg
 ·cases hg
theorem ol_bsliceA {t e:TypeId}{z:Nat}{x:Operand}{cs:List A} (hg:match o.guard with|none=>True|some (g,want)=>guardB s ops g=some want) (h:o.op=.buildSlice t 1 #[(0,x)]) (ht:tyElem P t=some e) (he:tyRow P e=some z) (hx:cells1 (ev s.f x)=some cs) (hz:cs.length=z) (hl:z≤16777216)
  (hK:OL P ops l (acc++[2]) K2 ({ s with bx:=(s.nx,some cs)::s.bx,nx:=s.nx+16 }.set o.dst (.arr s.nx z 1))):OL P ops (o::l) acc K2 s:=by
 refine ⟨2,_,?_,(St.set_nx _ _ _).trans rfl,hK⟩
 rw [St.set_f,St.set_mem,St.mem_bump (s:=s) (h:=rfl),lk_cons]
 refine .run (fun g want hg'=>?_) (by rw [h];exact .bsliceA ht he hx hz hl)
 rw [hg'] at hg
 simp only at hg
 unfold guardB at hg
 split at hg
 ·rename_i t ht
  refine ⟨t,ht,?_⟩
  split at hg
  ·rename_i b hb
   show s.f t=_
   rw [hb,Option.some.inj hg]
  ·cases hg
 ·cases hg
end
end Go.Proofs.YtodkkldopciagaaGreatDoor.Eng
namespace Go.Proofs.YtodkkldopciagaaGreatDoor.Eng
open Go Go.RowKit

def KpL (N:Nat):List A→Prop
 | []=>True
 | x::xs=>Safe (fun b=>N≤b) x∧KpL N xs
theorem KpL.rep {N:Nat}{G:Gh}{C':CellR} (hC:∀ b o v,G.C b o v→¬N≤b→C' b o v):∀ {xs:List A}{us:List Value},KpL N xs→RepAL G xs us→RepAL { G with C:=C' } xs us
 | [],us,_,h=>by unfold RepAL at h ⊢;exact h
 | x::xs,us,k,h=>by
  unfold KpL at k
  unfold RepAL at h ⊢
  obtain ⟨u,us',rfl,h1,h2⟩:=h
  exact ⟨u,us',rfl,k.1 G C' u hC h1,KpL.rep hC k.2 h2⟩
def KpB (s:St) (N:Nat):List (Nat × Option (List A))→Prop
 | []=>True
 | (k,o)::r=>(∃ cs,o=some cs∧lk none s.bx k=some cs∧KpL N cs)∧KpB s N r
theorem KpB.get {s:St}{N:Nat}:∀ {bs:List (Nat × Option (List A))},KpB s N bs→∀ {k:Nat}{cs:List A},lk none bs k=some cs→lk none s.bx k=some cs∧KpL N cs
 | [],_,k,cs,h=>by simp [lk] at h
 | (k0,o)::r,hb,k,cs,h=>by
  unfold KpB at hb
  rw [lk_cons] at h
  by_cases e:k=k0
  ·subst e
   rw [upd_same] at h
   obtain ⟨cs0,h1,h2,h3⟩:=hb.1
   rw [h1] at h
   have:=Option.some.inj h;subst this
   exact ⟨h2,h3⟩
  ·rw [upd_ne _ _ e] at h
   exact hb.2.get h
structure Own1' (en:En) (s:St):Prop where
 cok:Cok en.C en.w
 X:∀ b,en.X b→en.E 0=some b
 ks:en.ks 0
 b0:(lk none s.bx 0).isSome=true
theorem RepAL_dec {G:Gh}{C':CellR}{k':Nat}{e':TypeId}{es':List (List D)}:∀ (ds:List D) (xs:List Value) (i:Nat),RepL C' ds xs→(∀ u,xs[i]?=some u→RepA { G with C:=C' } (.own k' e' 1 es') u)→RepAL { G with C:=C' } ((ds.map A.d).set i (.own k' e' 1 es')) xs
 | [],xs,i,h,_=>by
  unfold RepL at h
  subst h
  simp [RepAL]
 | d::ds,xs,i,h,hi=>by
  unfold RepL at h
  obtain ⟨u,us',rfl,h1,h2⟩:=h
  cases i with
  | zero=>
   simp only [List.map_cons,List.set_cons_zero]
   unfold RepAL
   exact ⟨u,us',rfl,hi u rfl,RepL_map (G:={ G with C:=C' }) h2⟩
  | succ i=>
   simp only [List.map_cons,List.set_cons_succ]
   unfold RepAL
   exact ⟨u,us',rfl,by unfold RepA;exact h1,RepAL_dec ds us' i h2 fun v hv=>hi v (by simpa using hv)⟩
theorem ltL_set {n:Nat→Prop}{x:A} (h:A.lt n x):∀ {xs:List A}{i:Nat},A.ltL n xs→A.ltL n (xs.set i x)
 | [],i,k=>by simpa using k
 | y::ys,0,k=>by
  simp only [List.set_cons_zero]
  unfold A.ltL at k ⊢
  exact ⟨h,k.2⟩
 | y::ys,i+1,k=>by
  simp only [List.set_cons_succ]
  unfold A.ltL at k ⊢
  exact ⟨k.1,ltL_set h k.2⟩
theorem lk_keep (s:St) (ts:List Nat) (t:Nat):lk .top (ts.map fun t=>(t,s.f t)) t=if t∈ts then s.f t else .top:=by
 induction ts with
 | nil=>simp [lk]
 | cons w ws ih=>
  rw [List.map_cons,lk_cons]
  by_cases h:t=w
  ·subst h;simp
  ·rw [upd_ne _ _ h,ih];simp [h]
section
variable {P:Program}{en:En}{s:St}
theorem simS_thaw {κd κ z i k':Nat}{e e':TypeId}{es es':List (List D)} (ts:List Nat) (bs:List (Nat × Option (List A))) (ho:Own1' en s) (h0:κ≠0) (hd:lk none s.bx κd=some [.dec κ e z es [(i,k',es')]]) (hal:lk none s.al κ=some (es.length,e,z)) (hal':lk none s.al k'=some (es'.length,e',1)) (hne:k'≠κ) (hfl:flatEs es') (hi:i<es.length*z)
  (hts:SafeTs (fun b=>en.w.heap.size≤b) s ts) (hbs:KpB s en.w.heap.size bs) (hks:∀ k,en.ks k→k=0)
  {a:Act}{w:World} (hs:SimS en s a w):∃ tl:List Value,SimS en { fr:=ts.map (fun t=>(t,s.f t)),bx:=(κd,some [.arr κ z es.length])::(κ,some ((es.flatten.map A.d).set i (.own k' e' 1 es')++tl.map fun x=>A.d (.v x)))::bs,al:=[(k',some (es'.length,e',1))],nx:=s.nx } a w:=by
 obtain ⟨G,hG⟩:=hs
 have hκl:s.mem.live κ:=.inr (by rw [show s.mem.al κ=some (es.length,e,z) from hal];rfl)
 have hk'l:s.mem.live k':=.inr (by rw [show s.mem.al k'=some (es'.length,e',1) from hal'];rfl)
 have hdl:s.mem.live κd:=.inl (by rw [show s.mem.bx κd=some _ from hd];rfl)
 have hdal:s.mem.al κd=none:=hG.ok.sep κd (by rw [show s.mem.bx κd=some _ from hd];rfl)
 have hκd:κ≠κd:=fun e1=>by
  rw [←e1,show s.mem.al κ=some (es.length,e,z) from hal] at hdal
  cases hdal
 have hk'd:k'≠κd:=fun e1=>by
  rw [←e1,show s.mem.al k'=some (es'.length,e',1) from hal'] at hdal
  cases hdal
 have h0l:s.mem.live 0:=.inl ho.b0
 obtain ⟨bd,hEd,⟨vd,tyd,d1,d2,d3,d4⟩,d5⟩:=hG.ok.box κd _ hd
 unfold RepAL RepAL at d2
 obtain ⟨u0,us0,rfl,d2,rfl⟩:=d2
 unfold RepA at d2
 obtain ⟨b,hE,rfl,hn,hm,hX,hK⟩:=d2
 have hbN:en.w.heap.size≤b:=by
  rcases hG.lv b ⟨κ,hκl,hE⟩ with h|h
  ·exact h
  ·have h2:G.E 0=some b:=(hG.e0 0 ho.ks).trans (ho.X b h)
   exact absurd (hG.ok.inj κ 0 b hκl h0l hE h2) h0
 obtain ⟨cur,c1,c2,⟨c3,c3'⟩,c4⟩:=hG.ok.row κ _ _ _ hal b hE
 obtain ⟨xs,x1,x2,x3⟩:=hX.list
 have hcx:∀ (j:Nat) u,xs[j]?=some u→cur[j]?=some u:=fun j u hj=>by
  have:=(hG.ok.cell _ _ _ (x3 j u hj)).1
  rw [Nat.zero_add,cell_of_row w b j cur e (0,0) c1] at this
  exact this
 have hle:es.length*z≤cur.size:=by rw [c2];exact Nat.mul_le_mul_right _ c3
 have hcur:cur.toList=xs++cur.toList.drop xs.length:=by
  apply List.ext_getElem?
  intro j
  rcases Nat.lt_or_ge j xs.length with hj|hj
  ·rw [List.getElem?_append_left hj,List.getElem?_eq_getElem hj]
   have:=hcx j _ (List.getElem?_eq_getElem hj)
   simpa using this
  ·rw [List.getElem?_append_right hj,List.getElem?_drop]
   congr 1
   omega
 let C':CellR:=G.C.on fun q=>q≠b
 have hlow:∀ b' o v,G.C b' o v→¬en.w.heap.size≤b'→C' b' o v:=fun b' o v h q=>⟨h,fun e'=>q (e'▸hbN)⟩
 have hnb:∀ {j b':Nat},s.mem.live j→j≠κ→G.E j=some b'→b'≠b:=fun hj hne' hE' e'=>hne' (hG.ok.inj _ _ b hj hκl (e'▸hE') hE)
 obtain ⟨s',hs'⟩:∃ s':St,s'={ fr:=ts.map (fun t=>(t,s.f t)),bx:=(κd,some [.arr κ z es.length])::(κ,some ((es.flatten.map A.d).set i (.own k' e' 1 es')++(cur.toList.drop xs.length).map fun x=>A.d (.v x)))::bs,al:=[(k',some (es'.length,e',1))],nx:=s.nx }:=⟨_,rfl⟩
 have hbxc:∀ k,(s'.mem.bx k).isSome=true→k=κd∨k=κ∨(lk none s.bx k).isSome=true:=fun k hk=>by
  have hk2:(lk none s'.bx k).isSome=true:=hk
  rw [hs'] at hk2
  simp only at hk2
  rw [lk_cons] at hk2
  by_cases e1:k=κd
  ·exact .inl e1
  ·rw [upd_ne _ _ e1,lk_cons] at hk2
   by_cases e2:k=κ
   ·exact .inr (.inl e2)
   ·rw [upd_ne _ _ e2] at hk2
    obtain ⟨cs,hc⟩:=Option.isSome_iff_exists.1 hk2
    exact .inr (.inr (by rw [(hbs.get hc).1];rfl))
 have halc:∀ k,k≠k'→s'.mem.al k=none:=fun k hk=>by
  show lk none s'.al k=none
  rw [hs']
  simp only
  rw [lk_cons,upd_ne _ _ hk]
  rfl
 have hlv:∀ k,s'.mem.live k→s.mem.live k:=fun k hk=>by
  rcases hk with hk|hk
  ·rcases hbxc k hk with e1|e1|e1
   ·subst e1;exact hdl
   ·subst e1;exact hκl
   ·exact .inl e1
  ·by_cases e1:k=k'
   ·subst e1;exact hk'l
   ·rw [halc k e1] at hk;cases hk
 refine ⟨cur.toList.drop xs.length,?_⟩
 rw [←hs']
 refine ⟨{ G with C:=C' },⟨⟨⟨fun b' o u h=>hG.ok.cell b' o u h.1,fun b' o u h hl=>hG.ok.cok.nf b' o u h.1 hl,?_⟩,fun k cs hk=>?_,fun k n' e2 z2 hk b' hb'=>?_,fun k1 k2 b' hk1 hk2=>?_,fun k hk=>?_,fun k hk=>?_⟩,fun t=>?_,fun t=>?_,hG.sz,hG.df,hG.fw,fun b' o u h=>?_,fun b' o u h hb hx=>hG.c1 b' o u h.1 hb hx,fun b' hb'=>?_,hG.e0,hG.p0,fun k hk=>(by rw [hs'];exact hG.ks k hk),hG.am,fun b' hb'=>?_⟩⟩
 ·exact ho.cok.gl.mono fun b' o u h=>hlow b' o u (hG.c0 b' o u h) fun q=>by
   have:=cell_lt (ho.cok.cell _ _ _ h).1
   omega
 ·have hk':lk none ((κd,some [A.arr κ z es.length])::(κ,some ((es.flatten.map A.d).set i (.own k' e' 1 es')++(cur.toList.drop xs.length).map fun x=>A.d (.v x)))::bs) k=some cs:=by rw [hs'] at hk;exact hk
  rw [show s'.mem.us=s.mem.us by rw [hs'];rfl]
  rw [lk_cons] at hk'
  by_cases e1:k=κd
  ·subst e1
   rw [upd_same] at hk'
   have:=Option.some.inj hk';subst this
   refine ⟨bd,hEd,⟨_,tyd,d1,?_,d3,fun j u hc=>d4 j u hc.1⟩,?_⟩
   ·unfold RepAL RepAL
    refine ⟨_,[],rfl,?_,rfl⟩
    unfold RepA
    exact ⟨b,G.cp κ,hE,rfl,hn,hm⟩
   ·unfold A.ltL A.ltL A.lt
    exact ⟨hG.ok.lt κ hκl,trivial⟩
  ·rw [upd_ne _ _ e1,lk_cons] at hk'
   by_cases e2:k=κ
   ·subst e2
    rw [upd_same] at hk'
    have:=Option.some.inj hk';subst this
    refine ⟨b,hE,⟨cur.toList,e,by simpa using c1,?_,c3',fun j u hc=>hc.2 rfl⟩,?_⟩
    ·rw [hcur]
     refine RepAL.append (RepAL_dec es.flatten xs i x1 fun u hu=>?_) ?_
     ·obtain ⟨u',q1,q2⟩:=hK (i,k',es') (by simp)
      have q3:=x3 i u hu
      rw [Nat.zero_add] at q3
      have c5:=(hG.ok.cell _ _ _ q1).1
      rw [(hG.ok.cell _ _ _ q3).1] at c5
      have:=Option.some.inj c5;subst this
      unfold RepA
      rcases q2 with ⟨r1,r2,r3⟩|⟨b2,r1,r2,r3,r4,r5⟩
      ·exact .inl ⟨r1,r2,r3⟩
      ·exact .inr ⟨b2,r1,r2,r3,r4,repEs_on (p:=fun q=>q≠b) (hnb hk'l hne r1) hfl r5⟩
     ·rw [←hcur]
      exact RepAL_v _
    ·refine ltL_append ?_ ?_
     ·refine ltL_set ?_ (ltL_map _)
      unfold A.lt
      exact hG.ok.lt k' hk'l
     ·rw [show (cur.toList.drop xs.length).map (fun x=>A.d (.v x))=((cur.toList.drop xs.length).map D.v).map A.d by rw [List.map_map];rfl]
      exact ltL_map _
   ·rw [upd_ne _ _ e2] at hk'
    obtain ⟨g1,g2⟩:=hbs.get hk'
    obtain ⟨b1,q1,⟨vs,ty,q2,q3,q4,q5⟩,q6⟩:=hG.ok.box k cs g1
    exact ⟨b1,q1,⟨vs,ty,q2,g2.rep hlow q3,q4,fun j u hc=>q5 j u hc.1⟩,q6⟩
 ·have hk1:lk none [(k',some (es'.length,e',1))] k=some (n',e2,z2):=by rw [hs'] at hk;exact hk
  rw [lk_cons] at hk1
  by_cases e1:k=k'
  ·subst e1
   rw [upd_same] at hk1
   obtain ⟨cur2,r1,r2,r3,r4⟩:=hG.ok.row k _ _ _ (hal'.trans hk1) b' hb'
   exact ⟨cur2,r1,r2,r3,fun j u hj hc=>r4 j u hj hc.1⟩
  ·rw [upd_ne _ _ e1] at hk1
   simp [lk] at hk1
 ·exact hG.ok.inj k1 k2 b' (hlv k1 hk1) (hlv k2 hk2)
 ·rw [show s'.mem.us=fun k=>k<s.nx by rw [hs'];rfl];exact hG.ok.lt k (hlv k hk)
 ·by_cases e1:k=k'
  ·subst e1
   rcases hbxc k hk with e2|e2|e2
   ·exact absurd e2 hk'd
   ·exact absurd e2 hne
   ·have:=hG.ok.sep k e2
    rw [show s.mem.al k=some (es'.length,e',1) from hal'] at this
    cases this
  ·exact halc k e1
 ·rw [show s'.f t=if t∈ts then s.f t else .top by rw [hs'];exact lk_keep s ts t]
  split
  ·rename_i ht
   exact (hts.all t ht) G C' _ hlow (hG.rep t)
  ·unfold RepA;trivial
 ·rw [show s'.f t=if t∈ts then s.f t else .top by rw [hs'];exact lk_keep s ts t,show s'.mem.us=s.mem.us by rw [hs'];rfl]
  split
  ·exact hG.kf t
  ·unfold A.lt;trivial
 ·exact hlow b' o u (hG.c0 b' o u h) fun q=>by
   have:=cell_lt (ho.cok.cell _ _ _ h).1
   omega
 ·obtain ⟨k,hk,hEk⟩:=hb'
  exact hG.lv b' ⟨k,hlv k hk,hEk⟩
 ·exact ⟨(hG.az b' hb').1,fun ⟨k,hk,hEk⟩=>(hG.az b' hb').2.1 ⟨k,hlv k hk,hEk⟩,fun o u h=>(hG.az b' hb').2.2 o u h.1⟩
end
end Go.Proofs.YtodkkldopciagaaGreatDoor.Eng
namespace Go.Proofs.YtodkkldopciagaaGreatDoor.Eng
open Go Go.RowKit

section
variable {P:Program}{en:En}{ops:Array Oper}{o:Oper}{l:List Oper}{s:St}
theorem ow_inlineN {K:St→Prop}{f:FuncId}{fn:Func}{c:Code}{n:Nat}{xs:Array Operand}{ats:Array TypeId} (hg:Wanted s ops o) (hd:∀ x,o.dst=some x→x<en.sz) (ho:o.op=.call { callee:=.value (.func f),args:=xs,argTypes:=ats })
  (hf:P.funcs[f]?=some fn) (hb:fn.body=some c) (he:∀ vs w,(callFunc f vs).run P w=.ok (.enter f vs) w) (hn:fn.ntmps=n) (hl:xs.size≤n)
  (h:∀ en':En,en'.sz=n→(∀ k,en'.ks k→k<s.nx)→AWs P en' c (FinI P fn s.fr o.dst (OWs P en ops l K)) { s with fr:=frOf (xs.toList.map (ev s.f)) }):OWs P en ops (o::l) K s:=fun a w hs Q hQ=>by
 obtain ⟨G,hG⟩:=hs
 refine wpList_step fun K' hK'=>?_
 rw [if_pos (wanted_run hg hG.rep)]
 refine wp_call ho he ?_
 have hr:=RepAL_map (ev_rep hG.ok.cok.gl hG.rep) xs.toList
 refine calls_of_wp hf hb (wp_mono (h (inlEn en w G s n) rfl (fun k hk=>hk) _ w ⟨G,?_⟩) fun e a' w' ⟨s',⟨G',hG'⟩,hfin⟩=>?_)
 ·rw [hn]
  exact inl_start hG n hr (RepAL_lt hG.kf _) (by simpa using hl)
 ·obtain ⟨hex,hres⟩:=hfin
  obtain ⟨r,us,⟨hK,hrlt⟩,hrl,hrun⟩:=resL_run hG'.ok hG'.rep _ (resL_lt (n:=s'.mem.us) hG'.kf (fun k cs hc=>by obtain ⟨_,_,_,h⟩:=hG'.ok.box k cs hc;exact h) _ hres)
  have hrr:=results_run hrun
  have key:a'.defers=[]∧∃ v,(results fn a'.tmps).run P w'=.ok v w'∧∃ v',Ending.returned v=.returned v'∧K' (a.put o.dst v') w':=
   ⟨hG'.df,_,hrr,_,rfl,hK' _ _ (hK _ _ ⟨G',inl_end hG hG' hd (resOf_rep hrl) (tup_lt hrlt)⟩ Q hQ)⟩
  rcases hex with rfl|rfl<;>exact key
end
section
variable {P:Program}{en:En}{K:Exit→St→Prop}{s:St}
theorem aw_loopN {σ:Type} (N:Nat) (mk:σ→St) (I:σ→Prop) (μ:σ→Nat) (x0:σ) {c:Code} (hk:∀ k,en.ks k→k<N) (hmk:∀ x,N≤(mk x).nx) (h0:I x0)
  (hs0:∃ ρ,(∀ k,k<N→sg ρ k=some k)∧s.wk (sg ρ) (mk x0))
  (hr:∀ x,I x→AWs P en c (fun e s'=>match e with|.normal=>∃ y ρ,I y∧μ y<μ x∧(∀ k,k<N→sg ρ k=some k)∧s'.wk (sg ρ) (mk y)|e=>K e s') (mk x)):AWs P en (.loop c) K s:=fun a w hs=>by
 have hkk:∀ (ρ:List (Nat × Option Nat)) x,(∀ k,k<N→sg ρ k=some k)→∀ k,en.ks k→k<(mk x).nx∧sg ρ k=some k:=fun ρ x h k hk'=>⟨Nat.lt_of_lt_of_le (hk k hk') (hmk x),h k (hk k hk')⟩
 obtain ⟨ρ0,r0,w0⟩:=hs0
 refine wp_loop (fun a w=>∃ x,I x∧SimS en (mk x) a w) (fun a w=>leastOf fun n=>∃ x,I x∧SimS en (mk x) a w∧μ x=n) ⟨x0,h0,simS_wk (hkk ρ0 x0 r0) w0 hs⟩ ?_
 rintro a w ⟨x,hx,hsx⟩
 obtain ⟨⟨z,hz,hsz,hμ⟩,_⟩:=leastOf_spec (S:=fun n=>∃ x,I x∧SimS en (mk x) a w∧μ x=n) ⟨x,hx,hsx,rfl⟩
 refine wp_mono (hr z hz a w hsz) fun e a' w' ⟨s',h1,h2⟩=>?_
 cases e with
 | normal=>
  obtain ⟨y,ρ,hy,hlt,hρ,hle⟩:=h2
  have hsy:=simS_wk (hkk ρ y hρ) hle h1
  refine ⟨⟨y,hy,hsy⟩,?_⟩
  obtain ⟨_,hmin⟩:=leastOf_spec (S:=fun n=>∃ x,I x∧SimS en (mk x) a' w'∧μ x=n) ⟨y,hy,hsy,rfl⟩
  have:=hmin (μ y) ⟨y,hy,hsy,rfl⟩
  omega
 | _=>exact ⟨s',h1,h2⟩
theorem aw_thaw {c:Code}{κd κ z i k':Nat}{e e':TypeId}{es es':List (List D)} (ts:List Nat) (bs:List (Nat × Option (List A))) (ho:Own1' en s) (h0:κ≠0) (hd:lk none s.bx κd=some [.dec κ e z es [(i,k',es')]]) (hal:lk none s.al κ=some (es.length,e,z)) (hal':lk none s.al k'=some (es'.length,e',1)) (hne:k'≠κ) (hfl:flatEs es') (hi:i<es.length*z)
  (hts:SafeTs (fun b=>en.w.heap.size≤b) s ts) (hbs:KpB s en.w.heap.size bs) (hks:∀ k,en.ks k→k=0)
  (h:∀ tl:List Value,AWs P en c K { fr:=ts.map (fun t=>(t,s.f t)),bx:=(κd,some [.arr κ z es.length])::(κ,some ((es.flatten.map A.d).set i (.own k' e' 1 es')++tl.map fun x=>A.d (.v x)))::bs,al:=[(k',some (es'.length,e',1))],nx:=s.nx }):AWs P en c K s:=fun a w hs=>by
 obtain ⟨tl,htl⟩:=simS_thaw ts bs ho h0 hd hal hal' hne hfl hi hts hbs hks hs
 exact h tl a w htl
def dvL:List A→List A→Prop
 | [],ys=>ys=[]
 | x::xs,ys=>∃ y ys',ys=y::ys'∧(y=x∨∃ k e z es,x=.own k e z es∧y=.d (.sl z es))∧dvL xs ys'
theorem dvL.rep {G:Gh}:∀ {xs ys:List A}{us:List Value},dvL xs ys→RepAL G xs us→RepAL G ys us
 | [],ys,us,h,k=>by unfold dvL at h;subst h;exact k
 | x::xs,ys,us,h,k=>by
  unfold dvL at h
  obtain ⟨y,ys',rfl,h1,h2⟩:=h
  unfold RepAL at k ⊢
  obtain ⟨u,us',rfl,k1,k2⟩:=k
  refine ⟨u,us',rfl,?_,dvL.rep h2 k2⟩
  rcases h1 with rfl|⟨k0,e,z,es,rfl,rfl⟩
  ·exact k1
  ·have:=own_rep k1
   unfold RepA
   exact this
theorem dvL.lt {n:Nat→Prop}:∀ {xs ys:List A},dvL xs ys→A.ltL n xs→A.ltL n ys
 | [],ys,h,k=>by unfold dvL at h;subst h;exact k
 | x::xs,ys,h,k=>by
  unfold dvL at h
  obtain ⟨y,ys',rfl,h1,h2⟩:=h
  unfold A.ltL at k ⊢
  refine ⟨?_,h2.lt k.2⟩
  rcases h1 with rfl|⟨k0,e,z,es,rfl,rfl⟩
  ·exact k.1
  ·unfold A.lt;trivial
theorem dvL_refl:∀ xs:List A,dvL xs xs
 | []=>by unfold dvL;rfl
 | x::xs=>by unfold dvL;exact ⟨x,xs,rfl,.inl rfl,dvL_refl xs⟩
theorem dvL_set {k z:Nat}{e:TypeId}{es:List (List D)}:∀ (xs:List A) (i:Nat),dvL (xs.set i (.own k e z es)) (xs.set i (.d (.sl z es)))
 | [],i=>by simp;unfold dvL;rfl
 | x::xs,0=>by simp only [List.set_cons_zero];unfold dvL;exact ⟨_,_,rfl,.inr ⟨k,e,z,es,rfl,rfl⟩,dvL_refl xs⟩
 | x::xs,i+1=>by simp only [List.set_cons_succ];unfold dvL;exact ⟨_,_,rfl,.inl rfl,dvL_set xs i⟩
theorem dvL_app {xs ys zs:List A} (h:dvL xs ys):dvL (xs++zs) (ys++zs):=by
 induction xs generalizing ys with
 | nil=>unfold dvL at h;subst h;exact dvL_refl _
 | cons x xs ih=>
  unfold dvL at h
  obtain ⟨y,ys',rfl,h1,h2⟩:=h
  simp only [List.cons_append]
  unfold dvL
  exact ⟨y,ys'++zs,rfl,h1,ih h2⟩
theorem aw_boxD {c:Code}{k:Nat}{cs cs':List A} (hb:lk none s.bx k=some cs) (hv:dvL cs cs') (h:AWs P en c K { s with bx:=(k,some cs')::s.bx }):AWs P en c K s:=fun a w ⟨G,hG⟩=>by
 have hbx:∀ j,(lk none ((k,some cs')::s.bx) j).isSome=true→(lk none s.bx j).isSome=true:=fun j hj=>by
  rw [lk_cons] at hj
  by_cases e:j=k
  ·subst e;rw [hb];rfl
  ·rwa [upd_ne _ _ e] at hj
 have hlv:∀ j,({ s with bx:=(k,some cs')::s.bx }:St).mem.live j→s.mem.live j:=fun j hj=>hj.imp (hbx j) id
 refine h a w ⟨G,⟨⟨hG.ok.cok,fun j ds hj=>?_,hG.ok.row,fun j j' b hj hj'=>?_,fun j hj=>?_,fun j hj=>?_⟩,hG.rep,hG.kf,hG.sz,hG.df,hG.fw,hG.c0,hG.c1,fun b ⟨j,hj,hE⟩=>?_,hG.e0,hG.p0,hG.ks,hG.am,fun b hb'=>⟨(hG.az b hb').1,fun ⟨j,hj,hE⟩=>?_,(hG.az b hb').2.2⟩⟩⟩
 ·have hj':lk none ((k,some cs')::s.bx) j=some ds:=hj
  rw [lk_cons] at hj'
  by_cases e:j=k
  ·subst e
   rw [upd_same] at hj'
   have:=Option.some.inj hj';subst this
   obtain ⟨b,q1,⟨vs,ty,q2,q3,q4,q5⟩,q6⟩:=hG.ok.box j cs hb
   exact ⟨b,q1,⟨vs,ty,q2,hv.rep q3,q4,q5⟩,hv.lt q6⟩
  ·rw [upd_ne _ _ e] at hj'
   exact hG.ok.box j ds hj'
 ·exact hG.ok.inj j j' b (hlv j hj) (hlv j' hj')
 ·exact hG.ok.lt j (hlv j hj)
 ·exact hG.ok.sep j (hbx j hj)
 ·exact hG.lv b ⟨j,hlv j hj,hE⟩
 ·exact (hG.az b hb').2.1 ⟨j,hlv j hj,hE⟩
end
theorem cells1_dec (k:Nat) (e:TypeId) (z:Nat) (es:List (List D)) (ks:List (Nat × Nat × List (List D))):cells1 (.dec k e z es ks)=some [.dec k e z es ks]:=rfl
section
variable {P:Program}{en:En}{ops:Array Oper}{o:Oper}{l:List Oper}{K:St→Prop}{s:St}
theorem ow_store1 {t:TypeId}{ad x:Operand}{k off:Nat}{cs:List A}{y:A}{g:Bool} (hg:Wanted s ops o) (hd:o.dst=none) (h:o.op=.store t ad x) (ha:ev s.f ad=.ptr k off) (hx:cells1 (ev s.f x)=some [y]) (hb:lk none s.bx k=some cs) (ht:tyK P t=some (g,1)) (hl:off+1≤cs.length)
  (hK:OWs P en ops l K { s with bx:=(k,some (splice cs [y] off))::s.bx }):OWs P en ops (o::l) K s:=nstep_sound hg (fun x hx=>by rw [hd] at hx;cases hx) (by
 rw [h,hd,ns_store,ha,storeN_ptr,hb,withS_some,hx,withS_some,ht,withS_some]
 exact ⟨rfl,hl,hK⟩)
end
end Go.Proofs.YtodkkldopciagaaGreatDoor.Eng
namespace Go.Proofs.YtodkkldopciagaaGreatDoor.Eng
open Go Go.RowKit

section
variable {P:Program}{en:En}{s:St}
theorem simS_freezeX (kd k z n:Nat) (es:List (List D)) (tl:List A) (hd:lk none s.bx kd=some [.arr k z n]) (hne:kd≠k) (h2:lk none s.bx k=some (es.flatten.map A.d++tl)) (h3:es.length=n) (h4:∀ e∈es,e.length=z) (hks:∀ k,en.ks k→k=0) (hk0:k≠0)
  {a:Act}{w:World} (hs:SimS en s a w):SimS en { s with bx:=(kd,some [.d (.sl z es)])::(k,none)::s.bx } a w:=by
 obtain ⟨G,hG⟩:=hs
 obtain ⟨b,hE,⟨vs,ty,g1,g2,g3,g4⟩,g5⟩:=hG.ok.box k _ h2
 have hlk:s.mem.live k:=.inl (by rw [show s.mem.bx k=some (es.flatten.map A.d++tl) from h2];rfl)
 have hld:s.mem.live kd:=.inl (by rw [show s.mem.bx kd=some [.arr k z n] from hd];rfl)
 let G':Gh:={ G with C:=fun b' o u=>G.C b' o u∨(b'=b∧vs[o]?=some u) }
 have hle:∀ p,G.Le p G':=fun p=>⟨fun _ _=>rfl,fun _ _=>rfl,fun _ _ _ hc=>.inl hc⟩
 have hm:({ s with bx:=(kd,some [.d (.sl z es)])::(k,none)::s.bx }:St).mem={ s.mem with bx:=upd (upd s.mem.bx k none) kd (some [.d (.sl z es)]) }:=by
  unfold St.mem;simp only [lk_cons]
 have hkn:upd (upd s.mem.bx k none) kd (some [A.d (.sl z es)]) k=none:=by rw [upd_ne _ _ (Ne.symm hne),upd_same]
 have hbx:∀ j,(upd (upd s.mem.bx k none) kd (some [A.d (.sl z es)]) j).isSome=true→(s.mem.bx j).isSome=true∧j≠k:=fun j hj=>by
  by_cases e:j=k
  ·subst e;rw [hkn] at hj;cases hj
  ·refine ⟨?_,e⟩
   by_cases e2:j=kd
   ·subst e2;rw [show s.mem.bx j=some [.arr k z n] from hd];rfl
   ·rwa [upd_ne _ _ e2,upd_ne _ _ e] at hj
 have hlive:∀ j,({ s.mem with bx:=upd (upd s.mem.bx k none) kd (some [A.d (.sl z es)]) }:Mem).live j→s.mem.live j∧(j=k→False):=fun j hj=>by
  rcases hj with hj|hj
  ·exact ⟨.inl (hbx j hj).1,(hbx j hj).2⟩
  ·refine ⟨.inr hj,fun e=>?_⟩
   subst e
   have:=hG.ok.sep j (by rw [show s.mem.bx j=some (es.flatten.map A.d++tl) from h2];rfl)
   have hj':(s.mem.al j).isSome=true:=hj
   rw [this] at hj';cases hj'
 have hb':∀ j b'',s.mem.live j→j≠k→G.E j=some b''→b''≠b:=fun j b'' hj hne hE'' e=>hne (hG.ok.inj j k b hj hlk (e▸hE'') hE)
 refine ⟨G',⟨?_,fun t'=>RepA.mono (hle _) _ _ (hG.kf t') (hG.rep t'),fun t'=>hG.kf t',hG.sz,hG.df,hG.fw,fun b o u hc=>.inl (hG.c0 b o u hc),fun b' o u hc hlt hx=>?_,fun b' ⟨j,hj,hE'⟩=>?_,hG.e0,hG.p0,hG.ks,hG.am,fun b' hb'=>⟨(hG.az b' hb').1,fun ⟨j,hj,hE'⟩=>(hG.az b' hb').2.1 ⟨j,(hlive j (by rw [hm] at hj;exact hj)).1,hE'⟩,fun o u hc=>hc.elim ((hG.az b' hb').2.2 o u) fun he=>(hG.az b' hb').2.1 ⟨k,hlk,by rw [he.1];exact hE⟩⟩⟩⟩
 ·rw [hm]
  refine ⟨⟨fun b' o u hc=>?_,fun b' o u hc hb2=>?_,hG.ok.cok.gl.mono (hle fun _=>True).C⟩,fun j cs hj=>?_,fun j m e y hj b'' hE''=>?_,fun j j' b'' hj hj'=>hG.ok.inj j j' b'' (hlive j hj).1 (hlive j' hj').1,fun j hj=>hG.ok.lt j (hlive j hj).1,fun j hj=>hG.ok.sep j (hbx j hj).1⟩
  ·rcases hc with hc|⟨rfl,hv⟩
   ·exact hG.ok.cell b' o u hc
   ·refine ⟨?_,g3 u (List.mem_of_getElem? hv)⟩
    simp [World.cell?,g1,hv]
  ·rcases hc with hc|⟨rfl,_⟩
   ·exact hG.ok.cok.nf b' o u hc hb2
   ·exact frz_of_cells g1
  ·have hj:upd (upd s.mem.bx k none) kd (some [A.d (.sl z es)]) j=some cs:=hj
   by_cases e2:j=kd
   ·subst e2
    rw [upd_same] at hj
    have:=Option.some.inj hj;subst this
    obtain ⟨b1,q1,⟨us,ty',q2,q3,q4,q5⟩,q6⟩:=hG.ok.box j _ hd
    unfold RepAL RepAL at q3
    obtain ⟨u,us',rfl,hr,rfl⟩:=q3
    unfold RepA at hr
    obtain ⟨b2,cap,p1,rfl,pc,p3⟩:=hr
    rw [hE] at p1
    have:=Option.some.inj p1;subst this
    refine ⟨b1,q1,⟨_,ty',q2,?_,q4,fun i u hc=>?_⟩,?_⟩
    ·unfold RepAL RepAL
     refine ⟨_,[],rfl,?_,rfl⟩
     have hes:RepEs G'.C z es b 0:=by
      have hvs:RepL G.C es.flatten (vs.take es.flatten.length):=by
       have:=RepAL.take es.flatten.length g2
       rw [List.take_left' (List.length_map _)] at this
       exact RepAL_unmap this
      refine RepEs.ofList h4 (us:=vs.take es.flatten.length) (RepL.mono (fun _ _ _ hc=>.inl hc) _ _ hvs) fun i u hi=>.inr ⟨rfl,?_⟩
      rw [List.getElem?_take] at hi
      split at hi
      ·simpa using hi
      ·cases hi
     unfold RepA RepD
     exact ⟨_,cap,by rw [h3],by rw [h3];exact pc,p3,.inr ⟨b,0,rfl,hes⟩⟩
    ·rcases hc with hc|⟨rfl,_⟩
     ·exact q5 i u hc
     ·exact hb' j _ hld hne q1 rfl
    ·unfold A.ltL A.ltL A.lt
     exact ⟨trivial,trivial⟩
   ·rw [upd_ne _ _ e2] at hj
    by_cases e:j=k
    ·subst e;simp at hj
    ·rw [upd_ne _ _ e] at hj
     obtain ⟨b1,q1,⟨us,ty',q2,q3,q4,q5⟩,q6⟩:=hG.ok.box j cs hj
     refine ⟨b1,q1,⟨us,ty',q2,RepAL.mono (hle _) _ _ q6 q3,q4,fun i u hc=>?_⟩,q6⟩
     rcases hc with hc|⟨rfl,_⟩
     ·exact q5 i u hc
     ·exact hb' j _ (.inl (by rw [hj];rfl)) e q1 rfl
  ·have hj':s.mem.al j=some (m,e,y):=hj
   obtain ⟨cur,q1,q2,q3,q4⟩:=hG.ok.row j m e y hj' b'' hE''
   refine ⟨cur,q1,q2,q3,fun i u hi hc=>?_⟩
   rcases hc with hc|⟨rfl,_⟩
   ·exact q4 i u hi hc
   ·have hlj:s.mem.live j:=.inr (by rw [hj'];rfl)
    have hne:j≠k:=fun e'=>by
     subst e'
     have:=hG.ok.sep j (by rw [show s.mem.bx j=some (es.flatten.map A.d++tl) from h2];rfl)
     rw [this] at hj';cases hj'
    exact hb' j _ hlj hne hE'' rfl
 ·rcases hc with hc|⟨rfl,_⟩
  ·exact hG.c1 b' o u hc hlt hx
  ·rcases hG.lv _ ⟨k,hlk,hE⟩ with h5|h5
   ·omega
   ·exact absurd h5 hx
 ·rw [hm] at hj
  exact hG.lv b' ⟨j,(hlive j hj).1,hE'⟩
theorem aw_freezeX {c:Code}{K:Exit→St→Prop} (kd k z n:Nat) (es:List (List D)) (tl:List A) (hd:lk none s.bx kd=some [.arr k z n]) (hne:kd≠k) (h2:lk none s.bx k=some (es.flatten.map A.d++tl)) (h3:es.length=n) (h4:∀ e∈es,e.length=z) (hks:∀ k,en.ks k→k=0) (hk0:k≠0)
  (h:AWs P en c K { s with bx:=(kd,some [.d (.sl z es)])::(k,none)::s.bx }):AWs P en c K s:=fun a w hs=>h a w (simS_freezeX kd k z n es tl hd hne h2 h3 h4 hks hk0 hs)
end
end Go.Proofs.YtodkkldopciagaaGreatDoor.Eng
