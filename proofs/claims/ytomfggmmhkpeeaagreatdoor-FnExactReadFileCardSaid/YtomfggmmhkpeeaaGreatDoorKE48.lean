/-
 The engine, part 48: what a variable of ours holds is written over.
-/
import Derived.Test.YtomfggmmhkpeeaaGreatDoorKE47
set_option linter.unusedSimpArgs false
set_option linter.unusedVariables false
set_option linter.defProp false
set_option maxRecDepth 100000
set_option maxHeartbeats 4000000
namespace Go.Proofs.YtomfggmmhkpeeaaGreatDoor.Eng
open Go Go.RowKit

theorem repAL_ivp {G:Gh}{p:Nat→Prop}{C2:CellR} (h:∀ b o u,C2 b o u→G.C b o u∧p b):∀ {xs:List D}{us:List Value},RepL C2 xs us→RepAL G (xs.map fun x=>.d (.iv p x)) us
 | [],us,k=>by unfold RepL at k;simp only [List.map_nil];unfold RepAL;exact k
 | x::xs,us,k=>by
  unfold RepL at k
  obtain ⟨u,us',rfl,h1,h2⟩:=k
  simp only [List.map_cons]
  unfold RepAL
  refine ⟨u,us',rfl,?_,repAL_ivp h h2⟩
  unfold RepA
  rw [repD_iv]
  exact RepD.mono h _ _ h1
theorem ltL_ivp {n p:Nat→Prop}:∀ xs:List D,A.ltL n (xs.map fun x=>.d (.iv p x))
 | []=>by simp only [List.map_nil];unfold A.ltL;trivial
 | x::xs=>by
  simp only [List.map_cons]
  unfold A.ltL
  exact ⟨by unfold A.lt;trivial,ltL_ivp xs⟩
section
variable {P:Program}{en:En}{ops:Array Oper}{o:Oper}{l:List Oper}{K:St→Prop}{s:St}
theorem mark_coreB {f:FuncId}{x0 x1:Operand}{ats:Array TypeId}{y:D}{p:Nat→Prop}{X:D}{k k':Int}{Xs:List D}{ts ks:List Nat}{κ:Nat}{cs0:List A}{a:Act}{w:World}{G:Gh}{Q:Exit→Act→World→Prop} (hm:MarkOk P en s f y p X k k' (some (.agg Xs)) ts ks) (hb0:lk none s.bx κ=some cs0) (hG:Sim en s.f s.mem a w G) (hg:Wanted s ops o) (hd:∀ x,o.dst=some x→x<en.sz) (ho:o.op=.call { callee:=.value (.func f),args:=#[x0,x1],argTypes:=ats })
  (hx:ev s.f x0=.d y) (hk:ev s.f x1=.d (.v (.int .i64 k))) (hbx:∀ b vs ty,G.E κ=some b→w.heap[b]?=some (.cells ⟨vs⟩ ty (0,0))→a.eval x0=.agg ⟨vs⟩)
  (hK:OWs P en ops l K (({ s.keep ts ks with bx:=(κ,some (Xs.map fun x=>.d (.iv p x)))::(s.keep ts ks).bx }:St).set o.dst (.d (.v (.int .i64 k'))))) (hQ:∀ s' a' w',SimS en s' a' w'→K s'→Q .normal a' w'):wpList P ops Q (o::l) a w:=by
 obtain ⟨hc,hon,hcok,hp,hts0,hks0⟩:=hm
 have hts:=hts0.all
 have hks:=hks0.all
 refine wpList_step fun K' hK'=>?_
 rw [if_pos (wanted_run hg hG.rep)]
 have hr0:=ev_rep hG.ok.cok.gl hG.rep x0
 have hr1:=ev_rep hG.ok.cok.gl hG.rep x1
 rw [hx] at hr0
 rw [hk] at hr1
 unfold RepA at hr0 hr1
 replace hr0:=hon _ _ hr0
 rw [repD_v] at hr1
 have hnl:∀ b,p b→¬Lst b:=fun b hb hl=>by
  obtain ⟨u,hu⟩:=lst_cell hcok.gl hl
  have:=cell_lt (hcok.cell _ _ _ hu).1
  have:=hp b hb
  omega
 have hcm:CokM (G.C.on p) w:=fun b o u h=>⟨(hG.ok.cell b o u h.1).1,(hG.ok.cell b o u h.1).2,hG.ok.cok.nf b o u h.1 (hnl b h.2)⟩
 have hce:Cok (G.C.on fun b=>¬p b) w:=⟨fun b o u h=>hG.ok.cell b o u h.1,fun b o u h hl=>hG.ok.cok.nf b o u h.1 hl,hcok.gl.mono fun b o u h=>⟨hG.c0 b o u h,fun hpb=>by
  have:=cell_lt (hcok.cell _ _ _ h).1
  have:=hp b hpb
  omega⟩,hG.ok.cok.tb⟩
 have hca:=hc.2 w _ _ _ hce (fun b o v h ⟨_,_,h'⟩=>h.2 h'.2) hcm hr0
 refine wp_call ho hc.1 ?_
 have e0:(#[x0,x1]:Array Operand).toList.map a.eval=[a.eval x0,.int .i64 k]:=by rw [←hr1];rfl
 rw [e0]
 refine hca.mono fun e w' ⟨he,hfw,hX⟩=>⟨_,he,hK' _ _ ?_⟩
 have hblk:∀ b,b<w.heap.size→(∀ o v,¬(G.C b o v∧p b))→w'.heap[b]?=w.heap[b]?:=fun b hb hn=>hfw.block b hb fun ⟨o,v,h⟩=>hn o v h
 have hblkp:∀ b,b<w.heap.size→¬p b→w'.heap[b]?=w.heap[b]?:=fun b hb hn=>hblk b hb fun o v h=>hn h.2
 -- the cells behind
 obtain ⟨C2,c1,c2,c3⟩:∃ C2:CellR,(∀ b o v,C2 b o v→p b∧∃ o v,G.C b o v)∧CokM C2 w'∧RepD C2 (.agg Xs) (a.eval x0):=by
  obtain ⟨C2,k1,k2,k3⟩:=hX _ rfl
  exact ⟨C2,fun b o v h=>by obtain ⟨o',v',h'⟩:=k1 b o v h;exact ⟨h'.2,o',v',h'.1⟩,k2,k3⟩
 let G':Gh:={ G with C:=fun b o u=>(G.C b o u∧¬p b)∨C2 b o u }
 have hGG:∀ b o v,G.C b o v→¬p b→G'.C b o v:=fun b o v h hn=>.inl ⟨h,hn⟩
 have hcok':Cok G'.C w':=by
  refine ⟨fun b o u h=>?_,fun b o u h hl=>?_,?_,hG.ok.cok.tb.keep hcok.gl fun b _ _ _ h1 h0 hC=>hblkp b (heap_lt h1) fun hpb=>by
   obtain ⟨u,hu⟩:=hC 0 h0
   have:=cell_lt (hcok.cell _ _ _ hu).1
   have:=hp b hpb
   omega⟩
  ·rcases h with h|h
   ·have:=hG.ok.cell b o u h.1
    exact ⟨(World.cell?_of_block (w:=w) (a:=⟨b,o,none⟩) (hblkp b (cell_lt this.1) h.2)).trans this.1,this.2⟩
   ·exact ⟨(c2 b o u h).1,(c2 b o u h).2.1⟩
  ·rcases h with h|h
   ·rw [frz_of_block (hblkp b (cell_lt (hG.ok.cell b o u h.1).1) h.2)]
    exact hG.ok.cok.nf b o u h.1 hl
   ·exact (c2 b o u h).2.2
  ·exact hcok.gl.mono fun b o u h=>.inl ⟨hG.c0 b o u h,fun hpb=>by
    have:=cell_lt (hcok.cell _ _ _ h).1
    have:=hp b hpb
    omega⟩
 have hbxj:∀ j,({ s.keep ts ks with bx:=(κ,some (Xs.map fun x=>.d (.iv p x)))::(s.keep ts ks).bx }:St).mem.bx j=if j=κ then some (Xs.map fun x=>.d (.iv p x)) else if j∈ks then s.mem.bx j else none:=fun j=>by
  show lk none ((κ,_)::(s.keep ts ks).bx) j=_
  rw [lk_cons]
  by_cases e:j=κ
  ·subst e;rw [upd_same,if_pos rfl]
  ·rw [upd_ne _ _ e,if_neg e]
   exact keep_bx s ts ks j
 have hlive:∀ j,({ s.keep ts ks with bx:=(κ,some (Xs.map fun x=>.d (.iv p x)))::(s.keep ts ks).bx }:St).mem.live j→s.mem.live j:=fun j hj=>by
  rcases hj with hj|hj
  ·rw [hbxj] at hj
   split at hj
   ·rename_i e
    subst e
    exact .inl (by show (lk none s.bx j).isSome=true;rw [hb0];rfl)
   ·split at hj
    ·exact .inl hj
    ·cases hj
  ·simp [St.keep,St.mem,lk] at hj
 have hmine:∀ b,Mine G' ({ s.keep ts ks with bx:=(κ,some (Xs.map fun x=>.d (.iv p x)))::(s.keep ts ks).bx }:St).mem b→Mine G s.mem b:=fun b ⟨j,hj,hE⟩=>⟨j,hlive j hj,hE⟩
 have hsim:Sim en ({ s.keep ts ks with bx:=(κ,some (Xs.map fun x=>.d (.iv p x)))::(s.keep ts ks).bx }:St).f ({ s.keep ts ks with bx:=(κ,some (Xs.map fun x=>.d (.iv p x)))::(s.keep ts ks).bx }:St).mem a w' G':=by
  have hall:∀ t,RepA G' ((s.keep ts ks).f t) (a.tmps.getD t undef)∧((s.keep ts ks).f t).lt (s.keep ts ks).mem.us:=fun t=>by
   rw [keep_f]
   split
   ·rename_i ht
    exact ⟨hts t ht G _ _ hGG (hG.rep t),hG.kf t⟩
   ·exact ⟨by unfold RepA;trivial,by unfold A.lt;trivial⟩
  refine ⟨⟨hcok',fun k cs h=>?_,fun k n e z h=>?_,fun k k' b h h'=>hG.ok.inj k k' b (hlive k h) (hlive k' h'),fun k h=>hG.ok.lt k (hlive k h),fun k h=>rfl⟩,fun t=>(hall t).1,fun t=>(hall t).2,hG.sz,hG.df,?_,fun b o u h=>?_,fun b o u h hb hx=>?_,fun b hb=>hG.lv b (hmine b hb),hG.e0,hG.p0,hG.ks,?_,fun b hb=>?_⟩
  ·rw [hbxj] at h
   split at h
   ·rename_i e
    subst e
    have:=Option.some.inj h;subst this
    obtain ⟨b,q1,⟨vs,ty,q2,q3,q4,q5⟩,q6⟩:=hG.ok.box k _ hb0
    have hev:=hbx b vs ty q1 q2
    rw [hev] at c3
    unfold RepD at c3
    obtain ⟨us,e1,e2,e3⟩:=c3
    simp only [Value.agg.injEq,Array.mk.injEq] at e1
    subst e1
    refine ⟨b,q1,⟨vs,ty,(hblk b (heap_lt q2) fun o v hc=>q5 o v hc.1).trans q2,repAL_ivp (G:=G') (fun b o u hc=>⟨(Or.inr hc:(G.C b o u∧¬p b)∨C2 b o u),(c1 b o u hc).1⟩) e2,q4,fun j u hc=>?_⟩,ltL_ivp Xs⟩
    rcases hc with hc|hc
    ·exact q5 j u hc.1
    ·obtain ⟨_,o',v',h'⟩:=c1 _ _ _ hc
     exact q5 o' v' h'
   ·split at h
    ·rename_i hk'
     obtain ⟨b,q1,⟨vs,ty,q2,q3,q4,q5⟩,q6⟩:=hG.ok.box k cs h
     refine ⟨b,q1,⟨vs,ty,(hblk b (heap_lt q2) fun o v hc=>q5 o v hc.1).trans q2,(hks k hk' cs h).rep hGG q3,q4,fun j u hc=>?_⟩,q6⟩
     rcases hc with hc|hc
     ·exact q5 j u hc.1
     ·obtain ⟨_,o',v',h'⟩:=c1 _ _ _ hc
      exact q5 o' v' h'
    ·cases h
  ·simp [St.keep,St.mem,lk] at h
  ·refine ⟨hfw.os.trans hG.fw.os,hfw.tape.trans hG.fw.tape,hfw.output.trans hG.fw.output,Nat.le_trans hG.fw.size hfw.size,fun b hb hx=>?_⟩
   refine (hblkp b (Nat.lt_of_lt_of_le hb hG.fw.size) fun hpb=>?_).trans (hG.fw.block b hb hx)
   have:=hp b hpb
   omega
  ·exact .inl ⟨hG.c0 b o u h,fun hpb=>by
    have:=cell_lt (hcok.cell _ _ _ h).1
    have:=hp b hpb
    omega⟩
  ·rcases h with h|h
   ·exact hG.c1 b o u h.1 hb hx
   ·have:=hp b (c1 b o u h).1
    omega
  ·refine en.stab w w' (fun b hb=>hfw.block b (hG.az b hb).1 fun ⟨o,v,h⟩=>(hG.az b hb).2.2 o v h.1) hG.am
  ·obtain ⟨a1,a2,a3⟩:=hG.az b hb
   refine ⟨Nat.lt_of_lt_of_le a1 hfw.size,fun hm'=>a2 (hmine b hm'),fun o u h=>?_⟩
   rcases h with h|h
   ·exact a3 o u h.1
   ·obtain ⟨_,o',v',h'⟩:=c1 b o u h
    exact a3 o' v' h'
 refine hK _ _ ⟨G',?_⟩ Q hQ
 have:=hsim.step Evo.refl hsim.ok (d:=o.dst) (v:=.d (.v (.int .i64 k'))) (u:=.int .i64 k') hd (by unfold RepA RepD;rfl) (by unfold A.lt;trivial)
 rw [St.set_f,St.set_mem]
 exact this
theorem ow_markB {o1 o2:Oper}{f:FuncId}{ta κ t1 t2 td ty:Nat}{x1:Operand}{ats:Array TypeId}{ds Xs:List D}{p:Nat→Prop}{X:D}{k k':Int} (ts ks:List Nat) (h1:o1.op=.load ty (.tmp ta)) (d1:o1.dst=some t1) (g1:o1.guard=none) (h2:o2.op=.move x1) (d2:o2.dst=some t2) (g2:o2.guard=none) (g3:o.guard=none) (hd3:o.dst=some td)
  (hl1:t1<en.sz) (hl2:t2<en.sz) (hl3:td<en.sz) (hn:t1≠t2) (ho:o.op=.call { callee:=.value (.func f),args:=#[.tmp t1,.tmp t2],argTypes:=ats })
  (ha:s.f ta=.ptr κ 0) (hb:lk none s.bx κ=some (ds.map .d)) (hty:tyK P ty=some (true,ds.length)) (hk:ev (s.set (some t1) (.d (.agg ds))).f x1=.d (.v (.int .i64 k))) (hm:MarkOk P en ((s.set (some t1) (.d (.agg ds))).set (some t2) (.d (.v (.int .i64 k)))) f (.agg ds) p X k k' (some (.agg Xs)) ts ks)
  (hK:OWs P en ops l K (({ ((s.set (some t1) (.d (.agg ds))).set (some t2) (.d (.v (.int .i64 k)))).keep ts ks with bx:=(κ,some (Xs.map fun x=>.d (.iv p x)))::(((s.set (some t1) (.d (.agg ds))).set (some t2) (.d (.v (.int .i64 k)))).keep ts ks).bx }:St).set (some td) (.d (.v (.int .i64 k'))))):OWs P en ops (o1::o2::o::l) K s:=fun a w ⟨G,hG⟩ Q hQ=>by
 have hw:∀ (o:Oper) (a:Act),o.guard=none→Region.wanted o (yielded ops a.tmps)=true:=fun o a h=>by unfold Region.wanted;rw [h]
 obtain ⟨b,q1,⟨vs,tyb,q2,q3,q4,q5⟩,q6⟩:=hG.ok.box κ _ hb
 have hvl:vs.length=ds.length:=by have:=q3.get.1;simpa using this.symm
 have hrl:RepL G.C ds vs:=RepAL_unmap q3
 have hav:a.tmps.getD ta undef=.pointer (some ⟨b,0,none⟩):=by
  have:=hG.rep ta
  rw [ha] at this
  unfold RepA at this
  obtain ⟨b',e1,e2⟩:=this
  rw [q1] at e1
  rw [e2,Option.some.inj e1]
 refine wpList_step fun K1 hK1=>?_
 rw [if_pos (hw o1 a g1)]
 have hld:(execOp a.eval o1).run P w=.ok (.value (.agg ⟨vs⟩)) w:=by
  obtain ⟨r1,r2⟩:=tyK_run hty w
  have hl:=run_loadCells_list (P:=P) w ⟨b,0,none⟩ vs (fun j v hj=>by
   rw [addr_add,cell_of_row w b (0+j) ⟨vs⟩ tyb (0,0) q2]
   simpa using hj)
  rw [hvl] at hl
  unfold execOp
  rw [h1]
  simp only [Instr.loadAt,Act.eval,hav,Instr.sureAddr,loadVar,Sem.run_bind,Sem.run_pure,Result.andThen_ok,r2,if_true,r1,hl]
 refine wp_of_value (u:=.agg ⟨vs⟩) (w':=w) hld (hK1 _ _ ?_)
 have hG1:=hG.step Evo.refl hG.ok (d:=o1.dst) (v:=.d (.agg ds)) (u:=.agg ⟨vs⟩) (fun x hx=>by rw [d1] at hx;cases hx;exact hl1) (by unfold RepA RepD;exact ⟨vs,rfl,hrl,q4⟩) (by unfold A.lt;trivial)
 rw [←St.set_f,←St.set_mem s o1.dst (.d (.agg ds)),d1] at hG1
 rw [d1]
 have hv:(a.put (some t1) (.agg ⟨vs⟩)).eval x1=.int .i64 k:=by
  have:=ev_rep hG1.ok.cok.gl hG1.rep x1
  rw [hk] at this
  unfold RepA at this
  exact repD_v.1 this
 refine wpList_step fun K2 hK2=>?_
 rw [if_pos (hw o2 _ g2)]
 refine wp_of_value (u:=.int .i64 k) (w':=w) (by unfold execOp;rw [h2];simp [hv]) (hK2 _ _ ?_)
 have hG2:=hG1.step Evo.refl hG1.ok (d:=o2.dst) (v:=.d (.v (.int .i64 k))) (u:=.int .i64 k) (fun x hx=>by rw [d2] at hx;cases hx;exact hl2) (by unfold RepA RepD;rfl) (by unfold A.lt;trivial)
 rw [←St.set_f,←St.set_mem (s.set (some t1) (.d (.agg ds))) o2.dst,d2] at hG2
 rw [d2]
 have hget:∀ (a:Act) (x:Nat) (u:Value) (t:Nat),t≠x→(a.put (some x) u).tmps.getD t undef=a.tmps.getD t undef:=fun a x u t h=>by
  simp [Act.put,Array.getElem?_setIfInBounds,Ne.symm h]
 have hsame:∀ (a:Act) (x:Nat) (u:Value),x<a.tmps.size→(a.put (some x) u).tmps.getD x undef=u:=fun a x u h=>by
  simp [Act.put,h]
 refine mark_coreB (κ:=κ) (cs0:=ds.map .d) hm hb hG2 (by unfold Wanted;rw [g3];trivial) (fun x hx=>by rw [hd3] at hx;cases hx;exact hl3) ho ?_ ?_ (fun b' vs' ty' e1 e2=>?_) (by rw [hd3];exact hK) hQ
 ·show lk .top ((t2,_)::(t1,_)::s.fr) t1=_
  rw [lk_cons,lk_cons,upd_ne _ _ hn,upd_same]
 ·show lk .top ((t2,_)::(t1,_)::s.fr) t2=_
  rw [lk_cons,upd_same]
 ·rw [q1] at e1
  have:=Option.some.inj e1;subst this
  rw [q2] at e2
  cases e2
  show Array.getD _ t1 undef=_
  rw [hget _ _ _ _ hn,hsame _ _ _ (by rw [hG.sz];exact hl1)]
end
end Go.Proofs.YtomfggmmhkpeeaaGreatDoor.Eng
