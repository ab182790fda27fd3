/-
 The engine, part 31: cells of known kinds that are written over.
-/
import Derived.Test.YtaammoodcgfhpaaDoorKE30
import Derived.Laws.IdiomCopy
set_option linter.unusedSimpArgs false
set_option linter.unusedVariables false
set_option linter.defProp false
set_option maxRecDepth 100000
set_option maxHeartbeats 4000000
namespace Go.Proofs.YtaammoodcgfhpaaDoor.Eng
open Go Go.RowKit

def isSc:Value→Bool
 | .int _ _=>true
 | .string _=>true
 | .bool _=>true
 | _=>false
theorem isSc_one {v:Value} (h:isSc v=true):v.oneCell'=true:=by
 cases v<;>first|rfl|(simp [isSc] at h)
def MK (C:CellR) (w:World):Prop:=∀ b o u,C b o u→∃ v,w.cell? ⟨b,o,none⟩=some v∧v.oneCell'=true∧w.frozen? ⟨b,o,none⟩=false∧(v=u∨(isSc u=true∧isSc v=true))
def Zof (C:CellR) (b:Nat):Prop:=∃ o v,C b o v
theorem MK.of {C:CellR}{w:World} (h:CokM C w):MK C w:=fun b o u hc=>⟨u,(h b o u hc).1,(h b o u hc).2.1,(h b o u hc).2.2,.inl rfl⟩
theorem MK.stab (C:CellR) (w w':World) (h:∀ b,Zof C b→w'.heap[b]?=w.heap[b]?) (k:MK C w):MK C w':=fun b o u hc=>by
 obtain ⟨v,h1,h2,h3,h4⟩:=k b o u hc
 have hb:=h b ⟨o,u,hc⟩
 exact ⟨v,(World.cell?_of_block (w:=w) (a:=⟨b,o,none⟩) hb).trans h1,h2,(frz_of_block hb).trans h3,h4⟩
theorem MK.set {C:CellR}{w:World} (k:MK C w) {b o:Nat}{u0 y:Value} (hc:C b o u0) (h0:isSc u0=true) (hy:isSc y=true):MK C (w.setCell ⟨b,o,none⟩ y):=fun b' o' u hc'=>by
 obtain ⟨v,h1,h2,h3,h4⟩:=k b' o' u hc'
 by_cases e:b'=b∧o'=o
 ·obtain ⟨rfl,rfl⟩:=e
  obtain ⟨v0,g1,g2,g3,g4⟩:=k _ _ _ hc
  rw [h1] at g1
  obtain rfl:=Option.some.inj g1
  refine ⟨y,World.cell?_setCell_same _ _ _ h1,isSc_one hy,(World.frozen?_setCell ..).trans h3,.inr ⟨?_,hy⟩⟩
  rcases h4 with rfl|h4
  ·rcases g4 with rfl|g4
   ·exact h0
   ·exact g4.2
  ·exact h4.1
 ·refine ⟨v,(World.cell?_setCell_other _ _ _ _ (fun e'=>e ?_)).trans h1,h2,(World.frozen?_setCell ..).trans h3,h4⟩
  simp only [Addr.mk.injEq] at e'
  exact ⟨e'.1.symm,e'.2.1.symm⟩

structure CK (P:Program) (f:FuncId) (C:CellR) (u:Value) (k k':Int):Prop where
 enter:∀ vs w,(callFunc f vs).run P w=.ok (.enter f vs) w
 go:∀ (w:World) (Ce:CellR),Cok Ce w→(∀ b o v,Ce b o v→¬Zof C b)→MK C w→Calls P f ⟨[u,.int .i64 k]⟩ w fun e w'=>e=.returned (.int .i64 k')∧BelowX (Zof C) w.heap.size w w'∧MK C w'

theorem calls_bodyM {P:Program}{f:FuncId}{fn:Func}{c:Code}{C:CellR}{u:Value}{k k':Int} (hf:P.funcs[f]?=some fn) (hb:fn.body=some c) (he:∀ vs w,(callFunc f vs).run P w=.ok (.enter f vs) w) {n:Nat} (hn:fn.ntmps=n) (hl:2≤n)
  (h:∀ en:En,en.sz=n→(∀ k,en.ks k→k=0)→en.Z=Zof C→en.Amb=MK C→(∀ b,Zof C b→en.X b)→AWs P en c (Fin P fn none fun r _=>r=.d (.v (.int .i64 k'))) (St.init [.d (.v u),.d (.v (.int .i64 k))] none)):CK P f C u k k':=by
 refine ⟨he,fun w Ce hCe hdis hmk=>?_⟩
 have hlt:∀ b,Zof C b→b<w.heap.size:=fun b ⟨o,v,hc⟩=>by
  obtain ⟨v',h1,_⟩:=hmk b o v hc
  exact cell_lt h1
 let G0:Gh:=⟨fun _=>none,fun _=>0,Ce⟩
 have hr:RepAL G0 [.d (.v u),.d (.v (.int .i64 k))] [u,.int .i64 k]:=by
  unfold RepAL
  refine ⟨_,_,rfl,by unfold RepA RepD;rfl,?_⟩
  unfold RepAL
  exact ⟨_,_,rfl,by unfold RepA RepD;rfl,by unfold RepAL;rfl⟩
 have hnl:∀ b,¬Mine G0 (St.init [.d (.v u),.d (.v (.int .i64 k))] none).mem b:=fun b ⟨j,hj,_⟩=>by rcases hj with hj|hj<;>simp [St.init,St.mem,lk] at hj
 refine calls_of_wp hf hb (wp_mono (h { w:=w,C:=Ce,X:=Zof C,E:=fun _=>none,cp:=fun _=>0,ks:=fun _=>False,sz:=n,Z:=Zof C,Amb:=MK C,stab:=MK.stab C } rfl (fun _ h=>h.elim) rfl rfl (fun _ h=>h) _ w ⟨G0,?_⟩) fun e a' w' ⟨s',⟨G,hG⟩,hfin⟩=>?_)
 ·refine ⟨empty_ok _ rfl hCe _,fun t=>?_,fun t=>?_,?_,rfl,BelowX.refl _ _ _,fun b o u h=>h,fun b o u h _ _=>h,fun b hb=>absurd hb (hnl b),fun k hk=>hk.elim,fun k hk=>hk.elim,fun k hk=>hk.elim,hmk,fun b hb=>⟨hlt b hb,hnl b,fun o v hc=>hdis b o v hc hb⟩⟩
  ·rw [init_fr]
   exact hr.getD _ t
  ·rw [init_fr]
   exact argsOk_lt (l:=[.d (.v u),.d (.v (.int .i64 k))]) (by simp [ArgsOk]) (show (0:Nat)<(St.init [.d (.v u),.d (.v (.int .i64 k))] none).nx by simp [St.init]) t
  ·simp only [Array.size_append,List.size_toArray,Array.size_replicate,hn,List.length_cons,List.length_nil]
   omega
 ·obtain ⟨hex,hres⟩:=hfin
  obtain ⟨l,us,⟨r,ks,hz,hrest⟩,hrl,hrun⟩:=resL_run hG.ok hG.rep _ hres
  have hrr:=results_run hrun
  obtain ⟨hrz,_⟩:=toF_rep hG.ok hz (resOf_rep hrl)
  obtain ⟨_,rfl⟩:=hrest
  unfold RepZ at hrz
  have hv:=repD_v.1 hrz.2
  have key:a'.defers=[]∧∃ v,(results fn a'.tmps).run P w'=.ok v w'∧Ending.returned v=.returned (.int .i64 k')∧BelowX (Zof C) w.heap.size w w'∧MK C w':=
   ⟨hG.df,_,hrr,by rw [hv],hG.fw,hG.am⟩
  rcases hex with rfl|rfl<;>exact key
def ACK (P:Program) (f:FuncId) (X:D) (k k':Int):Prop:=∀ (C:CellR) (u:Value),RepD C X u→CK P f C u k k'
theorem ACK.acm {P:Program}{f:FuncId}{X:D}{k k':Int} (he:∀ vs w,(callFunc f vs).run P w=.ok (.enter f vs) w) (h:ACK P f X k k'):ACM P f X k k' none:=
 ⟨he,fun w Ce C u hCe hd hm hr=>((h C u hr).go w Ce hCe hd (MK.of hm)).mono fun e w' ⟨h1,h2,_⟩=>⟨h1,h2,fun x hx=>by cases hx⟩⟩

section
variable {P:Program}{en:En}{ops:Array Oper}{o:Oper}{l:List Oper}{K:St→Prop}{s:St}
theorem ow_pure {v:Value} (hg:Wanted s ops o) (hd:∀ x,o.dst=some x→x<en.sz) (h:∀ a w G,Sim en s.f s.mem a w G→(execOp a.eval o).run P w=.ok (.value v) w) (hK:OWs P en ops l K (s.set o.dst (.d (.v v)))):OWs P en ops (o::l) K s:=fun a w hs Q hQ=>by
 obtain ⟨G,hG⟩:=hs
 refine wpList_step fun K' hK'=>?_
 rw [if_pos (wanted_run hg hG.rep)]
 refine wp_of_value (h a w G hG) (hK' _ _ (hK _ _ ⟨G,?_⟩ Q hQ))
 have:=hG.step Evo.refl hG.ok (d:=o.dst) (v:=.d (.v v)) (u:=v) hd (by unfold RepA RepD;rfl) (by unfold A.lt;trivial)
 rw [St.set_f,St.set_mem]
 exact this
theorem sim_v {a:Act}{w:World}{G:Gh} (hG:Sim en s.f s.mem a w G) {x:Operand}{u:Value} (h:ev s.f x=.d (.v u)):a.eval x=u:=by
 have:=ev_rep hG.ok.cok.gl hG.rep x
 rw [h] at this
 unfold RepA at this
 exact repD_v.1 this
theorem aw_say {c:Code}{K:Exit→St→Prop} (t:Nat) (y:D) {x:D} (hx:s.f t=.d x) (h:∀ (C:CellR) u,RepD C x u→RepD C y u) (hK:AWs P en c K { s with fr:=(t,.d y)::s.fr }):AWs P en c K s:=fun a w ⟨G,hG⟩=>
 hK a w ⟨G,sim_say (t:=t) (y:=.d y) (fun u k=>by rw [hx] at k;unfold RepA at k ⊢;exact h _ _ k) (fun n _=>by unfold A.lt;trivial) hG⟩
theorem say_agg {us:List Value} (h:∀ x∈us,x.oneCell'=true) (C:CellR) (u:Value) (k:RepD C (.v (.agg ⟨us⟩)) u):RepD C (.agg (us.map .v)) u:=by
 rw [repD_v] at k
 subst k
 unfold RepD
 exact ⟨us,rfl,RepL_v us,h⟩
theorem ow_xlen {x:Operand}{t e:TypeId}{ad:Option Addr}{n cp:Nat} (hg:Wanted s ops o) (hd:∀ x,o.dst=some x→x<en.sz) (ho:o.op=.call { callee:=.builtin .len,args:=#[x],argTypes:=#[t] }) (hx:ev s.f x=.d (.v (.slice ad n cp))) (ht:tyElem P t=some e)
  (hK:OWs P en ops l K (s.set o.dst (.d (.v (.int .i64 n))))):OWs P en ops (o::l) K s:=
 ow_pure hg hd (fun a w G hG=>by
  have hu:=sim_v hG hx
  unfold execOp
  rw [ho]
  simp [resolve,invoke,builtin,Builtin.len_,hu,run_underlying (tyElem_run ht),goInt]) hK
theorem ow_xidx {x i:Operand}{t e:TypeId}{b oo n cp z:Nat}{g:Bool}{kd:IntKind}{j:Int} (hg:Wanted s ops o) (hd:∀ x,o.dst=some x→x<en.sz) (ho:o.op=.indexAddr t x i) (hx:ev s.f x=.d (.v (.slice (some ⟨b,oo,none⟩) n cp))) (hi:ev s.f i=.d (.v (.int kd j)))
  (ht:tyElem P t=some e) (hk:tyK P e=some (g,z)) (h0:0≤j) (h1:j<n) (hK:OWs P en ops l K (s.set o.dst (.d (.v (.pointer (some ⟨b,oo+j.toNat*z,none⟩)))))):OWs P en ops (o::l) K s:=
 ow_pure hg hd (fun a w G hG=>by
  have hu:=sim_v hG hx
  have hv:=sim_v hG hi
  obtain ⟨r1,r2⟩:=tyK_run hk w
  unfold execOp
  rw [ho]
  simp only [Instr.indexAt,hu,hv,asIntOf,Sem.run_bind,Sem.run_pure,Result.andThen_ok,run_underlying (tyElem_run ht),h0,h1,and_self,if_true,r1,addr_add]) hK
theorem ow_xfld {x:Operand}{t ft:TypeId}{f off b oo z:Nat}{g:Bool} (hg:Wanted s ops o) (hd:∀ x,o.dst=some x→x<en.sz) (ho:o.op=.fieldAddr t x f) (hx:ev s.f x=.d (.v (.pointer (some ⟨b,oo,none⟩))))
  (hf:tyField P t f=some (off,ft)) (hk:tyK P ft=some (g,z)) (hz:z≠0) (hK:OWs P en ops l K (s.set o.dst (.d (.v (.pointer (some ⟨b,oo+off,none⟩)))))):OWs P en ops (o::l) K s:=
 ow_pure hg hd (fun a w G hG=>by
  have hu:=sim_v hG hx
  obtain ⟨fs,fd,h1,h2,h3,h4⟩:=tyField_run hf
  obtain ⟨r1,r2⟩:=tyK_run hk w
  unfold execOp
  rw [ho]
  simp only [Instr.fieldAt,hu,Sem.run_bind,run_underlying h1,Result.andThen_ok,h2,Instr.sureAddr,Sem.run_pure,fieldPlace,h4,r1,h3,hz,if_false,addr_add]) hK
theorem ow_xload {x:Operand}{t:TypeId}{b oo z:Nat}{C:CellR}{u:Value} (hg:Wanted s ops o) (hd:∀ x,o.dst=some x→x<en.sz) (ho:o.op=.load t x) (hx:ev s.f x=.d (.v (.pointer (some ⟨b,oo,none⟩))))
  (hk:tyK P t=some (false,z)) (hA:en.Amb=MK C) (hc:C b oo u) (hu:isSc u=false) (hK:OWs P en ops l K (s.set o.dst (.d (.v u)))):OWs P en ops (o::l) K s:=
 ow_pure hg hd (fun a w G hG=>by
  have hp:=sim_v hG hx
  obtain ⟨r1,r2⟩:=tyK_run hk w
  have ham:=hG.am
  rw [hA] at ham
  obtain ⟨v,g1,g2,g3,g4⟩:=ham b oo u hc
  obtain rfl:v=u:=g4.resolve_right fun h=>by rw [hu] at h;cases h.1
  unfold execOp
  rw [ho]
  simp only [Instr.loadAt,hp,Instr.sureAddr,Sem.run_bind,Sem.run_pure,Result.andThen_ok,loadVar,r2,Bool.false_eq_true,if_false,run_load,g1]) hK
theorem sim_amb {a:Act}{w w':World}{G:Gh}{C:CellR}{X:Nat→Prop} (hG:Sim en s.f s.mem a w G) (hZ:en.Z=Zof C) (hA:en.Amb=MK C) (hX:∀ b,Zof C b→en.X b) (hXC:∀ b,X b→Zof C b) (hfw:BelowX X w.heap.size w w') (hmk:MK C w'):Sim en s.f s.mem a w' G:=by
 have hno:∀ b o u,G.C b o u→¬X b:=fun b o u hc hx=>(hG.az b (hZ▸hXC b hx)).2.2 o u hc
 have hblk:∀ b,b<w.heap.size→¬X b→w'.heap[b]?=w.heap[b]?:=fun b hb hx=>hfw.block b hb hx
 have hcok:Cok G.C w':=⟨fun b o u hc=>by
   have:=hG.ok.cell b o u hc
   exact ⟨(World.cell?_of_block (w:=w) (a:=⟨b,o,none⟩) (hblk b (cell_lt this.1) (hno b o u hc))).trans this.1,this.2⟩,
  fun b o u hc hl=>by
   rw [frz_of_block (hblk b (cell_lt (hG.ok.cell b o u hc).1) (hno b o u hc))]
   exact hG.ok.cok.nf b o u hc hl,hG.ok.cok.gl,hG.ok.cok.tb.keep hG.ok.cok.gl fun b _ _ _ h1 h0 hC=>(hC 0 h0).elim fun u hu=>hblk b (heap_lt h1) (hno b 0 u hu)⟩
 have hok:MemOk G w' s.mem:=hG.ok.after (X:=X) (fun _ _ _ h=>h) hcok hfw (fun _ _ _ h=>.inl h) (fun _ _ h=>h) (fun _ _ h=>h) rfl (fun k b hk hE hx=>(hG.az b (hZ▸hXC b hx)).2.1 ⟨k,hk,hE⟩)
 refine ⟨hok,hG.rep,hG.kf,hG.sz,hG.df,⟨hfw.os.trans hG.fw.os,hfw.tape.trans hG.fw.tape,hfw.output.trans hG.fw.output,Nat.le_trans hG.fw.size hfw.size,fun b hb hx=>?_⟩,hG.c0,hG.c1,hG.lv,hG.e0,hG.p0,hG.ks,by rw [hA];exact hmk,fun b hb=>⟨Nat.lt_of_lt_of_le (hG.az b hb).1 hfw.size,(hG.az b hb).2⟩⟩
 exact (hfw.block b (Nat.lt_of_lt_of_le hb hG.fw.size) fun h=>hx (hX b (hXC b h))).trans (hG.fw.block b hb hx)
theorem ow_xstore {ad x:Operand}{t:TypeId}{b oo:Nat}{g:Bool}{C:CellR}{u0 y:Value} (hg:Wanted s ops o) (hd:o.dst=none) (ho:o.op=.store t ad x) (ha:ev s.f ad=.d (.v (.pointer (some ⟨b,oo,none⟩)))) (hx:ev s.f x=.d (.v y))
  (ht:tyK P t=some (g,1)) (hy:isSc y=true) (hZ:en.Z=Zof C) (hA:en.Amb=MK C) (hX:∀ b,Zof C b→en.X b) (hc:C b oo u0) (h0:isSc u0=true) (hK:OWs P en ops l K s):OWs P en ops (o::l) K s:=fun a w hs Q hQ=>by
 obtain ⟨G,hG⟩:=hs
 refine wpList_step fun K' hK'=>?_
 rw [if_pos (wanted_run hg hG.rep)]
 have hav:=sim_v hG ha
 have hxv:=sim_v hG hx
 obtain ⟨r1,r2⟩:=tyK_run ht w
 have ham:=hG.am
 rw [hA] at ham
 obtain ⟨v,g1,g2,g3,g4⟩:=ham b oo u0 hc
 have hst:=run_storeCells_cells (P:=P) b oo [y] 0 w (fun j hj=>by
   have:j=0:=by simpa using hj
   subst this;simp [g1]) (fun j hj=>by
   have:j=0:=by simpa using hj
   subst this;simpa using g3) (fun v hv=>by rw [List.mem_singleton] at hv;subst hv;exact isSc_one hy)
 have hcells:y.cells=#[y]:=by cases y<;>first|rfl|(simp [isSc] at hy)
 refine wp_of_skip (w':=w.setCell ⟨b,oo,none⟩ y) ?_ (hK' _ _ (hK _ _ ⟨G,?_⟩ Q hQ))
 ·unfold execOp
  rw [ho]
  simp only [Instr.storeAt,hav,hxv,Instr.sureAddr,storeVar,Sem.run_bind,Sem.run_pure,Result.andThen_ok,r1,hcells,List.size_toArray,List.length_cons,List.length_nil,Nat.zero_add,ne_eq,not_true_eq_false,if_false]
  simp only [Nat.add_zero,World.setCells] at hst
  rw [hst]
  simp
 ·rw [hd]
  have hp:a.put none undef=a:=rfl
  rw [hp]
  refine sim_amb (X:=(·=b)) hG hZ hA hX (fun b' e=>by subst e;exact ⟨_,_,hc⟩) ⟨rfl,rfl,rfl,by rw [World.setCell];simp,fun k hk hx=>?_⟩ (ham.set hc h0 hy)
  rw [World.setCell]
  simp only [Array.getElem?_modify]
  rw [if_neg (fun e=>hx e.symm)]
theorem ow_xcall {f:FuncId}{x0 x1:Operand}{ats:Array TypeId}{C:CellR}{u:Value}{k k':Int} (hg:Wanted s ops o) (hd:∀ x,o.dst=some x→x<en.sz) (ho:o.op=.call { callee:=.value (.func f),args:=#[x0,x1],argTypes:=ats }) (hx:ev s.f x0=.d (.v u)) (hk:ev s.f x1=.d (.v (.int .i64 k)))
  (hc:CK P f C u k k') (hZ:en.Z=Zof C) (hA:en.Amb=MK C) (hX:∀ b,Zof C b→en.X b) (hK:OWs P en ops l K (s.set o.dst (.d (.v (.int .i64 k'))))):OWs P en ops (o::l) K s:=fun a w hs Q hQ=>by
 obtain ⟨G,hG⟩:=hs
 refine wpList_step fun K' hK'=>?_
 rw [if_pos (wanted_run hg hG.rep)]
 have hxv:=sim_v hG hx
 have hkv:=sim_v hG hk
 have ham:=hG.am
 rw [hA] at ham
 refine wp_call ho hc.enter ?_
 have e0:(#[x0,x1]:Array Operand).toList.map a.eval=[u,.int .i64 k]:=by rw [←hxv,←hkv];rfl
 rw [e0]
 refine (hc.go w G.C hG.ok.cok (fun b o v hcc hz=>(hG.az b (hZ▸hz)).2.2 o v hcc) ham).mono fun e w' ⟨he,hfw,hmk⟩=>⟨_,he,hK' _ _ (hK _ _ ⟨G,?_⟩ Q hQ)⟩
 have h1:=sim_amb hG hZ hA hX (fun _ h=>h) hfw hmk
 have:=h1.step Evo.refl h1.ok (d:=o.dst) (v:=.d (.v (.int .i64 k'))) (u:=.int .i64 k') hd (by unfold RepA RepD;rfl) (by unfold A.lt;trivial)
 rw [St.set_f,St.set_mem]
 exact this
end
end Go.Proofs.YtaammoodcgfhpaaDoor.Eng
