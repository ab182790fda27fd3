/-
 The engine, part 38: slice expressions with three indexes.

 The engine, part 39: elements of rows that are ours are written; a variable whose first cell lies in older blocks.

 The engine, part 40: functions with one variable, whose first cell lies in older blocks.
-/
import Derived.Test.YtndnefealooolaaGreatDoorKE31
import Derived.Test.YtndnefealooolaaGreatDoorKE6
import Derived.Test.YtndnefealooolaaGreatDoorKE30
import Derived.Test.YtndnefealooolaaGreatDoorKN0
set_option linter.unusedSimpArgs false
set_option linter.unusedVariables false
set_option linter.defProp false
set_option maxRecDepth 100000
set_option maxHeartbeats 4000000
namespace Go.Proofs.YtndnefealooolaaGreatDoor.Eng
open Go Go.RowKit

theorem bounds_run3 {P:Program}{ρ:Operand→A}{a:Act}{G:Gh}{lo:Option Operand}{len cap:Nat}{l h m:Int}{vh vm:Operand}{kh km:IntKind} (hlc:len≤cap) (hl:bndA 0 (lo.map ρ)=some l) (hh:a.eval vh=.int kh h) (hm:a.eval vm=.int km m) (h0:0≤l) (h1:l≤h) (h2:h≤m) (h3:m≤len)
  (hr:∀ x,RepA G (ρ x) (a.eval x)) (w:World):(Instr.sliceBounds true len cap (lo.map a.eval) (some (a.eval vh)) (some (a.eval vm))).run P w=.ok (l.toNat,h.toNat,m.toNat) w:=by
 have c1:=bndA_rep hl hr
 have a1:m≤(cap:Int):=by omega
 have a2:(0:Int)≤h:=by omega
 have a3:(0:Int)≤m:=by omega
 have a4:l≤(h.toNat:Int):=by omega
 have a5:h≤(m.toNat:Int):=by omega
 rcases c1 with ⟨rfl,rfl⟩|⟨y1,k1,rfl,e1⟩<;>
  simp [Instr.sliceBounds,Instr.sliceBound,asIntOf, *]
 all_goals first|(intro hq;omega)|(rw [if_pos (by omega),if_pos (by omega)])
theorem aw_condT {P:Program}{en:En}{K:Exit→St→Prop}{s:St}{c:Operand}{x y:Code} (hc:ev s.f c=.d (.v (.bool true))) (h:AWs P en x K s):AWs P en (.cond c x y) K s:=aw_cond hc (fun _=>h) (fun h=>by cases h)
theorem aw_condF {P:Program}{en:En}{K:Exit→St→Prop}{s:St}{c:Operand}{x y:Code} (hc:ev s.f c=.d (.v (.bool false))) (h:AWs P en y K s):AWs P en (.cond c x y) K s:=aw_cond hc (fun h=>by cases h) (fun _=>h)
section
variable {P:Program}{en:En}{ops:Array Oper}{o:Oper}{l:List Oper}{K:St→Prop}{s:St}
theorem ow_slice3 {x hi mx:Operand}{lo:Option Operand}{t e:TypeId}{z:Nat}{g:Bool}{es:List (List D)}{lv hv mv:Int}{kh km:IntKind} (hg:Wanted s ops o) (hd:∀ x,o.dst=some x→x<en.sz) (ho:o.op=.slice t x lo (some hi) (some mx))
  (he:elemsOf (ev s.f x)=some (z,es)) (ht:tyElem P t=some e) (hk:tyK P e=some (g,z)) (hl:bndA 0 (lo.map (ev s.f))=some lv) (hh:ev s.f hi=.d (.v (.int kh hv))) (hm:ev s.f mx=.d (.v (.int km mv))) (b:0≤lv∧lv≤hv∧hv≤mv∧mv≤es.length)
  (hK:OWs P en ops l K (s.set o.dst (.d (.sl z ((es.drop lv.toNat).take (hv.toNat - lv.toNat)))))):OWs P en ops (o::l) K s:=fun a w hs Q hQ=>by
 obtain ⟨G,hG⟩:=hs
 obtain ⟨b0,b1,b2,b3⟩:=b
 have hr:=ev_rep hG.ok.cok.gl hG.rep
 have hhv:=sim_v hG hh
 have hmv:=sim_v hG hm
 obtain ⟨ad,cap,g1,g2,g3,g4⟩:=elemsOf_rep he (hr x)
 have hb:=bounds_run3 (P:=P) (cap:=cap) g2 hl hhv hmv b0 b1 b2 b3 hr w
 obtain ⟨r1,r2⟩:=tyK_run hk w
 refine wpList_step fun K' hK'=>?_
 rw [if_pos (wanted_run hg hG.rep)]
 refine wp_of_value (w':=w) (u:=.slice (if mv.toNat=lv.toNat then ad else ad.map (·.add (lv.toNat*z))) (hv.toNat - lv.toNat) (mv.toNat - lv.toNat)) ?_ (hK' _ _ (hK _ _ ⟨G,?_⟩ Q hQ))
 ·unfold execOp
  rw [ho]
  simp only [Instr.sliceAt,Instr.slice,g1,Sem.run_bind,run_underlying (tyElem_run ht),Result.andThen_ok,Option.map_some,hb,Sem.run_pure,r1]
 ·have:=hG.step Evo.refl hG.ok (d:=o.dst) (v:=.d (.sl z ((es.drop lv.toNat).take (hv.toNat - lv.toNat)))) (u:=.slice (if mv.toNat=lv.toNat then ad else ad.map (·.add (lv.toNat*z))) (hv.toNat - lv.toNat) (mv.toNat - lv.toNat)) hd ?_ (by unfold A.lt;trivial)
  ·rw [St.set_f,St.set_mem]
   exact this
  ·unfold RepA RepD
   have hlen:((es.drop lv.toNat).take (hv.toNat - lv.toNat)).length=hv.toNat - lv.toNat:=by simp;omega
   refine ⟨_,_,by rw [hlen],by omega,by omega,?_⟩
   rcases g4 with g4|⟨b,oo,rfl,hes⟩
   ·left;subst g4;simp
   ·by_cases hc:mv.toNat=lv.toNat
    ·left
     apply List.eq_nil_of_length_eq_zero
     omega
    ·right
     rw [if_neg hc]
     exact ⟨b,oo+lv.toNat*z,by simp [addr_add],RepEs.take _ (RepEs.drop _ hes)⟩
end
end Go.Proofs.YtndnefealooolaaGreatDoor.Eng
namespace Go.Proofs.YtndnefealooolaaGreatDoor.Eng
open Go Go.RowKit

/-! ### A row of ours gets other elements -/
def UpA (N κ:Nat) (e:TypeId) (es es':List (List D)) (x y:A):Prop:=(y=x∧Safe (fun b=>N≤b) x)∨(x=.own κ e 1 es∧y=.own κ e 1 es'∧es'.length=es.length)
def UpL (N κ:Nat) (e:TypeId) (es es':List (List D)):List A→List A→Prop
 | [],ys=>ys=[]
 | x::xs,ys=>∃ y ys',ys=y::ys'∧UpA N κ e es es' x y∧UpL N κ e es es' xs ys'
theorem UpL.nil {N κ:Nat}{e:TypeId}{es es':List (List D)}:UpL N κ e es es' [] []:=rfl
theorem UpL.keep {N κ:Nat}{e:TypeId}{es es':List (List D)}{x:A}{xs ys:List A} (h:Safe (fun b=>N≤b) x) (k:UpL N κ e es es' xs ys):UpL N κ e es es' (x::xs) (x::ys):=⟨x,ys,rfl,.inl ⟨rfl,h⟩,k⟩
theorem UpL.row {N κ:Nat}{e:TypeId}{es es':List (List D)}{xs ys:List A} (h:es'.length=es.length) (k:UpL N κ e es es' xs ys):UpL N κ e es es' (.own κ e 1 es::xs) (.own κ e 1 es'::ys):=⟨_,ys,rfl,.inr ⟨rfl,rfl,h⟩,k⟩
theorem UpA.lt {N κ:Nat}{e:TypeId}{es es':List (List D)}{x y:A}{p:Nat→Prop} (h:UpA N κ e es es' x y) (k:x.lt p):y.lt p:=by
 rcases h with ⟨rfl,_⟩|⟨rfl,rfl,_⟩
 ·exact k
 ·unfold A.lt at k ⊢;exact k
theorem UpL.lt {N κ:Nat}{e:TypeId}{es es':List (List D)}{p:Nat→Prop}:∀ {xs ys:List A},UpL N κ e es es' xs ys→A.ltL p xs→A.ltL p ys
 | [],ys,h,_=>by unfold UpL at h;subst h;unfold A.ltL;trivial
 | x::xs,ys,h,k=>by
  unfold UpL at h
  obtain ⟨y,ys',rfl,h1,h2⟩:=h
  unfold A.ltL at k ⊢
  exact ⟨h1.lt k.1,h2.lt k.2⟩
structure NewRow (G G':Gh) (N κ b:Nat) (e:TypeId) (es es':List (List D)):Prop where
 E:G'.E=G.E
 cp:G'.cp=G.cp
 C:∀ b' o v,G.C b' o v→¬N≤b'→G'.C b' o v
 hE:G.E κ=some b
 rep:RepEs G'.C 1 es' b 0
theorem UpA.rep {G G':Gh}{N κ b:Nat}{e:TypeId}{es es':List (List D)} (hn:NewRow G G' N κ b e es es') {x y:A}{u:Value} (h:UpA N κ e es es' x y) (k:RepA G x u) (hne:es≠[]):RepA G' y u:=by
 have hG:G'={ G with C:=G'.C }:=by
  have h1:=hn.E
  have h2:=hn.cp
  cases G;cases G'
  simp only at h1 h2
  subst h1 h2
  rfl
 rcases h with ⟨rfl,h⟩|⟨rfl,rfl,hl⟩
 ·rw [hG]
  exact h G G'.C u (fun b o v c q=>hn.C b o v c q) k
 ·unfold RepA at k ⊢
  rcases k with ⟨_,k,_⟩|⟨b',k1,k2,k3,k4,_⟩
  ·exact absurd k hne
  ·rw [hn.hE] at k1
   have:=Option.some.inj k1;subst this
   right
   exact ⟨b,by rw [hn.E];exact hn.hE,by rw [hl,hn.cp];exact k2,by rw [hl,hn.cp];exact k3,by rw [hn.cp];exact k4,hn.rep⟩
theorem UpL.rep {G G':Gh}{N κ b:Nat}{e:TypeId}{es es':List (List D)} (hn:NewRow G G' N κ b e es es') (hne:es≠[]):∀ {xs ys:List A}{us:List Value},UpL N κ e es es' xs ys→RepAL G xs us→RepAL G' ys us
 | [],ys,us,h,k=>by unfold UpL at h;subst h;unfold RepAL at k ⊢;exact k
 | x::xs,ys,us,h,k=>by
  unfold UpL at h
  obtain ⟨y,ys',rfl,h1,h2⟩:=h
  unfold RepAL at k ⊢
  obtain ⟨u,us',rfl,k1,k2⟩:=k
  exact ⟨u,us',rfl,h1.rep hn k1 hne,h2.rep hn hne k2⟩
def St.keepO (s:St) (ts ws:List Nat) (κ n:Nat) (e:TypeId) (y:A) (bs:List (Nat × Option (List A))):St:={ fr:=ws.map (fun t=>(t,y))++ts.map fun t=>(t,s.f t),bx:=bs,al:=[(κ,some (n,e,1))],nx:=s.nx }
theorem keepO_f (s:St) (ts ws:List Nat) (κ n:Nat) (e:TypeId) (y:A) (bs:List (Nat × Option (List A))) (t:Nat):(s.keepO ts ws κ n e y bs).f t=if t∈ws then y else if t∈ts then s.f t else .top:=by
 unfold St.keepO St.f
 simp only
 induction ws with
 | nil=>simp only [List.map_nil,List.nil_append,List.not_mem_nil,if_false];exact keep_f s ts [] t
 | cons w ws ih=>
  simp only [List.map_cons,List.cons_append,lk_cons]
  by_cases h:t=w
  ·subst h;simp
  ·rw [upd_ne _ _ h,ih]
   simp [h]
def BsOk (s:St) (N κ:Nat) (e:TypeId) (es es':List (List D)):List (Nat × Option (List A))→Prop
 | []=>True
 | (k,o)::r=>(∃ cs cs',o=some cs'∧lk none s.bx k=some cs∧UpL N κ e es es' cs cs')∧BsOk s N κ e es es' r
theorem BsOk.get {s:St}{N κ:Nat}{e:TypeId}{es es':List (List D)}:∀ {bs:List (Nat × Option (List A))},BsOk s N κ e es es' bs→∀ {k:Nat}{cs':List A},lk none bs k=some cs'→∃ cs,lk none s.bx k=some cs∧UpL N κ e es es' cs cs'
 | [],_,k,cs',h=>by simp [lk] at h
 | (k0,o)::r,hb,k,cs',h=>by
  unfold BsOk at hb
  rw [lk_cons] at h
  by_cases e':k=k0
  ·subst e'
   rw [upd_same] at h
   obtain ⟨cs,cs2,h1,h2,h3⟩:=hb.1
   rw [h1] at h
   have:=Option.some.inj h;subst this
   exact ⟨cs,h2,h3⟩
  ·rw [upd_ne _ _ e'] at h
   exact hb.2.get h
structure Own1 (en:En) (s:St):Prop where
 cok:Cok en.C en.w
 X:∀ b,en.X b→en.E 0=some b
 ks:en.ks 0
 b0:(lk none s.bx 0).isSome=true
theorem sim_own {en:En}{s:St}{a:Act}{w w':World}{G:Gh}{κ b:Nat}{e:TypeId}{es es':List (List D)}{cur cur':Array Value}{xs':List Value}{ts ws:List Nat}{y:A}{bs:List (Nat × Option (List A))}
  (hG:Sim en s.f s.mem a w G) (ho:Own1 en s) (hk0:κ≠0) (hal:lk none s.al κ=some (es.length,e,1)) (hne:es≠[]) (hE:G.E κ=some b) (hcp:es.length≤G.cp κ∧G.cp κ≤maxLen)
  (hw:w.heap[b]?=some (.cells cur e (0,0))) (hw':w'.heap[b]?=some (.cells cur' e (0,0))) (hsz:cur'.size=cur.size) (hoth:∀ k,k≠b→w'.heap[k]?=w.heap[k]?) (hwo:w'.os=w.os∧w'.tape=w.tape∧w'.output=w.output) (hws:w'.heap.size=w.heap.size)
  (hle:es'.length≤es.length) (hxs:∀ (o:Nat) u,xs'[o]?=some u→cur'[o]?=some u) (hxl:xs'.length=es'.length) (hrep:∀ C,RepL C es'.flatten xs') (hone:∀ x∈xs',x.oneCell'=true) (hz:∀ e∈es',e.length=1) (hco:(∀ x∈cur.toList,x.oneCell'=true)→∀ x∈cur'.toList,x.oneCell'=true)
  (hts:SafeTs (fun b=>en.w.heap.size≤b) s ts) (hwt:∀ t∈ws,UpA en.w.heap.size κ e es es' (s.f t) y) (hbs:BsOk s en.w.heap.size κ e es es' bs) :
  ∃ G',Sim en (s.keepO ts ws κ es'.length e y bs).f (s.keepO ts ws κ es'.length e y bs).mem a w' G'∧∀ u,u=.slice (some ⟨b,0,none⟩) es'.length (G.cp κ)→RepA G' (.own κ e 1 es') u:=by
 have hκl:s.mem.live κ:=.inr (by rw [show s.mem.al κ=some (es.length,e,1) from hal];rfl)
 have h0l:s.mem.live 0:=.inl ho.b0
 have hbN:en.w.heap.size≤b:=by
  rcases hG.lv b ⟨κ,hκl,hE⟩ with h|h
  ·exact h
  ·have h2:G.E 0=some b:=(hG.e0 0 ho.ks).trans (ho.X b h)
   exact absurd (hG.ok.inj κ 0 b hκl h0l hE h2) hk0
 let G':Gh:={ G with C:=fun b' o u=>(G.C b' o u∧¬en.w.heap.size≤b')∨(b'=b∧xs'[o]?=some u) }
 have hnew:NewRow G G' en.w.heap.size κ b e es es':=⟨rfl,rfl,fun b' o v h q=>.inl ⟨h,q⟩,hE,RepEs.ofList (us:=xs') hz (hrep _) fun i u hi=>.inr ⟨rfl,by simpa using hi⟩⟩
 have hlow:∀ b' o u,G'.C b' o u→b'≠b→G.C b' o u:=fun b' o u h q=>by
  rcases h with h|h
  ·exact h.1
  ·exact absurd h.1 q
 have hlive:∀ j,(s.keepO ts ws κ es'.length e y bs).mem.live j→s.mem.live j:=fun j hj=>by
  rcases hj with hj|hj
  ·obtain ⟨cs',hc⟩:=Option.isSome_iff_exists.1 hj
   obtain ⟨cs,h1,_⟩:=hbs.get hc
   exact .inl (by rw [show s.mem.bx j=some cs from h1];rfl)
  ·by_cases e':j=κ
   ·subst e';exact hκl
   ·have:lk none [(κ,some (es'.length,e,1))] j=none:=by simp [lk,Ne.symm e']
    have hj':(lk none [(κ,some (es'.length,e,1))] j).isSome=true:=hj
    rw [this] at hj'
    cases hj'
 have hmine:∀ b,Mine G' (s.keepO ts ws κ es'.length e y bs).mem b→Mine G s.mem b:=fun b ⟨j,hj,hE⟩=>⟨j,hlive j hj,hE⟩
 have hself:∀ u,u=.slice (some ⟨b,0,none⟩) es'.length (G.cp κ)→RepA G' (.own κ e 1 es') u:=fun u hu=>by
  unfold RepA
  right
  exact ⟨b,hE,hu,by show es'.length≤G.cp κ;omega,hcp.2,hnew.rep⟩
 refine ⟨G',⟨⟨⟨fun b' o u h=>?_,fun b' o u h hl=>?_,?_,hG.ok.cok.tb.keep ho.cok.gl fun b' _ _ _ _ h0 hC=>hoth b' fun q=>(hC 0 h0).elim fun u hu=>by
   have:=cell_lt (ho.cok.cell _ _ _ hu).1
   omega⟩,fun k cs h=>?_,fun k n e' z h b' hb'=>?_,fun k k' b h h'=>hG.ok.inj k k' b (hlive k h) (hlive k' h'),fun k h=>hG.ok.lt k (hlive k h),fun k h=>?_⟩,fun t=>?_,fun t=>?_,hG.sz,hG.df,?_,fun b' o u h=>?_,fun b' o u h hb hx=>?_,fun b hb=>hG.lv b (hmine b hb),hG.e0,hG.p0,hG.ks,?_,fun b' hb=>?_⟩,hself⟩
 ·rcases h with h|⟨rfl,h⟩
  ·have:=hG.ok.cell b' o u h.1
   exact ⟨(World.cell?_of_block (w:=w) (a:=⟨b',o,none⟩) (hoth b' fun e=>h.2 (e▸hbN))).trans this.1,this.2⟩
  ·exact ⟨by simp [World.cell?,hw',hxs o u h],hone u (List.mem_of_getElem? h)⟩
 ·rcases h with h|⟨rfl,h⟩
  ·rw [frz_of_block (hoth b' fun e=>h.2 (e▸hbN))]
   exact hG.ok.cok.nf b' o u h.1 hl
  ·exact frz_of_cells hw'
 ·exact ho.cok.gl.mono fun b o u h=>.inl ⟨hG.c0 b o u h,fun q=>by
   have:=cell_lt (ho.cok.cell _ _ _ h).1
   omega⟩
 ·obtain ⟨cs0,h1,h2⟩:=hbs.get h
  obtain ⟨b1,q1,⟨vs,ty,q2,q3,q4,q5⟩,q6⟩:=hG.ok.box k cs0 h1
  have hkl:s.mem.live k:=.inl (by rw [show s.mem.bx k=some cs0 from h1];rfl)
  have hb1:b1≠b:=fun e'=>by
   subst e'
   have:=hG.ok.inj k κ b1 hkl hκl q1 hE
   subst this
   have h3:=hG.ok.sep k (by rw [show s.mem.bx k=some cs0 from h1];rfl)
   rw [show s.mem.al k=some (es.length,e,1) from hal] at h3
   cases h3
  exact ⟨b1,q1,⟨vs,ty,(hoth b1 hb1).trans q2,h2.rep hnew hne q3,q4,fun j u hc=>q5 j u (hlow _ _ _ hc hb1)⟩,h2.lt q6⟩
 ·have e1:lk none [(κ,some (es'.length,e,1))] k=some (n,e',z):=h
  rw [lk_cons] at e1
  by_cases e2:k=κ
  ·subst e2
   rw [upd_same] at e1
   simp only [Option.some.injEq,Prod.mk.injEq] at e1
   obtain ⟨rfl,rfl,rfl⟩:=e1
   have hb2:G.E k=some b':=hb'
   rw [hE] at hb2
   have:=Option.some.inj hb2;subst this
   obtain ⟨cur0,r1,r2,r3,r4⟩:=hG.ok.row k _ _ _ hal b hE
   rw [hw] at r1
   obtain rfl:cur=cur0:=by simpa using r1
   refine ⟨cur',hw',by rw [hsz];exact r2,⟨by show es'.length≤G.cp k;omega,hco r3.2⟩,fun j u hj hc=>?_⟩
   rcases hc with hc|hc
   ·exact hc.2 hbN
   ·have:=(List.getElem?_eq_some_iff.1 hc.2).1
    omega
  ·rw [upd_ne _ _ e2] at e1
   simp [lk] at e1
 ·obtain ⟨cs',hc⟩:=Option.isSome_iff_exists.1 h
  obtain ⟨cs,h1,_⟩:=hbs.get hc
  have h3:=hG.ok.sep k (by rw [show s.mem.bx k=some cs from h1];rfl)
  by_cases e2:k=κ
  ·subst e2
   rw [show s.mem.al k=some (es.length,e,1) from hal] at h3
   cases h3
  ·show lk none [(κ,some (es'.length,e,1))] k=none
   simp [lk,Ne.symm e2]
 ·rw [keepO_f]
  split
  ·rename_i ht
   exact (hwt t ht).rep hnew (hG.rep t) hne
  ·split
   ·rename_i ht
    exact (hts.all t ht) G _ _ (fun b o v h q=>.inl ⟨h,q⟩) (hG.rep t)
   ·unfold RepA;trivial
 ·rw [keepO_f]
  split
  ·rename_i ht
   exact (hwt t ht).lt (hG.kf t)
  ·split
   ·exact hG.kf t
   ·unfold A.lt;trivial
 ·exact ⟨hwo.1.trans hG.fw.os,hwo.2.1.trans hG.fw.tape,hwo.2.2.trans hG.fw.output,by rw [hws];exact hG.fw.size,fun k hk hx=>(hoth k fun e'=>by omega).trans (hG.fw.block k hk hx)⟩
 ·exact .inl ⟨hG.c0 b' o u h,fun q=>by
   have:=cell_lt (ho.cok.cell _ _ _ h).1
   omega⟩
 ·rcases h with h|h
  ·exact hG.c1 b' o u h.1 hb hx
  ·omega
 ·exact en.stab w w' (fun z hz=>hoth z fun e'=>(hG.az z hz).2.1 ⟨κ,hκl,e'▸hE⟩) hG.am
 ·obtain ⟨a1,a2,a3⟩:=hG.az b' hb
  refine ⟨by rw [hws];exact a1,fun hm=>a2 (hmine b' hm),fun o u h=>?_⟩
  rcases h with h|h
  ·exact a3 o u h.1
  ·exact a2 ⟨κ,hκl,by rw [h.1];exact hE⟩
section
variable {P:Program}{en:En}{ops:Array Oper}{o:Oper}{l:List Oper}{K:St→Prop}{s:St}
theorem own_get {G:Gh}{w:World}{m:Mem} (hok:MemOk G w m) {κ:Nat}{e:TypeId}{es:List (List D)}{u:Value} (hal:m.al κ=some (es.length,e,1)) (hne:es≠[]) (hr:RepA G (.own κ e 1 es) u) :
  ∃ b cur,G.E κ=some b∧u=.slice (some ⟨b,0,none⟩) es.length (G.cp κ)∧(es.length≤G.cp κ∧G.cp κ≤maxLen)∧w.heap[b]?=some (.cells cur e (0,0))∧cur.size=G.cp κ*1∧RepEs G.C 1 es b 0:=by
 unfold RepA at hr
 rcases hr with ⟨_,h,_⟩|⟨b,h1,h2,h3,h4,h5⟩
 ·exact absurd h hne
 ·obtain ⟨cur,r1,r2,r3,r4⟩:=hok.row κ _ _ _ hal b h1
  exact ⟨b,cur,h1,h2,⟨h3,h4⟩,r1,r2,h5⟩
abbrev rowB (l:List UInt8):List (List D):=l.map fun c=>[uD c]
theorem rowB_len (l:List UInt8):(rowB l).length=l.length:=List.length_map _
theorem rowB_z (l:List UInt8):∀ e∈rowB l,e.length=1:=fun e he=>by
 obtain ⟨c,_,rfl⟩:=List.mem_map.1 he
 rfl
theorem rowB_rep (C:CellR):∀ l:List UInt8,RepL C (rowB l).flatten (l.map fun c=>Value.int .u8 (c.toNat:Int))
 | []=>by unfold rowB;simp [RepL]
 | c::l=>by
  simp only [rowB,List.map_cons,List.flatten_cons,List.cons_append,List.nil_append]
  unfold RepL
  exact ⟨_,_,rfl,by unfold uD RepD;rfl,rowB_rep C l⟩
theorem rowB_vals {C:CellR}{B:List UInt8}{xs:List Value} (h:RepL C (rowB B).flatten xs):xs=B.map fun c=>Value.int .u8 (c.toNat:Int):=by
 induction B generalizing xs with
 | nil=>
  unfold rowB at h
  simp only [List.map_nil,List.flatten_nil] at h
  unfold RepL at h
  exact h
 | cons c B ih=>
  simp only [rowB,List.map_cons,List.flatten_cons,List.cons_append,List.nil_append] at h
  unfold RepL at h
  obtain ⟨u,us',rfl,h1,h2⟩:=h
  unfold uD at h1
  rw [repD_v] at h1
  rw [h1,ih h2]
  rfl
theorem ow_storeO {t:TypeId}{ad x:Operand}{κ j t0:Nat}{e:TypeId}{B:List UInt8}{c:UInt8}{g:Bool} (ts ws:List Nat) (bs:List (Nat × Option (List A))) (hg:Wanted s ops o) (hd:o.dst=none) (h:o.op=.store t ad x) (ha:ev s.f ad=.ptr κ j) (hx:ev s.f x=.d (uD c)) (ht:tyK P t=some (g,1))
  (hal:lk none s.al κ=some (B.length,e,1)) (h0:s.f t0=.own κ e 1 (rowB B)) (hj:j<B.length) (hk0:κ≠0) (ho:Own1 en s)
  (hts:SafeTs (fun b=>en.w.heap.size≤b) s ts) (hwt:∀ t∈ws,s.f t=.own κ e 1 (rowB B)) (hbs:BsOk s en.w.heap.size κ e (rowB B) (rowB (B.set j c)) bs)
  (hK:OWs P en ops l K (s.keepO ts ws κ B.length e (.own κ e 1 (rowB (B.set j c))) bs)):OWs P en ops (o::l) K s:=fun a w ⟨G,hG⟩ Q hQ=>by
 refine wpList_step fun K' hK'=>?_
 rw [if_pos (wanted_run hg hG.rep)]
 have hne:rowB B≠[]:=fun h=>by
  have:=congrArg List.length h
  rw [rowB_len] at this
  simp at this
  subst this
  simp at hj
 have hr0:=hG.rep t0
 rw [h0] at hr0
 have hal':s.mem.al κ=some ((rowB B).length,e,1):=by rw [rowB_len];exact hal
 obtain ⟨b,cur,q1,q2,q3,q4,q5,q6⟩:=own_get hG.ok hal' hne hr0
 have hra:=ev_rep hG.ok.cok.gl hG.rep ad
 rw [ha] at hra
 unfold RepA at hra
 obtain ⟨b',hE',hav⟩:=hra
 rw [q1] at hE'
 have:=Option.some.inj hE';subst this
 have hrx:=ev_rep hG.ok.cok.gl hG.rep x
 rw [hx] at hrx
 unfold RepA uD at hrx
 rw [repD_v] at hrx
 have hlen:(rowB B).length=B.length:=rowB_len B
 have hcur:j+0+1≤cur.size:=by rw [q5];omega
 have hst:=run_storeCells_at (P:=P) b j e [Value.int .u8 (c.toNat:Int)] 0 cur w q4 (by simpa using hcur) (fun v hv=>by rw [List.mem_singleton] at hv;subst hv;rfl)
 simp only [Nat.add_zero,List.length_singleton] at hst
 obtain ⟨xs,x1,x2,x3⟩:=q6.list
 have hpre:∀ (i:Nat) u,(B.map fun c=>Value.int .u8 (c.toNat:Int))[i]?=some u→cur[i]?=some u:=fun i u hi=>by
  rw [←rowB_vals x1] at hi
  have:=(hG.ok.cell _ _ _ (x3 i u hi)).1
  rw [Nat.zero_add,cell_of_row w b i cur e (0,0) q4] at this
  exact this
 have hw':=setRow_heap w b cur (cur.toList.take j++[Value.int .u8 (c.toNat:Int)]++cur.toList.drop (j+1)).toArray e (0,0) q4
 obtain ⟨G',s1,s2⟩:=sim_own (w':=w.setRow b (cur.toList.take j++[Value.int .u8 (c.toNat:Int)]++cur.toList.drop (j+1)).toArray) (xs':=(B.set j c).map fun c=>Value.int .u8 (c.toNat:Int)) (es:=rowB B) (es':=rowB (B.set j c)) (y:=.own κ e 1 (rowB (B.set j c))) (ts:=ts) (ws:=ws) (bs:=bs)
  hG ho hk0 hal' hne q1 q3 q4 hw' (by simp only [List.size_toArray,List.length_append,List.length_take,List.length_drop,Array.length_toList,List.length_singleton];omega) (fun k hk=>setRow_other w b k _ hk) ⟨rfl,rfl,rfl⟩ (by simp) (by rw [rowB_len,rowB_len,List.length_set];exact Nat.le_refl _)
  (fun i u hi=>by
   simp only [List.getElem?_toArray]
   rw [List.append_assoc]
   rw [List.getElem?_map,List.getElem?_set] at hi
   by_cases e1:j=i
   ·subst e1
    rw [if_pos rfl,if_pos hj] at hi
    rw [List.getElem?_append_right (by rw [List.length_take,Array.length_toList];omega),List.length_take,Array.length_toList,show j - min j cur.size=0 by omega]
    simpa using hi
   ·rw [if_neg e1] at hi
    have hi':=hpre i u (by rw [List.getElem?_map];exact hi)
    rcases Nat.lt_or_ge i j with h1|h1
    ·rw [List.getElem?_append_left (by rw [List.length_take,Array.length_toList];omega),List.getElem?_take,if_pos h1]
     simpa using hi'
    ·rw [List.getElem?_append_right (by rw [List.length_take,Array.length_toList];omega),List.length_take,Array.length_toList,show i - min j cur.size=(i - j - 1)+1 by omega]
     simp only [List.cons_append,List.nil_append,List.getElem?_cons_succ,List.getElem?_drop]
     rw [show j+1+(i - j - 1)=i by omega]
     simpa using hi')
  (by rw [List.length_map,rowB_len]) (fun C=>rowB_rep C _) (fun v hv=>by obtain ⟨c0,_,rfl⟩:=List.mem_map.1 hv;rfl) (rowB_z _) (fun hq x hx=>by
   simp only [List.mem_append] at hx
   rcases hx with (hx|hx)|hx
   ·exact hq x (List.mem_of_mem_take hx)
   ·rw [List.mem_singleton] at hx;subst hx;rfl
   ·exact hq x (List.mem_of_mem_drop hx)) hts (fun t ht=>.inr ⟨hwt t ht,rfl,by rw [rowB_len,rowB_len,List.length_set]⟩) hbs
 have hlen2:(rowB (B.set j c)).length=B.length:=by rw [rowB_len,List.length_set]
 rw [hlen2] at s1
 obtain ⟨r1,r2⟩:=tyK_run ht w
 refine wp_of_skip (w':=w.setRow b (cur.toList.take j++[Value.int .u8 (c.toNat:Int)]++cur.toList.drop (j+1)).toArray) ?_ (hK' _ _ (hK _ _ ⟨G',?_⟩ Q hQ))
 ·unfold execOp
  rw [h]
  simp only [Instr.storeAt,hav,Instr.sureAddr,storeVar,Sem.run_bind,Sem.run_pure,Result.andThen_ok,r1,hrx,Value.cells,List.size_toArray,List.length_singleton,ne_eq,not_true_eq_false,if_false,hst]
 ·rw [hd]
  exact s1
theorem ow_sliceO {t:TypeId}{x hi:Operand}{κ k t0 td:Nat}{e:TypeId}{B:List UInt8}{g:Bool}{kd:IntKind} (ts:List Nat) (bs:List (Nat × Option (List A))) (hg:Wanted s ops o) (hd:o.dst=some td) (htd:td<en.sz) (h:o.op=.slice t x none (some hi) none) (hx:ev s.f x=.own κ e 1 (rowB B)) (hh:ev s.f hi=.d (.v (.int kd (k:Nat)))) (ht:tyElem P t=some e) (hke:tyK P e=some (g,1))
  (hal:lk none s.al κ=some (B.length,e,1)) (h0:0<B.length) (hk:k≤B.length) (hk0:κ≠0) (ho:Own1 en s)
  (hts:SafeTs (fun b=>en.w.heap.size≤b) s ts) (hbs:BsOk s en.w.heap.size κ e (rowB B) (rowB (B.take k)) bs)
  (hK:OWs P en ops l K ((s.keepO ts [] κ k e .top bs).set (some td) (.own κ e 1 (rowB (B.take k))))):OWs P en ops (o::l) K s:=fun a w ⟨G,hG⟩ Q hQ=>by
 refine wpList_step fun K' hK'=>?_
 rw [if_pos (wanted_run hg hG.rep)]
 have hne:rowB B≠[]:=fun h=>by
  have:=congrArg List.length h
  rw [rowB_len] at this
  simp at this
  subst this
  simp at h0
 have hr0:=ev_rep hG.ok.cok.gl hG.rep x
 rw [hx] at hr0
 have hal':s.mem.al κ=some ((rowB B).length,e,1):=by rw [rowB_len];exact hal
 obtain ⟨b,cur,q1,q2,q3,q4,q5,q6⟩:=own_get hG.ok hal' hne hr0
 have hrh:=ev_rep hG.ok.cok.gl hG.rep hi
 rw [hh] at hrh
 unfold RepA at hrh
 rw [repD_v] at hrh
 have hlen:(rowB B).length=B.length:=rowB_len B
 rw [hlen] at q2 q3
 have hes':rowB (B.take k)=(rowB B).take k:=List.map_take
 have hlk:(B.take k).length=k:=by rw [List.length_take];omega
 obtain ⟨xs,x1,x2,x3⟩:=q6.list
 obtain ⟨G',s1,s2⟩:=sim_own (w':=w) (cur':=cur) (xs':=(B.take k).map fun c=>Value.int .u8 (c.toNat:Int)) (es:=rowB B) (es':=rowB (B.take k)) (y:=.top) (ts:=ts) (ws:=[]) (bs:=bs)
  hG ho hk0 hal' hne q1 (by rw [hlen];exact q3) q4 q4 rfl (fun _ _=>rfl) ⟨rfl,rfl,rfl⟩ rfl (by rw [rowB_len,rowB_len,hlk];exact hk)
  (fun i u hi=>by
   have hi2:(B.map fun c=>Value.int .u8 (c.toNat:Int))[i]?=some u:=by
    rw [List.map_take,List.getElem?_take] at hi
    split at hi
    ·exact hi
    ·cases hi
   rw [←rowB_vals x1] at hi2
   have:=(hG.ok.cell _ _ _ (x3 i u hi2)).1
   rw [Nat.zero_add,cell_of_row w b i cur e (0,0) q4] at this
   exact this)
  (by rw [List.length_map,rowB_len]) (fun C=>rowB_rep C _) (fun v hv=>by obtain ⟨c0,_,rfl⟩:=List.mem_map.1 hv;rfl) (rowB_z _) (fun hq=>hq) hts (fun t ht=>by cases ht) hbs
 rw [rowB_len,hlk] at s1 s2
 obtain ⟨r1,r2⟩:=tyK_run hke w
 have hb:=bounds_run (P:=P) (G:=G) (ρ:=ev s.f) (a:=a) (lo:=none) (hi:=some hi) (isS:=true) (len:=B.length) (cap:=G.cp κ) (l:=0) (h:=(k:Int)) q3.1 rfl (by simp only [Option.map_some,hh];rfl) (by omega) (by omega) (by omega) (ev_rep hG.ok.cok.gl hG.rep) w
 have hc0:G.cp κ≠0:=by omega
 refine wp_of_value (w':=w) (u:=.slice (some ⟨b,0,none⟩) k (G.cp κ)) ?_ (hK' _ _ (hK _ _ ⟨G',?_⟩ Q hQ))
 ·unfold execOp
  rw [h]
  simp only [Option.map_none,Option.map_some,Int.toNat_zero,Int.toNat_natCast] at hb
  simp only [Instr.sliceAt,Instr.slice,q2,Sem.run_bind,run_underlying (tyElem_run ht),Result.andThen_ok,Option.map_none,Option.map_some,hb,Sem.run_pure,r1,Nat.sub_zero,Nat.zero_mul,if_neg hc0,addr_add,Nat.add_zero]
 ·rw [hd]
  have:=s1.step Evo.refl s1.ok (d:=some td) (v:=.own κ e 1 (rowB (B.take k))) (u:=.slice (some ⟨b,0,none⟩) k (G.cp κ)) (fun x hx=>by cases hx;exact htd) (s2 _ rfl) (by
   unfold A.lt
   exact s1.ok.lt κ (.inr (by show (lk none [(κ,some (k,e,1))] κ).isSome=true;rw [lk_cons,upd_same];rfl)))
  rw [St.set_f,St.set_mem]
  exact this
theorem ow_iaddrO {t e e':TypeId}{x i:Operand}{k n z:Nat}{g:Bool}{kd:IntKind}{es:List (List D)} (hg:Wanted s ops o) (hd:∀ x,o.dst=some x→x<en.sz) (h:o.op=.indexAddr t x i) (ht:tyElem P t=some e) (hk:tyK P e=some (g,z)) (hx:ev s.f x=.own k e' z es) (hi:intA (ev s.f i)=some (kd,(n:Int))) (hn:n<es.length)
  (hK:OWs P en ops l K (s.set o.dst (.ptr k (n*z)))):OWs P en ops (o::l) K s:=ow_does hg hd (does_yields0 (m:=s.mem) (y_iaddrO h ht hk hx hi hn)) s rfl rfl hK
end
section
variable {P:Program}{s:St}{ops:Array Oper}{o:Oper}{l:List Oper}{acc:List Nat}{K2:List Nat→St→Prop}
theorem ol_iaddrO {t e e':TypeId}{x i:Operand}{k n z:Nat}{g:Bool}{kd:IntKind}{es:List (List D)} (hg:match o.guard with|none=>True|some (g,want)=>guardB s ops g=some want) (h:o.op=.indexAddr t x i) (ht:tyElem P t=some e) (hk:tyK P e=some (g,z)) (hx:ev s.f x=.own k e' z es) (hi:intA (ev s.f i)=some (kd,(n:Int))) (hn:n<es.length)
  (hK:OL P ops l (acc++[0]) K2 ({ s with nx:=s.nx+16 }.set o.dst (.ptr k (n*z)))):OL P ops (o::l) acc K2 s:=by
 refine ⟨0,_,?_,(St.set_nx _ _ _).trans rfl,hK⟩
 rw [St.set_f,St.set_mem,St.mem_bump (s:=s) (h:=rfl)]
 refine .run (fun g want hg'=>?_) (by rw [h];exact .iao ht hk hx hi hn)
 rw [hg'] at hg
 simp only at hg
 unfold guardB at hg
 split at hg
 ·rename_i t ht
  refine ⟨t,ht,?_⟩
  split at hg
  ·rename_i b hb
   show s.f t=_
   rw [hb,Option.some.inj hg]
  ·cases hg
 ·cases hg
end
end Go.Proofs.YtndnefealooolaaGreatDoor.Eng
namespace Go.Proofs.YtndnefealooolaaGreatDoor.Eng
open Go Go.RowKit

theorem repZL_dm {C:CellR}{w:World}:∀ {ds:List D}{vs:List Value}{F:List Nat},RepZL C w (ds.map .d) vs F→F=[]∧RepL C ds vs
 | [],vs,F,h=>by
  simp only [List.map_nil] at h
  unfold RepZL at h
  exact ⟨h.2,by unfold RepL;exact h.1⟩
 | d::ds,vs,F,h=>by
  simp only [List.map_cons] at h
  unfold RepZL at h
  obtain ⟨u,us',F1,F2,rfl,rfl,h1,h2⟩:=h
  unfold RepZ at h1
  obtain ⟨rfl,h1⟩:=h1
  obtain ⟨e2,h3⟩:=repZL_dm h2
  subst e2
  exact ⟨rfl,by unfold RepL;exact ⟨u,us',rfl,h1,h3⟩⟩
theorem repZL_md {C:CellR}{w:World}:∀ {ds:List D}{vs:List Value},RepL C ds vs→RepZL C w (ds.map .d) vs []
 | [],vs,h=>by
  unfold RepL at h
  simp only [List.map_nil]
  unfold RepZL
  exact ⟨h,rfl⟩
 | d::ds,vs,h=>by
  unfold RepL at h
  obtain ⟨u,us',rfl,h1,h2⟩:=h
  simp only [List.map_cons]
  unfold RepZL
  exact ⟨u,us',[],[],rfl,rfl,by unfold RepZ;exact ⟨rfl,h1⟩,repZL_md h2⟩
theorem calls_at {P:Program}{f:FuncId}{fn:Func}{c:Code}{args:List A}{ds:List D}{Q:Rz→Option (List Rz)→Prop} (hf:P.funcs[f]?=some fn) (hb:fn.body=some c) {n:Nat} (hn:fn.ntmps=n) (hl:args.length≤n) (ha:ArgsOk args)
  {w:World}{C:CellR}{β:Nat}{vs:List Value} (hC:Cok C w) (hr:RepAL (argG C (some (ds.map .d)) β) args vs) (hbo:BoxO C w (some (ds.map .d)) β [])
  (h:AWs P { w:=w,C:=C,X:=(·∈XO (some (ds.map .d)) β []),E:=(argG C (some (ds.map .d)) β).E,cp:=(argG C (some (ds.map .d)) β).cp,ks:=fun k=>k=0∧(some (ds.map Rz.d)).isSome=true,sz:=n } c (Fin P fn (some (ds.map .d)) Q) (St.init args (some (ds.map .d)))) :
  Calls P f ⟨vs⟩ w fun e w'=>∃ v r bx' C' F F',e=.returned v∧Q r bx'∧bx'.isSome=true∧(∀ b o u,C b o u→C' b o u)∧Cok C' w'∧BelowX (·∈XO (some (ds.map .d)) β []) w.heap.size w w'∧
   (∀ b o u,C' b o u→C b o u∨w.heap.size≤b∨b∈XO (some (ds.map .d)) β [])∧RepZ C' w' r v F∧BoxO C' w' bx' β F'∧(XO bx' β F'++F).Nodup∧∀ b,b∈F'++F→w.heap.size≤b∨b∈XO (some (ds.map .d)) β []:=by
 have hk:∀ zs,some (ds.map Rz.d)=some zs→Rz.nkL zs≤16:=fun zs e=>by
  have:=Option.some.inj e;subst this
  rw [nkL_d];exact Nat.zero_le _
 generalize hbx:some (ds.map Rz.d)=bx at hr hbo h hk ⊢
 have hbs:bx.isSome=true:=by rw [←hbx];rfl
 have hnd:(XO bx β []).Nodup:=by rw [←hbx];simp [XO]
 have hlen:=hr.get.1
 obtain ⟨G0,m1,m2,m3,m4⟩:=init_ok (args:=args) hC hbo hnd hk
 refine calls_of_wp hf hb (wp_mono (h _ w ⟨G0,?_⟩) fun e a' w' ⟨s',⟨G,hG⟩,hfin⟩=>?_)
 ·have hnx:16≤(St.init args bx).nx:=by cases bx<;>simp [St.init]
  refine ⟨m1,fun t=>?_,fun t=>?_,?_,rfl,BelowX.refl _ _ _,fun b o u h=>by rw [m3];exact h,fun b o u h _ _=>by rw [m3] at h;exact h,fun b hb=>.inr (m4 b hb),fun k hk=>m2.E k (by show k<16;have:=hk.1;omega),fun k hk=>m2.cp k (by show k<16;have:=hk.1;omega),fun k hk=>(by show k<(St.init args bx).nx;have:=hk.1;omega),trivial,fun b hb=>hb.elim⟩
  ·rw [init_fr]
   exact RepA.mono m2 _ _ (argsOk_lt ha (by show (0:Nat)<16;omega) t) (hr.getD _ t)
  ·rw [init_fr]
   exact argsOk_lt ha (show (0:Nat)<(St.init args bx).nx by omega) t
  ·simp only [Array.size_append,List.size_toArray,Array.size_replicate,hn]
   omega
 ·obtain ⟨hex,hres⟩:=hfin
  obtain ⟨l,us,⟨r,ks,hz,hrest⟩,hrl,hrun⟩:=resL_run hG.ok hG.rep _ hres
  have hrr:=results_run hrun
  obtain ⟨hrz,hlive⟩:=toF_rep hG.ok hz (resOf_rep hrl)
  have hcn:∀ b o u,G.C b o u→C b o u∨w.heap.size≤b∨b∈XO bx β []:=fun b o u hc=>by
   by_cases hlt:b<w.heap.size
   ·by_cases hx:b∈XO bx β []
    ·exact .inr (.inr hx)
    ·exact .inl (hG.c1 b o u hc hlt hx)
   ·exact .inr (.inl (by omega))
  have hloc:∀ ks:List Nat,(∀ k∈ks,s'.mem.live k)→∀ b∈ks.filterMap G.E,w.heap.size≤b∨b∈XO bx β []:=fun ks hl b hb=>by
   obtain ⟨k,hk,hE⟩:=List.mem_filterMap.1 hb
   exact hG.lv b ⟨k,hl k hk,hE⟩
  have key:a'.defers=[]∧∃ v,(results fn a'.tmps).run P w'=.ok v w'∧∃ v' r bx' C' F F',Ending.returned v=.returned v'∧Q r bx'∧bx'.isSome=true∧(∀ b o u,C b o u→C' b o u)∧Cok C' w'∧BelowX (·∈XO bx β []) w.heap.size w w'∧
   (∀ b o u,C' b o u→C b o u∨w.heap.size≤b∨b∈XO bx β [])∧RepZ C' w' r v' F∧BoxO C' w' bx' β F'∧(XO bx' β F'++F).Nodup∧∀ b,b∈F'++F→w.heap.size≤b∨b∈XO bx β []:=by
   cases bx with
   | none=>cases hbs
   | some zs0=>
    obtain ⟨cs,zs,kb,hb0,hzb,hks,hQ⟩:=hrest
    obtain ⟨b0,q1,⟨vs',ty,q2,q3,q4,q5⟩,_⟩:=hG.ok.box 0 cs hb0
    obtain ⟨hrb,hliveb⟩:=toZL_rep hG.ok _ hzb q3
    have hE0:G.E 0=some β:=by rw [hG.e0 0 ⟨rfl,rfl⟩];simp [argG]
    rw [hE0] at q1
    have:=Option.some.inj q1;subst this
    have hl0:s'.mem.live 0:=.inl (by rw [show s'.mem.bx 0=some cs from hb0];rfl)
    have hall:∀ k∈0::kb++ks,s'.mem.live k:=fun k hk=>by
     rcases List.mem_append.1 hk with hk|hk
     ·rcases List.mem_cons.1 hk with rfl|hk
      ·exact hl0
      ·exact hliveb k hk
     ·exact hlive k hk
    have hnd':=keys_nodup hG.ok hks hall
    rw [List.filterMap_append,List.filterMap_cons,hE0] at hnd'
    refine ⟨hG.df,_,hrr,_,r,some zs,G.C,_,_,rfl,hQ,rfl,hG.c0,hG.ok.cok,hG.fw,hcn,hrz,⟨vs',ty,q2,hrb,q4,q5⟩,hnd',fun b hb=>?_⟩
    rcases List.mem_append.1 hb with hb|hb
    ·exact hloc kb hliveb b hb
    ·exact hloc ks hlive b hb
  rcases hex with rfl|rfl<;>exact key
theorem calls_bodyC {P:Program}{f:FuncId}{fn:Func}{c:Code}{args:List A}{p:Nat→Prop}{X:D}{ds:List D}{r0:Rz}{ds':List D} (hf:P.funcs[f]?=some fn) (hb:fn.body=some c) (he:∀ vs w,(callFunc f vs).run P w=.ok (.enter f vs) w) {n:Nat} (hn:fn.ntmps=n) (hl:args.length≤n) (ha:ArgsOk args)
  (h:∀ (en:En) (q:Nat→Prop),en.sz=n→Cok en.C en.w→(∀ b,en.X b→en.E 0=some b)→en.ks 0→(∀ k,en.ks k→k=0)→(∀ b,q b→b<en.w.heap.size)→
   AWs P en c (Fin P fn (some ((.iv q X::ds).map .d)) (fun r b=>r=r0∧b=some ((.iv q X::ds').map .d))) (St.init args (some ((.iv q X::ds).map .d)))) :
  AC P f args (some ((.iv p X::ds).map .d)) (fun r b=>r=r0∧b=some ((.iv p X::ds').map .d)):=by
 refine ⟨he,fun w C β F0 vs hC hr hbo hnd=>?_⟩
 obtain ⟨us,ty,b1,b20,b3,b4⟩:=hbo
 obtain ⟨e2,b2⟩:=repZL_dm b20
 subst e2
 have b2':RepL C (.iv (fun b=>p b∧b<w.heap.size) X::ds) us:=by
  unfold RepL at b2 ⊢
  obtain ⟨u,us',rfl,h1,h2⟩:=b2
  refine ⟨u,us',rfl,?_,h2⟩
  rw [repD_iv] at h1 ⊢
  exact RepD.mono (fun b o u h=>⟨h.1,h.2,cell_lt (hC.cell _ _ _ h.1).1⟩) _ _ h1
 have hrA:argG C (some ((.iv (fun b=>p b∧b<w.heap.size) X::ds).map Rz.d)) β=argG C (some ((.iv p X::ds).map Rz.d)) β:=rfl
 refine (calls_at (ds:=.iv (fun b=>p b∧b<w.heap.size) X::ds) hf hb hn hl ha hC (by rw [hrA];exact hr) ⟨us,ty,b1,repZL_md b2',b3,b4⟩ (h _ _ rfl hC (fun b hx=>?_) ⟨rfl,rfl⟩ (fun k hk=>hk.1) (fun b hb=>hb.2))).mono fun e w' ⟨v,r,bx',C',F,F',g1,g2,g3,g4,g5,g6,g7,g8,g9,g10,g11⟩=>?_
 ·have:b=β:=by simpa [XO] using hx
  subst this
  simp [argG]
 ·obtain ⟨rfl,rfl⟩:=g2
  obtain ⟨us2,ty2,c1,c20,c3,c4⟩:=g9
  obtain ⟨e2,c2⟩:=repZL_dm c20
  subst e2
  refine ⟨v,r,_,C',F,[],g1,⟨rfl,rfl⟩,rfl,g4,g5,g6,g7,g8,⟨us2,ty2,c1,repZL_md ?_,c3,c4⟩,g10,g11⟩
  unfold RepL at c2 ⊢
  obtain ⟨u,us',rfl,h1,h2⟩:=c2
  refine ⟨u,us',rfl,?_,h2⟩
  rw [repD_iv] at h1 ⊢
  exact RepD.mono (fun b o u h=>⟨h.1,h.2.1⟩) _ _ h1
end Go.Proofs.YtndnefealooolaaGreatDoor.Eng
