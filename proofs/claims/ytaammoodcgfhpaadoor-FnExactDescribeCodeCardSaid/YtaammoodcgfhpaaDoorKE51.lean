/-
 The engine, part 51: one cell of a row of ours is written; other rows of ours are kept.
-/
import Derived.Test.YtaammoodcgfhpaaDoorKE38
import Derived.Test.YtaammoodcgfhpaaDoorKE41
set_option linter.unusedSimpArgs false
set_option linter.unusedVariables false
set_option linter.defProp false
set_option maxRecDepth 100000
set_option maxHeartbeats 4000000
namespace Go.Proofs.YtaammoodcgfhpaaDoor.Eng
open Go Go.RowKit

def UpZ (N κ:Nat) (e:TypeId) (z:Nat) (es es':List (List D)) (L:Nat→Prop) (x y:A):Prop:=
 (y=x∧Safe (fun b=>N≤b) x)∨(x=.own κ e z es∧y=.own κ e z es'∧es'.length=es.length)∨(y=x∧∃ k' e' z' ds,x=.own k' e' z' ds∧k'≠κ∧L k'∧flatEs ds)
def UpZL (N κ:Nat) (e:TypeId) (z:Nat) (es es':List (List D)) (L:Nat→Prop):List A→List A→Prop
 | [],ys=>ys=[]
 | x::xs,ys=>∃ y ys',ys=y::ys'∧UpZ N κ e z es es' L x y∧UpZL N κ e z es es' L xs ys'
section
variable {N κ:Nat}{e:TypeId}{z:Nat}{es es':List (List D)}{L:Nat→Prop}
theorem UpZL.nil:UpZL N κ e z es es' L [] []:=rfl
theorem UpZL.keep {x:A}{xs ys:List A} (h:Safe (fun b=>N≤b) x) (k:UpZL N κ e z es es' L xs ys):UpZL N κ e z es es' L (x::xs) (x::ys):=⟨x,ys,rfl,.inl ⟨rfl,h⟩,k⟩
theorem UpZL.row {xs ys:List A} (h:es'.length=es.length) (k:UpZL N κ e z es es' L xs ys):UpZL N κ e z es es' L (.own κ e z es::xs) (.own κ e z es'::ys):=⟨_,ys,rfl,.inr (.inl ⟨rfl,rfl,h⟩),k⟩
theorem UpZL.other {k':Nat}{e':TypeId}{z':Nat}{ds:List (List D)}{xs ys:List A} (h:k'≠κ) (hl:L k') (hf:flatEs ds) (k:UpZL N κ e z es es' L xs ys):UpZL N κ e z es es' L (.own k' e' z' ds::xs) (.own k' e' z' ds::ys):=⟨_,ys,rfl,.inr (.inr ⟨rfl,_,_,_,_,rfl,h,hl,hf⟩),k⟩
theorem UpZ.lt {x y:A}{p:Nat→Prop} (h:UpZ N κ e z es es' L x y) (k:x.lt p):y.lt p:=by
 rcases h with ⟨rfl,_⟩|⟨rfl,rfl,_⟩|⟨rfl,_⟩
 ·exact k
 ·unfold A.lt at k ⊢;exact k
 ·exact k
theorem UpZL.lt {p:Nat→Prop}:∀ {xs ys:List A},UpZL N κ e z es es' L xs ys→A.ltL p xs→A.ltL p ys
 | [],ys,h,_=>by unfold UpZL at h;subst h;unfold A.ltL;trivial
 | x::xs,ys,h,k=>by
  unfold UpZL at h
  obtain ⟨y,ys',rfl,h1,h2⟩:=h
  unfold A.ltL at k ⊢
  exact ⟨h1.lt k.1,h2.lt k.2⟩
structure NewZ (G G':Gh) (N κ b:Nat) (z:Nat) (es':List (List D)) (L:Nat→Prop):Prop where
 E:G'.E=G.E
 cp:G'.cp=G.cp
 C:∀ b' o v,G.C b' o v→b'≠b→G'.C b' o v
 hN:N≤b
 hE:G.E κ=some b
 hL:∀ k',L k'→k'≠κ→∀ b',G.E k'=some b'→b'≠b
 rep:RepEs G'.C z es' b 0
theorem UpZ.rep {G G':Gh}{b:Nat} (hn:NewZ G G' N κ b z es' L) {x y:A}{u:Value} (h:UpZ N κ e z es es' L x y) (k:RepA G x u) (hne:es≠[]):RepA G' y u:=by
 have hG:G'={ G with C:=G'.C }:=by
  have h1:=hn.E
  have h2:=hn.cp
  cases G;cases G'
  simp only at h1 h2
  subst h1 h2
  rfl
 rcases h with ⟨rfl,h⟩|⟨rfl,rfl,hl⟩|⟨rfl,k',e',z',ds,rfl,hk,hL,hf⟩
 ·rw [hG]
  exact h G G'.C u (fun b' o v c q=>hn.C b' o v c fun e=>q (e▸hn.hN)) k
 ·unfold RepA at k ⊢
  rcases k with ⟨_,k,_⟩|⟨b',k1,k2,k3,k4,_⟩
  ·exact absurd k hne
  ·rw [hn.hE] at k1
   have:=Option.some.inj k1;subst this
   right
   exact ⟨b,by rw [hn.E];exact hn.hE,by rw [hl,hn.cp];exact k2,by rw [hl,hn.cp];exact k3,by rw [hn.cp];exact k4,hn.rep⟩
 ·unfold RepA at k ⊢
  rw [hn.E,hn.cp]
  rcases k with k|⟨b',k1,k2,k3,k4,k5⟩
  ·exact .inl k
  ·right
   exact ⟨b',k1,k2,k3,k4,RepEs.mono (fun b1 o v hc=>hn.C b1 o v hc.1 hc.2) _ _ _ _ (repEs_on (p:=fun q=>q≠b) (hn.hL k' hL hk b' k1) hf k5)⟩
theorem UpZL.rep {G G':Gh}{b:Nat} (hn:NewZ G G' N κ b z es' L) (hne:es≠[]):∀ {xs ys:List A}{us:List Value},UpZL N κ e z es es' L xs ys→RepAL G xs us→RepAL G' ys us
 | [],ys,us,h,k=>by unfold UpZL at h;subst h;unfold RepAL at k ⊢;exact k
 | x::xs,ys,us,h,k=>by
  unfold UpZL at h
  obtain ⟨y,ys',rfl,h1,h2⟩:=h
  unfold RepAL at k ⊢
  obtain ⟨u,us',rfl,k1,k2⟩:=k
  exact ⟨u,us',rfl,h1.rep hn k1 hne,h2.rep hn hne k2⟩
end
def St.keepZ (s:St) (ts ws:List Nat) (κ n:Nat) (e:TypeId) (z:Nat) (y:A) (bs:List (Nat × Option (List A))) (rs:List (Nat × Option (Nat × TypeId × Nat))):St:={ fr:=ws.map (fun t=>(t,y))++ts.map fun t=>(t,s.f t),bx:=bs,al:=(κ,some (n,e,z))::rs,nx:=s.nx }
theorem keepZ_f (s:St) (ts ws:List Nat) (κ n:Nat) (e:TypeId) (z:Nat) (y:A) (bs:List (Nat × Option (List A))) (rs:List (Nat × Option (Nat × TypeId × Nat))) (t:Nat):(s.keepZ ts ws κ n e z y bs rs).f t=if t∈ws then y else if t∈ts then s.f t else .top:=by
 have:=keepO_f s ts ws κ n e y bs t
 unfold St.keepO at this
 unfold St.keepZ
 exact this
def BsZ (s:St) (N κ:Nat) (e:TypeId) (z:Nat) (es es':List (List D)):List (Nat × Option (List A))→Prop
 | []=>True
 | (k,o)::r=>(∃ cs cs',o=some cs'∧lk none s.bx k=some cs∧UpZL N κ e z es es' (fun j=>(lk none s.al j).isSome=true) cs cs')∧BsZ s N κ e z es es' r
theorem BsZ.get {s:St}{N κ:Nat}{e:TypeId}{z:Nat}{es es':List (List D)}:∀ {bs:List (Nat × Option (List A))},BsZ s N κ e z es es' bs→∀ {k:Nat}{cs':List A},lk none bs k=some cs'→∃ cs,lk none s.bx k=some cs∧UpZL N κ e z es es' (fun j=>(lk none s.al j).isSome=true) cs cs'
 | [],_,k,cs',h=>by simp [lk] at h
 | (k0,o)::r,hb,k,cs',h=>by
  unfold BsZ at hb
  rw [lk_cons] at h
  by_cases e':k=k0
  ·subst e'
   rw [upd_same] at h
   obtain ⟨cs,cs2,h1,h2,h3⟩:=hb.1
   rw [h1] at h
   have:=Option.some.inj h;subst this
   exact ⟨cs,h2,h3⟩
  ·rw [upd_ne _ _ e'] at h
   exact hb.2.get h
def AsZ (s:St) (κ:Nat):List (Nat × Option (Nat × TypeId × Nat))→Prop
 | []=>True
 | (k,o)::r=>(k≠κ∧lk none s.al k=o)∧AsZ s κ r
theorem AsZ.get {s:St}{κ:Nat}:∀ {rs:List (Nat × Option (Nat × TypeId × Nat))},AsZ s κ rs→∀ {k:Nat}{x:Nat × TypeId × Nat},lk none rs k=some x→k≠κ∧lk none s.al k=some x
 | [],_,k,x,h=>by simp [lk] at h
 | (k0,o)::r,hb,k,x,h=>by
  unfold AsZ at hb
  rw [lk_cons] at h
  by_cases e':k=k0
  ·subst e'
   rw [upd_same] at h
   exact ⟨hb.1.1,hb.1.2.trans h⟩
  ·rw [upd_ne _ _ e'] at h
   exact hb.2.get h
structure Own2 (en:En):Prop where
 cok:Cok en.C en.w
 X:∀ b,¬en.X b
theorem sim_ownZ {en:En}{s:St}{a:Act}{w w':World}{G:Gh}{κ b:Nat}{e:TypeId}{z:Nat}{es es':List (List D)}{cur cur':Array Value}{xs':List Value}{ts ws:List Nat}{y:A}{bs:List (Nat × Option (List A))}{rs:List (Nat × Option (Nat × TypeId × Nat))}
  (hG:Sim en s.f s.mem a w G) (ho:Own2 en) (hal:lk none s.al κ=some (es.length,e,z)) (hne:es≠[]) (hE:G.E κ=some b) (hcp:es.length≤G.cp κ∧G.cp κ≤maxLen)
  (hw:w.heap[b]?=some (.cells cur e (0,0))) (hw':w'.heap[b]?=some (.cells cur' e (0,0))) (hsz:cur'.size=cur.size) (hoth:∀ k,k≠b→w'.heap[k]?=w.heap[k]?) (hwo:w'.os=w.os∧w'.tape=w.tape∧w'.output=w.output) (hws:w'.heap.size=w.heap.size)
  (hle:es'.length=es.length) (hxs:∀ (o:Nat) u,xs'[o]?=some u→cur'[o]?=some u) (hxl:xs'.length=es'.length*z) (hrep:∀ C,RepL C es'.flatten xs') (hone:∀ x∈xs',x.oneCell'=true) (hz:∀ e∈es',e.length=z) (hco:(∀ x∈cur.toList,x.oneCell'=true)→∀ x∈cur'.toList,x.oneCell'=true)
  (hts:SafeTs (fun b=>en.w.heap.size≤b) s ts) (hwt:∀ t∈ws,s.f t=.own κ e z es) (hy:y=.own κ e z es') (hbs:BsZ s en.w.heap.size κ e z es es' bs) (has:AsZ s κ rs) :
  ∃ G',Sim en (s.keepZ ts ws κ es'.length e z y bs rs).f (s.keepZ ts ws κ es'.length e z y bs rs).mem a w' G':=by
 subst hy
 have hκl:s.mem.live κ:=.inr (by rw [show s.mem.al κ=some (es.length,e,z) from hal];rfl)
 have hbN:en.w.heap.size≤b:=by
  rcases hG.lv b ⟨κ,hκl,hE⟩ with h|h
  ·exact h
  ·exact absurd h (ho.X b)
 let G':Gh:={ G with C:=fun b' o u=>(G.C b' o u∧b'≠b)∨(b'=b∧xs'[o]?=some u) }
 have hnew:NewZ G G' en.w.heap.size κ b z es' (fun j=>(lk none s.al j).isSome=true):=⟨rfl,rfl,fun b' o v h q=>.inl ⟨h,q⟩,hbN,hE,fun k' hk hne b' hE' e'=>by
  subst e'
  exact hne (hG.ok.inj k' κ b' (.inr hk) hκl hE' hE),RepEs.ofList (us:=xs') hz (hrep _) fun i u hi=>.inr ⟨rfl,by simpa using hi⟩⟩
 have hlow:∀ b' o u,G'.C b' o u→b'≠b→G.C b' o u:=fun b' o u h q=>by
  rcases h with h|h
  ·exact h.1
  ·exact absurd h.1 q
 have hlive:∀ j,(s.keepZ ts ws κ es'.length e z (.own κ e z es') bs rs).mem.live j→s.mem.live j:=fun j hj=>by
  rcases hj with hj|hj
  ·obtain ⟨cs',hc⟩:=Option.isSome_iff_exists.1 hj
   obtain ⟨cs,h1,_⟩:=hbs.get hc
   exact .inl (by rw [show s.mem.bx j=some cs from h1];rfl)
  ·by_cases e':j=κ
   ·subst e';exact hκl
   ·have hj':(lk none ((κ,some (es'.length,e,z))::rs) j).isSome=true:=hj
    rw [lk_cons,upd_ne _ _ e'] at hj'
    obtain ⟨x,hx⟩:=Option.isSome_iff_exists.1 hj'
    exact .inr (by rw [show s.mem.al j=some x from (has.get hx).2];rfl)
 have hmine:∀ b,Mine G' (s.keepZ ts ws κ es'.length e z (.own κ e z es') bs rs).mem b→Mine G s.mem b:=fun b ⟨j,hj,hE⟩=>⟨j,hlive j hj,hE⟩
 refine ⟨G',⟨⟨⟨fun b' o u h=>?_,fun b' o u h hl=>?_,?_,hG.ok.cok.tb.keep ho.cok.gl fun b' _ _ _ _ h0 hC=>hoth b' fun q=>(hC 0 h0).elim fun u hu=>by
   have:=cell_lt (ho.cok.cell _ _ _ hu).1
   omega⟩,fun k cs h=>?_,fun k n e' z' h b' hb'=>?_,fun k k' b h h'=>hG.ok.inj k k' b (hlive k h) (hlive k' h'),fun k h=>hG.ok.lt k (hlive k h),fun k h=>?_⟩,fun t=>?_,fun t=>?_,hG.sz,hG.df,?_,fun b' o u h=>?_,fun b' o u h hb hx=>?_,fun b hb=>hG.lv b (hmine b hb),hG.e0,hG.p0,hG.ks,?_,fun b' hb=>?_⟩⟩
 ·rcases h with h|⟨rfl,h⟩
  ·have:=hG.ok.cell b' o u h.1
   exact ⟨(World.cell?_of_block (w:=w) (a:=⟨b',o,none⟩) (hoth b' h.2)).trans this.1,this.2⟩
  ·exact ⟨by simp [World.cell?,hw',hxs o u h],hone u (List.mem_of_getElem? h)⟩
 ·rcases h with h|⟨rfl,h⟩
  ·rw [frz_of_block (hoth b' h.2)]
   exact hG.ok.cok.nf b' o u h.1 hl
  ·exact frz_of_cells hw'
 ·exact ho.cok.gl.mono fun b1 o u h=>.inl ⟨hG.c0 b1 o u h,fun q=>by
   have:=cell_lt (ho.cok.cell _ _ _ h).1
   omega⟩
 ·obtain ⟨cs0,h1,h2⟩:=hbs.get h
  obtain ⟨b1,q1,⟨vs,ty,q2,q3,q4,q5⟩,q6⟩:=hG.ok.box k cs0 h1
  have hkl:s.mem.live k:=.inl (by rw [show s.mem.bx k=some cs0 from h1];rfl)
  have hb1:b1≠b:=fun e'=>by
   subst e'
   have:=hG.ok.inj k κ b1 hkl hκl q1 hE
   subst this
   have h3:=hG.ok.sep k (by rw [show s.mem.bx k=some cs0 from h1];rfl)
   rw [show s.mem.al k=some (es.length,e,z) from hal] at h3
   cases h3
  exact ⟨b1,q1,⟨vs,ty,(hoth b1 hb1).trans q2,h2.rep hnew hne q3,q4,fun j u hc=>q5 j u (hlow _ _ _ hc hb1)⟩,h2.lt q6⟩
 ·have e1:lk none ((κ,some (es'.length,e,z))::rs) k=some (n,e',z'):=h
  rw [lk_cons] at e1
  by_cases e2:k=κ
  ·subst e2
   rw [upd_same] at e1
   simp only [Option.some.injEq,Prod.mk.injEq] at e1
   obtain ⟨rfl,rfl,rfl⟩:=e1
   have hb2:G.E k=some b':=hb'
   rw [hE] at hb2
   have:=Option.some.inj hb2;subst this
   obtain ⟨cur0,r1,r2,r3,r4⟩:=hG.ok.row k _ _ _ hal b hE
   rw [hw] at r1
   obtain rfl:cur=cur0:=by simpa using r1
   refine ⟨cur',hw',by rw [hsz];exact r2,⟨by show es'.length≤G.cp k;omega,hco r3.2⟩,fun j u hj hc=>?_⟩
   rcases hc with hc|hc
   ·exact hc.2 rfl
   ·have:=(List.getElem?_eq_some_iff.1 hc.2).1
    omega
  ·rw [upd_ne _ _ e2] at e1
   have e3:=(has.get e1).2
   obtain ⟨cur0,r1,r2,r3,r4⟩:=hG.ok.row k _ _ _ e3 b' hb'
   have hbb:b'≠b:=fun e'=>by
    subst e'
    exact e2 (hG.ok.inj k κ b' (.inr (by rw [show s.mem.al k=some _ from e3];rfl)) hκl hb' hE)
   exact ⟨cur0,(hoth b' hbb).trans r1,r2,r3,fun j u hj hc=>r4 j u hj (hlow _ _ _ hc hbb)⟩
 ·obtain ⟨cs',hc⟩:=Option.isSome_iff_exists.1 h
  obtain ⟨cs,h1,_⟩:=hbs.get hc
  have h3:=hG.ok.sep k (by rw [show s.mem.bx k=some cs from h1];rfl)
  by_cases e2:k=κ
  ·subst e2
   rw [show s.mem.al k=some (es.length,e,z) from hal] at h3
   cases h3
  ·show lk none ((κ,some (es'.length,e,z))::rs) k=none
   rw [lk_cons,upd_ne _ _ e2]
   cases hq:lk none rs k with
   | none=>rfl
   | some x=>
    rw [show s.mem.al k=some x from (has.get hq).2] at h3
    cases h3
 ·rw [keepZ_f]
  split
  ·rename_i ht
   have hr:=hG.rep t
   rw [hwt t ht] at hr
   exact UpZ.rep hnew (.inr (.inl ⟨rfl,rfl,hle⟩)) hr hne
  ·split
   ·rename_i ht
    exact (hts.all t ht) G _ _ (fun b1 o v h q=>.inl ⟨h,fun e'=>q (e'▸hbN)⟩) (hG.rep t)
   ·unfold RepA;trivial
 ·rw [keepZ_f]
  split
  ·unfold A.lt
   exact hG.ok.lt κ hκl
  ·split
   ·exact hG.kf t
   ·unfold A.lt;trivial
 ·exact ⟨hwo.1.trans hG.fw.os,hwo.2.1.trans hG.fw.tape,hwo.2.2.trans hG.fw.output,by rw [hws];exact hG.fw.size,fun k hk hx=>(hoth k fun e'=>by omega).trans (hG.fw.block k hk hx)⟩
 ·exact .inl ⟨hG.c0 b' o u h,fun q=>by
   have:=cell_lt (ho.cok.cell _ _ _ h).1
   omega⟩
 ·rcases h with h|h
  ·exact hG.c1 b' o u h.1 hb hx
  ·omega
 ·exact en.stab w w' (fun z hz=>hoth z fun e'=>(hG.az z hz).2.1 ⟨κ,hκl,e'▸hE⟩) hG.am
 ·obtain ⟨a1,a2,a3⟩:=hG.az b' hb
  refine ⟨by rw [hws];exact a1,fun hm=>a2 (hmine b' hm),fun o u h=>?_⟩
  rcases h with h|h
  ·exact a3 o u h.1
  ·exact a2 ⟨κ,hκl,by rw [h.1];exact hE⟩
section
variable {P:Program}{en:En}{ops:Array Oper}{o:Oper}{l:List Oper}{K:St→Prop}{s:St}
theorem ow_storeZ {t:TypeId}{ad x:Operand}{κ j t0:Nat}{e:TypeId}{z:Nat}{es es':List (List D)}{vs:List Value}{c:Value}{g:Bool} (ts ws:List Nat) (bs:List (Nat × Option (List A))) (rs:List (Nat × Option (Nat × TypeId × Nat))) (hg:Wanted s ops o) (hd:o.dst=none) (h:o.op=.store t ad x) (ha:ev s.f ad=.ptr κ j) (hx:ev s.f x=.d (.v c)) (hc:c.cells=#[c]) (hc1:c.oneCell'=true) (ht:tyK P t=some (g,1))
  (hal:lk none s.al κ=some (es.length,e,z)) (h0:s.f t0=.own κ e z es) (hj:j<es.length*z) (ho:Own2 en) (he1:es.flatten=vs.map .v) (he2:es'.flatten=(vs.set j c).map .v) (hel:es'.length=es.length) (hz:∀ e∈es',e.length=z)
  (hts:SafeTs (fun b=>en.w.heap.size≤b) s ts) (hwt:∀ t∈ws,s.f t=.own κ e z es) (hbs:BsZ s en.w.heap.size κ e z es es' bs) (has:AsZ s κ rs)
  (hK:OWs P en ops l K (s.keepZ ts ws κ es'.length e z (.own κ e z es') bs rs)):OWs P en ops (o::l) K s:=fun a w ⟨G,hG⟩ Q hQ=>by
 refine wpList_step fun K' hK'=>?_
 rw [if_pos (wanted_run hg hG.rep)]
 have hne:es≠[]:=fun h=>by
  subst h
  simp at hj
 have hr0:=hG.rep t0
 rw [h0] at hr0
 unfold RepA at hr0
 obtain ⟨b,q1,q2,q3,q3',q6⟩:=hr0.resolve_left fun h=>hne h.2.1
 obtain ⟨cur,q4,q5,q7,q8⟩:=hG.ok.row κ _ _ _ hal b q1
 have hra:=ev_rep hG.ok.cok.gl hG.rep ad
 rw [ha] at hra
 unfold RepA at hra
 obtain ⟨b',hE',hav⟩:=hra
 rw [q1] at hE'
 have:=Option.some.inj hE';subst this
 have hrx:=ev_rep hG.ok.cok.gl hG.rep x
 rw [hx] at hrx
 unfold RepA at hrx
 rw [repD_v] at hrx
 have hcz:es.length*z≤cur.size:=by rw [q5];exact Nat.mul_le_mul_right _ q3
 have hst:=run_storeCells_at (P:=P) b j e [c] 0 cur w q4 (by simp only [List.length_singleton];omega) (fun v hv=>by rw [List.mem_singleton] at hv;subst hv;exact hc1)
 simp only [Nat.add_zero,List.length_singleton] at hst
 obtain ⟨xs,x1,x2,x3⟩:=q6.list
 have hxv:xs=vs:=by
  rw [he1] at x1
  exact RepL_raw_eq x1
 subst hxv
 have hpre:∀ (i:Nat) u,xs[i]?=some u→cur[i]?=some u:=fun i u hi=>by
  have:=(hG.ok.cell _ _ _ (x3 i u hi)).1
  rw [Nat.zero_add,cell_of_row w b i cur e (0,0) q4] at this
  exact this
 have hone:∀ v∈xs,v.oneCell'=true:=fun v hv=>by
  obtain ⟨i,hi⟩:=List.getElem?_of_mem hv
  exact (hG.ok.cell _ _ _ (x3 i v hi)).2
 have hw':=setRow_heap w b cur (cur.toList.take j++[c]++cur.toList.drop (j+1)).toArray e (0,0) q4
 obtain ⟨G',s1⟩:=sim_ownZ (w':=w.setRow b (cur.toList.take j++[c]++cur.toList.drop (j+1)).toArray) (xs':=xs.set j c) (es:=es) (es':=es') (y:=.own κ e z es') (ts:=ts) (ws:=ws) (bs:=bs) (rs:=rs)
  hG ho hal hne q1 ⟨q3,q3'⟩ q4 hw' (by simp only [List.size_toArray,List.length_append,List.length_take,List.length_drop,Array.length_toList,List.length_singleton];omega) (fun k hk=>setRow_other w b k _ hk) ⟨rfl,rfl,rfl⟩ (by simp) hel
  (fun i u hi=>by
   simp only [List.getElem?_toArray]
   rw [List.append_assoc]
   rw [List.getElem?_set] at hi
   by_cases e1:j=i
   ·subst e1
    rw [if_pos rfl,if_pos (by omega)] at hi
    rw [List.getElem?_append_right (by rw [List.length_take,Array.length_toList];omega),List.length_take,Array.length_toList,show j - min j cur.size=0 by omega]
    simpa using hi
   ·rw [if_neg e1] at hi
    have hi':=hpre i u hi
    rcases Nat.lt_or_ge i j with h1|h1
    ·rw [List.getElem?_append_left (by rw [List.length_take,Array.length_toList];omega),List.getElem?_take,if_pos h1]
     simpa using hi'
    ·rw [List.getElem?_append_right (by rw [List.length_take,Array.length_toList];omega),List.length_take,Array.length_toList,show i - min j cur.size=(i - j - 1)+1 by omega]
     simp only [List.cons_append,List.nil_append,List.getElem?_cons_succ,List.getElem?_drop]
     rw [show j+1+(i - j - 1)=i by omega]
     simpa using hi')
  (by rw [List.length_set,x2,hel]) (fun C=>by rw [he2];exact RepL_raw _ _) (fun v hv=>by
   rcases List.mem_or_eq_of_mem_set hv with hv|rfl
   ·exact hone v hv
   ·exact hc1) hz (fun hq x hx=>by
   simp only [List.mem_append] at hx
   rcases hx with (hx|hx)|hx
   ·exact hq x (List.mem_of_mem_take hx)
   ·rw [List.mem_singleton] at hx;subst hx;exact hc1
   ·exact hq x (List.mem_of_mem_drop hx)) hts hwt rfl hbs has
 obtain ⟨r1,r2⟩:=tyK_run ht w
 refine wp_of_skip (w':=w.setRow b (cur.toList.take j++[c]++cur.toList.drop (j+1)).toArray) ?_ (hK' _ _ (hK _ _ ⟨G',?_⟩ Q hQ))
 ·unfold execOp
  rw [h]
  simp only [Instr.storeAt,hav,Instr.sureAddr,storeVar,Sem.run_bind,Sem.run_pure,Result.andThen_ok,r1,hrx,hc,List.size_toArray,List.length_singleton,ne_eq,not_true_eq_false,if_false,hst]
 ·rw [hd]
  exact s1
end
end Go.Proofs.YtaammoodcgfhpaaDoor.Eng
