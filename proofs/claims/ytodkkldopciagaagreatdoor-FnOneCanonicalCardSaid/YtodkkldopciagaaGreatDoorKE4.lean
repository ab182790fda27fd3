/-
 The engine, part 26: where ways meet again.

 The engine, part 27: variables that are handed over as data behind a pointer.

 The engine, part 29: calls that are walked in place.
-/
import Derived.Test.YtodkkldopciagaaGreatDoorKE3
set_option linter.unusedSimpArgs false
set_option linter.unusedVariables false
set_option linter.defProp false
set_option maxRecDepth 100000
set_option maxHeartbeats 4000000
namespace Go.Proofs.YtodkkldopciagaaGreatDoor.Eng
open Go Go.RowKit
section
variable {P:Program}{en:En}{K:Exit→St→Prop}{s:St}
theorem aw_mono {c:Code}{K':Exit→St→Prop} (h:AWs P en c K s) (k:∀ e s',K e s'→K' e s'):AWs P en c K' s:=fun a w hs=>wp_mono (h a w hs) fun e a' w' ⟨s',h1,h2⟩=>⟨s',h1,k e s' h2⟩
theorem aw_joinS {σ:Type} (kp:List Nat) (rn:Nat→St→List (Nat × Option Nat)) (fv:Nat→σ→List (Nat × A)) (kb:List Nat) (bv:Nat→σ→List (Nat × Option (List A))) (ka:List Nat) (av:Nat→σ→List (Nat × Option (Nat × TypeId × Nat))) (I:σ→Prop) {x y:Code} (hk:∀ k,en.ks k→k=0)
  (hrn:∀ s',sg (rn s.nx s') 0=some 0)
  (hy:∀ z,I z→AWs P en y K (s.head kp (fv s.nx z) kb (bv s.nx z) ka (av s.nx z)))
  (hx:AWs P en x (fun e s'=>match e with|.normal=>∃ z,I z∧s'.wk (sg (rn s.nx s')) (s.head kp (fv s.nx z) kb (bv s.nx z) ka (av s.nx z))|e=>K e s') s):AWs P en (.seq x y) K s:=by
 refine aw_seq (aw_mono hx fun e s' h=>?_)
 cases e with
 | normal=>
  obtain ⟨z,hz,hwk⟩:=h
  exact fun a w hs=>hy z hz a w (simS_wk (fun k hk'=>by have:=hk k hk';subst this;exact ⟨by simp [St.head],hrn s'⟩) hwk hs)
 | _=>exact h
theorem aw_seqR {id:Nat}{ops:Array Oper}{b:Bool}{y:Code} (h:AWs P en (.region id ops b) (fun e s'=>match e with|.normal=>AWs P en y K s'|e=>K e s') s):AWs P en (.seq (.region id ops b) y) K s:=aw_seq h
end
theorem walkJS {p q:Prop} (k:q) (h:Rest q→p:=by intro h;(first|refine aw_seqR ?_|refine aw_region ?_|refine aw_block ?_|(refine aw_exit ?_;(try simp (decide:=true) only [reduceIte]))|(refine aw_skip ?_;try dsimp only)|(refine aw_any (by kernel_rfl) (by kernel_rfl) (by simp only [hsz];kernel_rfl) ?_)|(refine ow_nil ?_;try dsimp only)|(refine ol_go ?_ (fun K1 hK1=>?_);exact trS;refine evS ?_;refine hK1 _ _ ?_;clear hK1 K1)|(refine ol_skip rfl rfl ?_ ?_;(focus (intro hne;cases hne;done));simp only [St.set])|(refine ol_nil ⟨by kernel_rfl,?_⟩;try dsimp only)|(refine ow_go ?_ dsS (fun K1 hK1=>?_);exact trS;refine evS ?_;refine hK1 _ ?_;clear hK1 K1)|(refine ow_skip rfl rfl ?_ dsS ?_;(focus (intro hne;cases hne;done));simp only [St.set]));(repeat (first|refine aw_seqR ?_|refine aw_region ?_|refine aw_block ?_|(refine aw_exit ?_;(try simp (decide:=true) only [reduceIte]))|(refine aw_skip ?_;try dsimp only)|(refine aw_any (by kernel_rfl) (by kernel_rfl) (by simp only [hsz];kernel_rfl) ?_)|(refine ow_nil ?_;try dsimp only)|(refine ol_go ?_ (fun K1 hK1=>?_);exact trS;refine evS ?_;refine hK1 _ _ ?_;clear hK1 K1)|(refine ol_skip rfl rfl ?_ ?_;(focus (intro hne;cases hne;done));simp only [St.set])|(refine ol_nil ⟨by kernel_rfl,?_⟩;try dsimp only)|(refine ow_go ?_ dsS (fun K1 hK1=>?_);exact trS;refine evS ?_;refine hK1 _ ?_;clear hK1 K1)|(refine ow_skip rfl rfl ?_ dsS ?_;(focus (intro hne;cases hne;done));simp only [St.set])));exact h.out):p:=h ⟨k⟩
end Go.Proofs.YtodkkldopciagaaGreatDoor.Eng
namespace Go.Proofs.YtodkkldopciagaaGreatDoor.Eng
open Go Go.RowKit
section
variable {P:Program}{en:En}{s:St}
theorem simS_freezeB (t k:Nat) (cs:List D) (h1:s.f t=.ptr k 0) (h2:lk none s.bx k=some (cs.map .d)) (hks:∀ k,en.ks k→k=0) (hk0:k≠0) {a:Act}{w:World}
  (h:SimS en s a w):SimS en { s with fr:=(t,.d (.rp cs))::s.fr,bx:=(k,none)::s.bx } a w:=by
 obtain ⟨G,hG⟩:=h
 obtain ⟨b,hE,⟨vs,ty,g1,g2,g3,g4⟩,g5⟩:=hG.ok.box k _ h2
 have hlk:s.mem.live k:=.inl (by rw [show s.mem.bx k=some (cs.map .d) from h2];rfl)
 let G':Gh:={ G with C:=fun b' o u=>G.C b' o u∨(b'=b∧vs[o]?=some u) }
 have hle:∀ p,G.Le p G':=fun p=>⟨fun _ _=>rfl,fun _ _=>rfl,fun _ _ _ hc=>.inl hc⟩
 have hm:({ s with fr:=(t,.d (.rp cs))::s.fr,bx:=(k,none)::s.bx }:St).mem={ s.mem with bx:=upd s.mem.bx k none }:=by
  unfold St.mem;simp only [lk_cons]
 have hlive:∀ j,({ s.mem with bx:=upd s.mem.bx k none }:Mem).live j→s.mem.live j∧(j=k→False):=fun j hj=>by
  rcases hj with hj|hj
  ·by_cases e:j=k
   ·subst e;simp at hj
   ·exact ⟨.inl (by simpa [upd_ne _ _ e] using hj),e⟩
  ·refine ⟨.inr hj,fun e=>?_⟩
   subst e
   have:=hG.ok.sep j (by rw [show s.mem.bx j=some (cs.map .d) from h2];rfl)
   have hj':(s.mem.al j).isSome=true:=hj
   rw [this] at hj';cases hj'
 have hb':∀ j b'',s.mem.live j→j≠k→G.E j=some b''→b''≠b:=fun j b'' hj hne hE'' e=>hne (hG.ok.inj j k b hj hlk (e▸hE'') hE)
 refine ⟨G',⟨?_,fun t'=>?_,fun t'=>?_,hG.sz,hG.df,hG.fw,fun b o u hc=>.inl (hG.c0 b o u hc),fun b' o u hc hlt hx=>?_,fun b' ⟨j,hj,hE'⟩=>?_,hG.e0,hG.p0,hG.ks,hG.am,fun b' hb'=>⟨(hG.az b' hb').1,fun ⟨j,hj,hE'⟩=>(hG.az b' hb').2.1 ⟨j,(hlive j (by rw [hm] at hj;exact hj)).1,hE'⟩,fun o u hc=>hc.elim ((hG.az b' hb').2.2 o u) fun he=>(hG.az b' hb').2.1 ⟨k,hlk,by rw [he.1];exact hE⟩⟩⟩⟩
 ·rw [hm]
  refine ⟨⟨fun b' o u hc=>?_,fun b' o u hc hb2=>?_,hG.ok.cok.gl.mono (hle fun _=>True).C⟩,fun j cs hj=>?_,fun j m e y hj b'' hE''=>?_,fun j j' b'' hj hj'=>hG.ok.inj j j' b'' (hlive j hj).1 (hlive j' hj').1,fun j hj=>hG.ok.lt j (hlive j hj).1,fun j hj=>?_⟩
  ·rcases hc with hc|⟨rfl,hv⟩
   ·exact hG.ok.cell b' o u hc
   ·refine ⟨?_,g3 u (List.mem_of_getElem? hv)⟩
    simp [World.cell?,g1,hv]
  ·rcases hc with hc|⟨rfl,_⟩
   ·exact hG.ok.cok.nf b' o u hc hb2
   ·exact frz_of_cells g1
  ·by_cases e:j=k
   ·subst e;simp at hj
   ·rw [show ({ s.mem with bx:=upd s.mem.bx k none }:Mem).bx j=s.mem.bx j from upd_ne _ _ e] at hj
    obtain ⟨b1,q1,⟨us,ty',q2,q3,q4,q5⟩,q6⟩:=hG.ok.box j cs hj
    refine ⟨b1,q1,⟨us,ty',q2,RepAL.mono (hle _) _ _ q6 q3,q4,fun i u hc=>?_⟩,q6⟩
    rcases hc with hc|⟨rfl,_⟩
    ·exact q5 i u hc
    ·exact hb' j _ (.inl (by rw [hj];rfl)) e q1 rfl
  ·have hj':s.mem.al j=some (m,e,y):=hj
   obtain ⟨cur,q1,q2,q3,q4⟩:=hG.ok.row j m e y hj' b'' hE''
   refine ⟨cur,q1,q2,q3,fun i u hi hc=>?_⟩
   rcases hc with hc|⟨rfl,_⟩
   ·exact q4 i u hi hc
   ·have hlj:s.mem.live j:=.inr (by rw [hj'];rfl)
    have hne:j≠k:=fun e'=>by
     subst e'
     have:=hG.ok.sep j (by rw [show s.mem.bx j=some (cs.map .d) from h2];rfl)
     rw [this] at hj';cases hj'
    exact hb' j _ hlj hne hE'' rfl
  ·by_cases e:j=k
   ·subst e;simp at hj
   ·exact hG.ok.sep j (by simpa [upd_ne _ _ e] using hj)
 ·show RepA G' (lk .top ((t,.d (.rp cs))::s.fr) t') _
  rw [lk_cons]
  by_cases e:t'=t
  ·subst e
   rw [upd_same]
   have hr:=hG.rep t'
   rw [h1] at hr
   unfold RepA at hr ⊢
   obtain ⟨b1,q1,q2⟩:=hr
   rw [hE] at q1
   have:=Option.some.inj q1;subst this
   unfold RepD
   refine ⟨b,0,q2,?_⟩
   refine RepCs.ofList (us:=vs) (RepL.mono (fun _ _ _ hc=>.inl hc) _ _ (RepAL_unmap g2)) fun i u hi=>?_
   right
   exact ⟨rfl,by simpa using hi⟩
  ·rw [upd_ne _ _ e]
   exact RepA.mono (hle _) _ _ (hG.kf t') (hG.rep t')
 ·show (lk .top ((t,.d (.rp cs))::s.fr) t').lt _
  rw [lk_cons]
  by_cases e:t'=t
  ·subst e;rw [upd_same];unfold A.lt;trivial
  ·rw [upd_ne _ _ e];exact hG.kf t'
 ·rcases hc with hc|⟨rfl,_⟩
  ·exact hG.c1 b' o u hc hlt hx
  ·rcases hG.lv _ ⟨k,hlk,hE⟩ with h5|h5
   ·omega
   ·exact absurd h5 hx
 ·rw [hm] at hj
  exact hG.lv b' ⟨j,(hlive j hj).1,hE'⟩
theorem simS_freezeI (t k:Nat) (ty:TypeId) (cs:List D) (h1:s.f t=.ifc ty (.ptr k 0)) (h2:lk none s.bx k=some (cs.map .d)) (hks:∀ k,en.ks k→k=0) (hk0:k≠0) {a:Act}{w:World}
  (h:SimS en s a w):SimS en { s with fr:=(t,.d (.ifc ty (.rp cs)))::s.fr,bx:=(k,none)::s.bx } a w:=by
 obtain ⟨G,hG⟩:=h
 obtain ⟨b,hE,⟨vs,ty0,g1,g2,g3,g4⟩,g5⟩:=hG.ok.box k _ h2
 have hlk:s.mem.live k:=.inl (by rw [show s.mem.bx k=some (cs.map .d) from h2];rfl)
 let G':Gh:={ G with C:=fun b' o u=>G.C b' o u∨(b'=b∧vs[o]?=some u) }
 have hle:∀ p,G.Le p G':=fun p=>⟨fun _ _=>rfl,fun _ _=>rfl,fun _ _ _ hc=>.inl hc⟩
 have hm:({ s with fr:=(t,.d (.ifc ty (.rp cs)))::s.fr,bx:=(k,none)::s.bx }:St).mem={ s.mem with bx:=upd s.mem.bx k none }:=by
  unfold St.mem;simp only [lk_cons]
 have hlive:∀ j,({ s.mem with bx:=upd s.mem.bx k none }:Mem).live j→s.mem.live j∧(j=k→False):=fun j hj=>by
  rcases hj with hj|hj
  ·by_cases e:j=k
   ·subst e;simp at hj
   ·exact ⟨.inl (by simpa [upd_ne _ _ e] using hj),e⟩
  ·refine ⟨.inr hj,fun e=>?_⟩
   subst e
   have:=hG.ok.sep j (by rw [show s.mem.bx j=some (cs.map .d) from h2];rfl)
   have hj':(s.mem.al j).isSome=true:=hj
   rw [this] at hj';cases hj'
 have hb':∀ j b'',s.mem.live j→j≠k→G.E j=some b''→b''≠b:=fun j b'' hj hne hE'' e=>hne (hG.ok.inj j k b hj hlk (e▸hE'') hE)
 refine ⟨G',⟨?_,fun t'=>?_,fun t'=>?_,hG.sz,hG.df,hG.fw,fun b o u hc=>.inl (hG.c0 b o u hc),fun b' o u hc hlt hx=>?_,fun b' ⟨j,hj,hE'⟩=>?_,hG.e0,hG.p0,hG.ks,hG.am,fun b' hb'=>⟨(hG.az b' hb').1,fun ⟨j,hj,hE'⟩=>(hG.az b' hb').2.1 ⟨j,(hlive j (by rw [hm] at hj;exact hj)).1,hE'⟩,fun o u hc=>hc.elim ((hG.az b' hb').2.2 o u) fun he=>(hG.az b' hb').2.1 ⟨k,hlk,by rw [he.1];exact hE⟩⟩⟩⟩
 ·rw [hm]
  refine ⟨⟨fun b' o u hc=>?_,fun b' o u hc hb2=>?_,hG.ok.cok.gl.mono (hle fun _=>True).C⟩,fun j cs hj=>?_,fun j m e y hj b'' hE''=>?_,fun j j' b'' hj hj'=>hG.ok.inj j j' b'' (hlive j hj).1 (hlive j' hj').1,fun j hj=>hG.ok.lt j (hlive j hj).1,fun j hj=>?_⟩
  ·rcases hc with hc|⟨rfl,hv⟩
   ·exact hG.ok.cell b' o u hc
   ·refine ⟨?_,g3 u (List.mem_of_getElem? hv)⟩
    simp [World.cell?,g1,hv]
  ·rcases hc with hc|⟨rfl,_⟩
   ·exact hG.ok.cok.nf b' o u hc hb2
   ·exact frz_of_cells g1
  ·by_cases e:j=k
   ·subst e;simp at hj
   ·rw [show ({ s.mem with bx:=upd s.mem.bx k none }:Mem).bx j=s.mem.bx j from upd_ne _ _ e] at hj
    obtain ⟨b1,q1,⟨us,ty',q2,q3,q4,q5⟩,q6⟩:=hG.ok.box j cs hj
    refine ⟨b1,q1,⟨us,ty',q2,RepAL.mono (hle _) _ _ q6 q3,q4,fun i u hc=>?_⟩,q6⟩
    rcases hc with hc|⟨rfl,_⟩
    ·exact q5 i u hc
    ·exact hb' j _ (.inl (by rw [hj];rfl)) e q1 rfl
  ·have hj':s.mem.al j=some (m,e,y):=hj
   obtain ⟨cur,q1,q2,q3,q4⟩:=hG.ok.row j m e y hj' b'' hE''
   refine ⟨cur,q1,q2,q3,fun i u hi hc=>?_⟩
   rcases hc with hc|⟨rfl,_⟩
   ·exact q4 i u hi hc
   ·have hlj:s.mem.live j:=.inr (by rw [hj'];rfl)
    have hne:j≠k:=fun e'=>by
     subst e'
     have:=hG.ok.sep j (by rw [show s.mem.bx j=some (cs.map .d) from h2];rfl)
     rw [this] at hj';cases hj'
    exact hb' j _ hlj hne hE'' rfl
  ·by_cases e:j=k
   ·subst e;simp at hj
   ·exact hG.ok.sep j (by simpa [upd_ne _ _ e] using hj)
 ·show RepA G' (lk .top ((t,.d (.ifc ty (.rp cs)))::s.fr) t') _
  rw [lk_cons]
  by_cases e:t'=t
  ·subst e
   rw [upd_same]
   have hr:=hG.rep t'
   rw [h1] at hr
   unfold RepA RepA at hr
   unfold RepA
   obtain ⟨y0,rfl0,b1,q1,q2⟩:=hr
   rw [hE] at q1
   have:=Option.some.inj q1;subst this
   unfold RepD RepD
   refine ⟨y0,rfl0,b,0,q2,?_⟩
   refine RepCs.ofList (us:=vs) (RepL.mono (fun _ _ _ hc=>.inl hc) _ _ (RepAL_unmap g2)) fun i u hi=>?_
   right
   exact ⟨rfl,by simpa using hi⟩
  ·rw [upd_ne _ _ e]
   exact RepA.mono (hle _) _ _ (hG.kf t') (hG.rep t')
 ·show (lk .top ((t,.d (.ifc ty (.rp cs)))::s.fr) t').lt _
  rw [lk_cons]
  by_cases e:t'=t
  ·subst e;rw [upd_same];unfold A.lt;trivial
  ·rw [upd_ne _ _ e];exact hG.kf t'
 ·rcases hc with hc|⟨rfl,_⟩
  ·exact hG.c1 b' o u hc hlt hx
  ·rcases hG.lv _ ⟨k,hlk,hE⟩ with h5|h5
   ·omega
   ·exact absurd h5 hx
 ·rw [hm] at hj
  exact hG.lv b' ⟨j,(hlive j hj).1,hE'⟩
theorem ow_freezeB {ops:Array Oper}{l:List Oper}{K:St→Prop} (t k:Nat) (cs:List D) (h1:s.f t=.ptr k 0) (h2:lk none s.bx k=some (cs.map .d)) (hks:∀ k,en.ks k→k=0) (hk0:k≠0)
  (h:OWs P en ops l K { s with fr:=(t,.d (.rp cs))::s.fr,bx:=(k,none)::s.bx }):OWs P en ops l K s:=fun a w hs=>h a w (simS_freezeB t k cs h1 h2 hks hk0 hs)
theorem aw_freezeI {c:Code}{K:Exit→St→Prop} (t k:Nat) (ty:TypeId) (cs:List D) (h1:s.f t=.ifc ty (.ptr k 0)) (h2:lk none s.bx k=some (cs.map .d)) (hks:∀ k,en.ks k→k=0) (hk0:k≠0)
  (h:AWs P en c K { s with fr:=(t,.d (.ifc ty (.rp cs)))::s.fr,bx:=(k,none)::s.bx }):AWs P en c K s:=fun a w hs=>h a w (simS_freezeI t k ty cs h1 h2 hks hk0 hs)
end
end Go.Proofs.YtodkkldopciagaaGreatDoor.Eng
namespace Go.Proofs.YtodkkldopciagaaGreatDoor.Eng
open Go Go.RowKit
def FinI (P:Program) (fn:Func) (fr:List (Nat × A)) (d:Option Nat) (K:St→Prop) (e:Exit) (s':St):Prop:=
 (e=.normal∨e=.ret)∧resL P s' fn.results.toList fun l=>K ({ s' with fr:=fr }.set d (resOf l))

def inlEn (en:En) (w:World) (G:Gh) (s:St) (n:Nat):En:={ w:=w,C:=G.C,X:=Mine G s.mem,E:=G.E,cp:=G.cp,ks:=fun k=>k<s.nx,sz:=n,Z:=en.Z,Amb:=en.Amb,stab:=en.stab }
section
variable {P:Program}{en:En}{s:St}
theorem inl_start {a:Act}{w:World}{G:Gh} (hG:Sim en s.f s.mem a w G) (n:Nat) {args:List A}{vs:List Value} (hr:RepAL G args vs) (hl:A.ltL s.mem.us args) (hn:args.length≤n) :
  Sim (inlEn en w G s n) ({ s with fr:=frOf args }:St).f ({ s with fr:=frOf args }:St).mem { tmps:=(⟨vs⟩:Array Value)++Array.replicate (n - vs.length) undef,defers:=[] } w G:=by
 have hf:({ s with fr:=frOf args }:St).f=fun t=>args.getD t .top:=by
  funext t
  show lk .top (frOf args) t=_
  unfold frOf
  rw [lk_frOf]
  simp
 refine ⟨hG.ok,fun t=>?_,fun t=>?_,?_,rfl,BelowX.refl _ _ _,fun _ _ _ h=>h,fun _ _ _ h _ _=>h,fun b hb=>.inr hb,fun _ _=>rfl,fun _ _=>rfl,fun k hk=>hk,hG.am,hG.az⟩
 ·rw [hf];exact hr.getD _ t
 ·rw [hf]
  show (args.getD t .top).lt s.mem.us
  rw [List.getD_eq_getElem?_getD]
  cases hq:args[t]? with
  | none=>unfold A.lt;trivial
  | some x=>exact ltL_get hl t x hq
 ·have:=hr.get.1
  show _=n
  simp only [Array.size_append,List.size_toArray,Array.size_replicate]
  omega
theorem inl_end {a a':Act}{w w':World}{G G':Gh}{n:Nat} (hG:Sim en s.f s.mem a w G) {s':St} (hG':Sim (inlEn en w G s n) s'.f s'.mem a' w' G') {d:Option Nat} (hd:∀ x,d=some x→x<en.sz) {v:A}{u:Value} (hv:RepA G' v u) (hvl:v.lt s'.mem.us) :
  Sim en ({ s' with fr:=s.fr }.set d v).f ({ s' with fr:=s.fr }.set d v).mem (a.put d u) w' G':=by
 have hle:G.Le s.mem.us G':=⟨hG'.e0,hG'.p0,hG'.c0⟩
 have hus:∀ k,s.mem.us k→s'.mem.us k:=hG'.ks
 rw [St.set_f,St.set_mem]
 refine ⟨hG'.ok,fun t=>?_,fun t=>?_,?_,?_,?_,fun b o u hc=>hG'.c0 b o u (hG.c0 b o u hc),fun b o u hc hb hx=>?_,fun b hb=>?_,fun k hk=>(hG'.e0 k (hG.ks k hk)).trans (hG.e0 k hk),fun k hk=>(hG'.p0 k (hG.ks k hk)).trans (hG.p0 k hk),fun k hk=>hus k (hG.ks k hk),hG'.am,hG'.az⟩
 ·have old:RepA G' (s.f t) (a.tmps.getD t undef):=RepA.mono hle _ _ (hG.kf t) (hG.rep t)
  cases d with
  | none=>exact old
  | some x=>
   have hx:=hd x rfl
   rw [←hG.sz] at hx
   show RepA G' (upd s.f x v t) _
   by_cases ht:t=x
   ·subst ht
    simpa [Act.put,hx] using hv
   ·have:(a.put (some x) u).tmps.getD t undef=a.tmps.getD t undef:=by
     have hxt:¬x=t:=fun e=>ht e.symm
     simp [Act.put,Array.getElem?_setIfInBounds,hxt]
    rw [this,upd_ne _ _ ht]
    exact old
 ·have old:(s.f t).lt s'.mem.us:=A.lt.mono hus _ (hG.kf t)
  cases d with
  | none=>exact old
  | some x=>
   show (upd s.f x v t).lt _
   by_cases ht:t=x
   ·subst ht;rw [upd_same];exact hvl
   ·rw [upd_ne _ _ ht];exact old
 ·cases d<;>simp [Act.put,hG.sz]
 ·cases d<;>simp [Act.put,hG.df]
 ·refine ⟨hG'.fw.os.trans hG.fw.os,hG'.fw.tape.trans hG.fw.tape,hG'.fw.output.trans hG.fw.output,Nat.le_trans hG.fw.size hG'.fw.size,fun k hk hx=>?_⟩
  refine (hG'.fw.block k (Nat.lt_of_lt_of_le hk hG.fw.size) fun hm=>?_).trans (hG.fw.block k hk hx)
  rcases hG.lv k hm with h1|h1
  ·omega
  ·exact hx h1
 ·have hlt:b<w.heap.size:=Nat.lt_of_lt_of_le hb hG.fw.size
  refine hG.c1 b o u (hG'.c1 b o u hc hlt fun hm=>?_) hb hx
  rcases hG.lv b hm with h1|h1
  ·omega
  ·exact hx h1
 ·rcases hG'.lv b hb with h1|h1
  ·exact .inl (Nat.le_trans hG.fw.size h1)
  ·exact hG.lv b h1
theorem RepAL_lt {fr:Nat→A}{n:Nat→Prop} (h:∀ t,(fr t).lt n):∀ xs:List Operand,A.ltL n (xs.map (ev fr))
 | []=>by simp only [List.map_nil];unfold A.ltL;trivial
 | x::xs=>by
  simp only [List.map_cons]
  unfold A.ltL
  exact ⟨ev_lt h x,RepAL_lt h xs⟩
theorem tup_lt {n:Nat→Prop}:∀ {l:List A},A.ltL n l→(resOf l).lt n
 | [],h=>mkTup_lt h
 | [x],h=>by unfold A.ltL at h;exact h.1
 | x::y::l,h=>mkTup_lt h

theorem partA_lt {k:Option (Bool × Nat)}{n:Nat→Prop}:∀ {cs:List A}{K:A→Prop},A.ltL n cs→partA k cs K→partA k cs fun v=>K v∧v.lt n:=fun {cs K} hl h=>by
 unfold partA at h ⊢
 split at h
 ·exact ⟨h.1,h.2,mkAgg_lt (ltL_take _ hl)⟩
 ·split at h
  ·rename_i c r
   unfold A.ltL at hl
   exact ⟨h,hl.1⟩
  ·exact h.elim
 ·exact h.elim
theorem loadV_lt {bx:Nat→Option (List A)}{ty:TypeId}{x:A}{K:A→Prop}{n:Nat→Prop} (hx:x.lt n) (hb:∀ k cs,bx k=some cs→A.ltL n cs) (h:loadV P bx ty x K):loadV P bx ty x fun v=>K v∧v.lt n:=by
 unfold loadV at h ⊢
 split at h
 ·split at h
  ·rename_i cs hcs
   skip
   exact partA_lt (ltL_drop _ (hb _ _ hcs)) h
  ·exact h.elim
 ·exact partA_lt (ltL_map _) h
 ·exact h.elim
theorem loadV_mono {bx:Nat→Option (List A)}{ty:TypeId}{x:A}{K K':A→Prop} (hK:∀ v,K v→K' v) (h:loadV P bx ty x K):loadV P bx ty x K':=by
 have part:∀ {k:Option (Bool × Nat)}{cs:List A},partA k cs K→partA k cs K':=fun {k cs} h=>by
  unfold partA at h ⊢
  split at h
  ·exact ⟨h.1,hK _ h.2⟩
  ·split at h
   ·exact hK _ h
   ·exact h.elim
  ·exact h.elim
 unfold loadV at h ⊢
 split at h
 ·split at h
  ·rename_i cs hcs
   skip
   exact part h
  ·exact h.elim
 ·exact part h
 ·exact h.elim
theorem resL_mono {s:St}:∀ {rs:List ResultVar}{K K':List A→Prop},resL P s rs K→(∀ l,K l→K' l)→resL P s rs K'
 | [],K,K',h,hK=>by unfold resL at h ⊢;exact hK _ h
 | .tmp a::r,K,K',h,hK=>by unfold resL at h ⊢;exact resL_mono h fun l hl=>hK _ hl
 | .cell a ty::r,K,K',h,hK=>by unfold resL at h ⊢;exact loadV_mono (fun v hv=>resL_mono hv fun l hl=>hK _ hl) h
theorem resL_lt {s:St}{n:Nat→Prop} (hf:∀ t,(s.f t).lt n) (hb:∀ k cs,lk none s.bx k=some cs→A.ltL n cs):∀ (rs:List ResultVar) {K:List A→Prop},resL P s rs K→resL P s rs fun l=>K l∧A.ltL n l
 | [],K,h=>by
  unfold resL at h ⊢
  exact ⟨h,by unfold A.ltL;trivial⟩
 | .tmp a::r,K,h=>by
  unfold resL at h ⊢
  refine resL_mono (resL_lt hf hb r h) fun l hl=>⟨hl.1,?_⟩
  unfold A.ltL
  exact ⟨hf a,hl.2⟩
 | .cell a ty::r,K,h=>by
  unfold resL at h ⊢
  refine loadV_mono (fun v hv=>?_) (loadV_lt (hf a) hb h)
  refine resL_mono (resL_lt hf hb r hv.1) fun l hl=>⟨hl.1,?_⟩
  unfold A.ltL
  exact ⟨hv.2,hl.2⟩

theorem clA_lt {n:Nat→Prop}{x:A}{f:FuncId}{fs cs:List A} (h:clA x=some (f,fs,cs)) (hl:x.lt n):A.ltL n fs∧A.ltL n cs:=by
 unfold clA at h
 split at h
 ·simp only [Option.some.injEq,Prod.mk.injEq] at h
  obtain ⟨rfl,rfl,rfl⟩:=h
  exact ⟨by unfold A.ltL;trivial,by unfold A.ltL;trivial⟩
 ·simp only [Option.some.injEq,Prod.mk.injEq] at h
  obtain ⟨rfl,rfl,rfl⟩:=h
  unfold A.lt at hl
  exact hl
 ·cases h
theorem ow_inlineV {ops:Array Oper}{o:Oper}{l:List Oper}{K:St→Prop}{f:FuncId}{fn:Func}{c:Code}{n:Nat}{cl:Operand}{fs cs:List A}{xs:Array Operand}{ats:Array TypeId} (hg:Wanted s ops o) (hd:∀ x,o.dst=some x→x<en.sz) (ho:o.op=.call { callee:=.value cl,args:=xs,argTypes:=ats })
  (hcl:clA (ev s.f cl)=some (f,fs,cs)) (hf:P.funcs[f]?=some fn) (hb:fn.body=some c) (he:∀ vs w,(callFunc f vs).run P w=.ok (.enter f vs) w) (hn:fn.ntmps=n) (hl:fs.length+xs.size+cs.length≤n)
  (h:∀ en':En,en'.sz=n→AWs P en' c (FinI P fn s.fr o.dst (OWs P en ops l K)) { s with fr:=frOf (fs++xs.toList.map (ev s.f)++cs) }):OWs P en ops (o::l) K s:=fun a w hs Q hQ=>by
 obtain ⟨G,hG⟩:=hs
 refine wpList_step fun K' hK'=>?_
 rw [if_pos (wanted_run hg hG.rep)]
 have hev:=ev_rep hG.ok.cok.gl hG.rep
 obtain ⟨us0,vs0,hv0,hus0,hvs0⟩:=clA_rep hcl (hev cl)
 refine wp_callC ho hv0 he ?_
 have hr:=(hus0.append (RepAL_map hev xs.toList)).append hvs0
 obtain ⟨hlt1,hlt2⟩:=clA_lt hcl (ev_lt hG.kf cl)
 refine calls_of_wp hf hb (wp_mono (h (inlEn en w G s n) rfl _ w ⟨G,?_⟩) fun e a' w' ⟨s',⟨G',hG'⟩,hfin⟩=>?_)
 ·rw [hn]
  exact inl_start hG n hr (ltL_append (ltL_append hlt1 (RepAL_lt hG.kf _)) hlt2) (by simp;omega)
 ·obtain ⟨hex,hres⟩:=hfin
  obtain ⟨r,us,⟨hK,hrlt⟩,hrl,hrun⟩:=resL_run hG'.ok hG'.rep _ (resL_lt (n:=s'.mem.us) hG'.kf (fun k cs hc=>by obtain ⟨_,_,_,h⟩:=hG'.ok.box k cs hc;exact h) _ hres)
  have hrr:=results_run hrun
  have key:a'.defers=[]∧∃ v,(results fn a'.tmps).run P w'=.ok v w'∧∃ v',Ending.returned v=.returned v'∧K' (a.put o.dst v') w':=
   ⟨hG'.df,_,hrr,_,rfl,hK' _ _ (hK _ _ ⟨G',inl_end hG hG' hd (resOf_rep hrl) (tup_lt hrlt)⟩ Q hQ)⟩
  rcases hex with rfl|rfl<;>exact key
end
end Go.Proofs.YtodkkldopciagaaGreatDoor.Eng
