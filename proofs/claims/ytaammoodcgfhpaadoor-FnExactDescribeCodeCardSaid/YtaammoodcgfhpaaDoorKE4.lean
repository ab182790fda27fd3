/-
 The engine, part 26: where ways meet again.

 The engine, part 27: variables that are handed over as data behind a pointer.

 The engine, part 29: calls that are walked in place.
-/
import Derived.Test.YtaammoodcgfhpaaDoorKE3
set_option linter.unusedSimpArgs false
set_option linter.unusedVariables false
set_option linter.defProp false
set_option maxRecDepth 100000
set_option maxHeartbeats 4000000
namespace Go.Proofs.YtaammoodcgfhpaaDoor.Eng
open Go Go.RowKit
section
variable {P:Program}{en:En}{K:Exit→St→Prop}{s:St}
end
end Go.Proofs.YtaammoodcgfhpaaDoor.Eng
namespace Go.Proofs.YtaammoodcgfhpaaDoor.Eng
open Go Go.RowKit
section
variable {P:Program}{en:En}{s:St}
theorem simS_freezeB (t k:Nat) (cs:List D) (h1:s.f t=.ptr k 0) (h2:lk none s.bx k=some (cs.map .d)) (hks:∀ k,en.ks k→k=0) (hk0:k≠0) {a:Act}{w:World}
  (h:SimS en s a w):SimS en { s with fr:=(t,.d (.rp cs))::s.fr,bx:=(k,none)::s.bx } a w:=by
 obtain ⟨G,hG⟩:=h
 obtain ⟨b,hE,⟨vs,ty,g1,g2,g3,g4⟩,g5⟩:=hG.ok.box k _ h2
 have hlk:s.mem.live k:=.inl (by rw [show s.mem.bx k=some (cs.map .d) from h2];rfl)
 let G':Gh:={ G with C:=fun b' o u=>G.C b' o u∨(b'=b∧vs[o]?=some u) }
 have hle:∀ p,G.Le p G':=fun p=>⟨fun _ _=>rfl,fun _ _=>rfl,fun _ _ _ hc=>.inl hc⟩
 have hm:({ s with fr:=(t,.d (.rp cs))::s.fr,bx:=(k,none)::s.bx }:St).mem={ s.mem with bx:=upd s.mem.bx k none }:=by
  unfold St.mem;simp only [lk_cons]
 have hlive:∀ j,({ s.mem with bx:=upd s.mem.bx k none }:Mem).live j→s.mem.live j∧(j=k→False):=fun j hj=>by
  rcases hj with hj|hj
  ·by_cases e:j=k
   ·subst e;simp at hj
   ·exact ⟨.inl (by simpa [upd_ne _ _ e] using hj),e⟩
  ·refine ⟨.inr hj,fun e=>?_⟩
   subst e
   have:=hG.ok.sep j (by rw [show s.mem.bx j=some (cs.map .d) from h2];rfl)
   have hj':(s.mem.al j).isSome=true:=hj
   rw [this] at hj';cases hj'
 have hb':∀ j b'',s.mem.live j→j≠k→G.E j=some b''→b''≠b:=fun j b'' hj hne hE'' e=>hne (hG.ok.inj j k b hj hlk (e▸hE'') hE)
 refine ⟨G',⟨?_,fun t'=>?_,fun t'=>?_,hG.sz,hG.df,hG.fw,fun b o u hc=>.inl (hG.c0 b o u hc),fun b' o u hc hlt hx=>?_,fun b' ⟨j,hj,hE'⟩=>?_,hG.e0,hG.p0,hG.ks,hG.am,fun b' hb'=>⟨(hG.az b' hb').1,fun ⟨j,hj,hE'⟩=>(hG.az b' hb').2.1 ⟨j,(hlive j (by rw [hm] at hj;exact hj)).1,hE'⟩,fun o u hc=>hc.elim ((hG.az b' hb').2.2 o u) fun he=>(hG.az b' hb').2.1 ⟨k,hlk,by rw [he.1];exact hE⟩⟩⟩⟩
 ·rw [hm]
  refine ⟨⟨fun b' o u hc=>?_,fun b' o u hc hb2=>?_,hG.ok.cok.gl.mono (hle fun _=>True).C,hG.ok.cok.tb⟩,fun j cs hj=>?_,fun j m e y hj b'' hE''=>?_,fun j j' b'' hj hj'=>hG.ok.inj j j' b'' (hlive j hj).1 (hlive j' hj').1,fun j hj=>hG.ok.lt j (hlive j hj).1,fun j hj=>?_⟩
  ·rcases hc with hc|⟨rfl,hv⟩
   ·exact hG.ok.cell b' o u hc
   ·refine ⟨?_,g3 u (List.mem_of_getElem? hv)⟩
    simp [World.cell?,g1,hv]
  ·rcases hc with hc|⟨rfl,_⟩
   ·exact hG.ok.cok.nf b' o u hc hb2
   ·exact frz_of_cells g1
  ·by_cases e:j=k
   ·subst e;simp at hj
   ·rw [show ({ s.mem with bx:=upd s.mem.bx k none }:Mem).bx j=s.mem.bx j from upd_ne _ _ e] at hj
    obtain ⟨b1,q1,⟨us,ty',q2,q3,q4,q5⟩,q6⟩:=hG.ok.box j cs hj
    refine ⟨b1,q1,⟨us,ty',q2,RepAL.mono (hle _) _ _ q6 q3,q4,fun i u hc=>?_⟩,q6⟩
    rcases hc with hc|⟨rfl,_⟩
    ·exact q5 i u hc
    ·exact hb' j _ (.inl (by rw [hj];rfl)) e q1 rfl
  ·have hj':s.mem.al j=some (m,e,y):=hj
   obtain ⟨cur,q1,q2,q3,q4⟩:=hG.ok.row j m e y hj' b'' hE''
   refine ⟨cur,q1,q2,q3,fun i u hi hc=>?_⟩
   rcases hc with hc|⟨rfl,_⟩
   ·exact q4 i u hi hc
   ·have hlj:s.mem.live j:=.inr (by rw [hj'];rfl)
    have hne:j≠k:=fun e'=>by
     subst e'
     have:=hG.ok.sep j (by rw [show s.mem.bx j=some (cs.map .d) from h2];rfl)
     rw [this] at hj';cases hj'
    exact hb' j _ hlj hne hE'' rfl
  ·by_cases e:j=k
   ·subst e;simp at hj
   ·exact hG.ok.sep j (by simpa [upd_ne _ _ e] using hj)
 ·show RepA G' (lk .top ((t,.d (.rp cs))::s.fr) t') _
  rw [lk_cons]
  by_cases e:t'=t
  ·subst e
   rw [upd_same]
   have hr:=hG.rep t'
   rw [h1] at hr
   unfold RepA at hr ⊢
   obtain ⟨b1,q1,q2⟩:=hr
   rw [hE] at q1
   have:=Option.some.inj q1;subst this
   unfold RepD
   refine ⟨b,0,q2,?_⟩
   refine RepCs.ofList (us:=vs) (RepL.mono (fun _ _ _ hc=>.inl hc) _ _ (RepAL_unmap g2)) fun i u hi=>?_
   right
   exact ⟨rfl,by simpa using hi⟩
  ·rw [upd_ne _ _ e]
   exact RepA.mono (hle _) _ _ (hG.kf t') (hG.rep t')
 ·show (lk .top ((t,.d (.rp cs))::s.fr) t').lt _
  rw [lk_cons]
  by_cases e:t'=t
  ·subst e;rw [upd_same];unfold A.lt;trivial
  ·rw [upd_ne _ _ e];exact hG.kf t'
 ·rcases hc with hc|⟨rfl,_⟩
  ·exact hG.c1 b' o u hc hlt hx
  ·rcases hG.lv _ ⟨k,hlk,hE⟩ with h5|h5
   ·omega
   ·exact absurd h5 hx
 ·rw [hm] at hj
  exact hG.lv b' ⟨j,(hlive j hj).1,hE'⟩
theorem aw_freezeB {c:Code}{K:Exit→St→Prop} (t k:Nat) (cs:List D) (h1:s.f t=.ptr k 0) (h2:lk none s.bx k=some (cs.map .d)) (hks:∀ k,en.ks k→k=0) (hk0:k≠0)
  (h:AWs P en c K { s with fr:=(t,.d (.rp cs))::s.fr,bx:=(k,none)::s.bx }):AWs P en c K s:=fun a w hs=>h a w (simS_freezeB t k cs h1 h2 hks hk0 hs)
end
end Go.Proofs.YtaammoodcgfhpaaDoor.Eng
namespace Go.Proofs.YtaammoodcgfhpaaDoor.Eng
open Go Go.RowKit
def FinI (P:Program) (fn:Func) (fr:List (Nat × A)) (d:Option Nat) (K:St→Prop) (e:Exit) (s':St):Prop:=
 (e=.normal∨e=.ret)∧resL P s' fn.results.toList fun l=>K ({ s' with fr:=fr }.set d (resOf l))

def inlEn (en:En) (w:World) (G:Gh) (s:St) (n:Nat):En:={ w:=w,C:=G.C,X:=Mine G s.mem,E:=G.E,cp:=G.cp,ks:=fun k=>k<s.nx,sz:=n,Z:=en.Z,Amb:=en.Amb,stab:=en.stab }
section
variable {P:Program}{en:En}{s:St}
end
end Go.Proofs.YtaammoodcgfhpaaDoor.Eng
