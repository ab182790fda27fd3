/-
 The engine, part 20: a state under other names; loops.

 The engine, part 21: rules for walking.

 The engine, part 22: loops by the state at their head.

 The engine, part 23: calls that work on a variable of plain data.

 The engine, part 24: rows that are made with all their elements, written, and handed over.

 The engine, part 25: a row that is being filled.

 The engine, part EV: the steps of a walk, a word each. The names that are looked up where a word is used: the type facts tyF of the text that uses it, hsz of the walk.
-/
import Derived.Test.YtaammoodcgfhpaaDoorKE2
import Derived.Laws.MakeOwn
set_option linter.unusedSimpArgs false
set_option linter.unusedVariables false
set_option linter.defProp false
set_option maxRecDepth 100000
set_option maxHeartbeats 4000000
namespace Go.Proofs.YtaammoodcgfhpaaDoor.Eng
open Go Go.RowKit

/-! ### A state that says less, its keys renamed -/
mutual
def wkA (σ:Nat→Option Nat):A→A→Prop
 | .top,_=>True
 | .d x,y=>wkD x y
 | .ptr k o,y=>∃ k',σ k=some k'∧y=.ptr k' o
 | .own k e z es,y=>wkO (σ k) e z es y
 | .arr k z n,y=>∃ k',σ k=some k'∧y=.arr k' z n
 | .clo f fs cs,.clo f' fs' cs'=>f=f'∧wkL σ fs fs'∧wkL σ cs cs'
 | .ifc t x,.ifc t' x'=>t=t'∧wkA σ x x'
 | .agg cs,.agg cs'=>wkL σ cs cs'
 | .tup cs,.tup cs'=>wkL σ cs cs'
 | .dec k e z es ks,y=>∃ k' ks',σ k=some k'∧y=.dec k' e z es ks'∧ks.map (fun p=>(p.1,σ p.2.1,p.2.2))=ks'.map (fun p=>(p.1,some p.2.1,p.2.2))
 | .sow k e z es p,y=>wkSo (σ k) e z es p y
 | _,_=>False
def wkL (σ:Nat→Option Nat):List A→List A→Prop
 | [],[]=>True
 | c::cs,c'::cs'=>wkA σ c c'∧wkL σ cs cs'
 | _,_=>False
def wkO:Option Nat→TypeId→Nat→List (List D)→A→Prop
 | some k,e,z,es,y=>y=.own k e z es
 | none,_,_,es,y=>es=[]∧y=.d (.v (.slice none 0 0))
def wkSo:Option Nat→TypeId→Nat→List (List D)→(Nat→Prop)→A→Prop
 | some k,e,z,es,p,y=>y=.sow k e z es p
 | none,_,_,es,_,y=>es=[]∧y=.d (.v (.slice none 0 0))
end

def renG (σ:Nat→Option Nat) (G:Gh):Gh:={ E:=fun k=>(σ k).bind G.E,cp:=fun k=>match σ k with|some j=>G.cp j|none=>0,C:=G.C }

mutual
theorem wkA_rep {σ:Nat→Option Nat}{G:Gh}:∀ {x y:A}{u:Value},wkA σ x y→RepA G y u→RepA (renG σ G) x u
 | .top,_,_,_,_=>by unfold RepA;trivial
 | .d x,y,u,h,hr=>by
  unfold wkA at h
  unfold RepA
  exact wkD_rep (G:=G) h hr
 | .ptr k o,y,u,h,hr=>by
  unfold wkA at h
  obtain ⟨k',h1,rfl⟩:=h
  unfold RepA at hr ⊢
  obtain ⟨b,h2,h3⟩:=hr
  exact ⟨b,by show (σ k).bind G.E=some b;rw [h1];exact h2,h3⟩
 | .arr k z n,y,u,h,hr=>by
  unfold wkA at h
  obtain ⟨k',h1,rfl⟩:=h
  unfold RepA at hr ⊢
  obtain ⟨b,cap,h2,h3⟩:=hr
  exact ⟨b,cap,by show (σ k).bind G.E=some b;rw [h1];exact h2,h3⟩
 | .clo f fs cs,y,u,h,hr=>by
  cases y with
  | clo f' fs' cs'=>
   unfold wkA at h
   obtain ⟨rfl,h1,h2⟩:=h
   unfold RepA at hr ⊢
   obtain ⟨us,vs,k1,k2,k3⟩:=hr
   exact ⟨us,vs,k1,wkL_rep h1 k2,wkL_rep h2 k3⟩
  | _=>unfold wkA at h;exact h.elim
 | .ifc t x,y,u,h,hr=>by
  cases y with
  | ifc t' x'=>
   unfold wkA at h
   obtain ⟨rfl,h1⟩:=h
   unfold RepA at hr ⊢
   obtain ⟨v,k1,k2⟩:=hr
   exact ⟨v,k1,wkA_rep h1 k2⟩
  | _=>unfold wkA at h;exact h.elim
 | .own k e z es,y,u,h,hr=>by
  unfold wkA wkO at h
  unfold RepA
  show RepOwn G.C ((σ k).bind G.E) (match σ k with|some j=>G.cp j|none=>0) z es u
  split at h
  ·rename_i k' hk
   subst h
   rw [hk]
   unfold RepA at hr
   exact hr
  ·rename_i hk
   obtain ⟨rfl,rfl⟩:=h
   rw [hk]
   unfold RepA RepD at hr
   exact .inl ⟨rfl,rfl,hr⟩
 | .sow k e z es p,y,u,h,hr=>by
  unfold wkA wkSo at h
  unfold RepA
  show RepSow G.C ((σ k).bind G.E) (match σ k with|some j=>G.cp j|none=>0) z es p u
  split at h
  ·rename_i k' hk
   subst h
   rw [hk]
   unfold RepA at hr
   exact hr
  ·rename_i hk
   obtain ⟨rfl,rfl⟩:=h
   rw [hk]
   unfold RepA RepD at hr
   exact .inl ⟨rfl,rfl,hr⟩
 | .agg cs,y,u,h,hr=>by
  cases y with
  | agg cs'=>
   unfold wkA at h
   unfold RepA at hr ⊢
   obtain ⟨us,h1,h2,h3⟩:=hr
   exact ⟨us,h1,wkL_rep h h2,h3⟩
  | _=>unfold wkA at h;exact h.elim
 | .tup cs,y,u,h,hr=>by
  cases y with
  | tup cs'=>
   unfold wkA at h
   unfold RepA at hr ⊢
   obtain ⟨us,h1,h2⟩:=hr
   exact ⟨us,h1,wkL_rep h h2⟩
  | _=>unfold wkA at h;exact h.elim
 | .dec k e z es ks,y,u,h,hr=>by
  unfold wkA at h
  obtain ⟨k',ks',h1,rfl,h2⟩:=h
  unfold RepA at hr ⊢
  obtain ⟨b,g1,g2,g3,g4,g5,g6⟩:=hr
  have hcp:(renG σ G).cp k=G.cp k':=by show (match σ k with|some j=>G.cp j|none=>0)=_;rw [h1]
  refine ⟨b,by show (σ k).bind G.E=some b;rw [h1];exact g1,by rw [hcp];exact g2,by rw [hcp];exact g3,by rw [hcp];exact g4,g5,fun p hp=>?_⟩
  have hm:(p.1,σ p.2.1,p.2.2)∈ks'.map (fun p=>(p.1,some p.2.1,p.2.2)):=by rw [←h2];exact List.mem_map_of_mem hp
  obtain ⟨p',hp',he⟩:=List.mem_map.1 hm
  simp only [Prod.mk.injEq] at he
  obtain ⟨e1,e2,e3⟩:=he
  obtain ⟨u',k1,k2⟩:=g6 p' hp'
  refine ⟨u',by rw [←e1];exact k1,?_⟩
  show RepOwn G.C ((σ p.2.1).bind G.E) (match σ p.2.1 with|some j=>G.cp j|none=>0) 1 p.2.2 u'
  rw [←e2,←e3]
  exact k2
theorem wkL_rep {σ:Nat→Option Nat}{G:Gh}:∀ {xs ys:List A}{us:List Value},wkL σ xs ys→RepAL G ys us→RepAL (renG σ G) xs us
 | [],[],us,_,hr=>by unfold RepAL at hr ⊢;exact hr
 | c::cs,c'::cs',us,h,hr=>by
  unfold wkL at h
  unfold RepAL at hr ⊢
  obtain ⟨u,us',h1,h2,h3⟩:=hr
  exact ⟨u,us',h1,wkA_rep h.1 h2,wkL_rep h.2 h3⟩
 | [],_::_,_,h,_=>by unfold wkL at h;exact h.elim
 | _::_,[],_,h,_=>by unfold wkL at h;exact h.elim
end

def sg:List (Nat × Option Nat)→Nat→Option Nat
 | [],k=>some k
 | (j,v)::l,k=>if j=k then v else sg l k
def wkFr (σ:Nat→Option Nat) (s:St) (n:Nat):List (Nat × A)→Prop
 | []=>True
 | (t,v)::l=>(wkA σ v (s.f t)∧v.lt (·<n))∧wkFr σ s n l
def wkBc (σ:Nat→Option Nat) (cs:List A):Option (List A)→Prop
 | some cs'=>wkL σ cs cs'
 | none=>False
def wkB (σ:Nat→Option Nat) (s:St) (cs:List A):Option Nat→Prop
 | some k'=>wkBc σ cs (lk none s.bx k')
 | none=>False
theorem wkB_get {σ:Nat→Option Nat}{s:St}{cs:List A}{o:Option Nat} (h:wkB σ s cs o):∃ k' cs',o=some k'∧lk none s.bx k'=some cs'∧wkL σ cs cs':=by
 unfold wkB at h
 split at h
 ·rename_i k'
  unfold wkBc at h
  split at h
  ·rename_i cs' hc
   exact ⟨k',cs',rfl,hc,h⟩
  ·exact h.elim
 ·exact h.elim
def wkBx (σ:Nat→Option Nat) (s:St) (n:Nat):List (Nat × Option (List A))→Prop
 | []=>True
 | (k,some cs)::l=>(k<n∧A.ltL (·<n) cs∧wkB σ s cs (σ k))∧wkBx σ s n l
 | (_,none)::l=>wkBx σ s n l
def wkAlv (s:St):Option Nat→Nat→TypeId→Nat→Prop
 | some k,len,e,z=>lk none s.al k=some (len,e,z)
 | none,len,_,_=>len=0
def wkAl (σ:Nat→Option Nat) (s:St) (n:Nat):List (Nat × Option (Nat × TypeId × Nat))→Prop
 | []=>True
 | (k,some (len,e,z))::l=>(k<n∧wkAlv s (σ k) len e z)∧wkAl σ s n l
 | (_,none)::l=>wkAl σ s n l
def keysOk (σ:Nat→Option Nat):List Nat→Bool
 | []=>true
 | k::l=>l.all (fun j=>j != k && (σ k==none || σ j != σ k)) && keysOk σ l
def liveKeys {α:Type}:List (Nat × Option α)→List Nat
 | []=>[]
 | (k,some _)::l=>k::liveKeys l
 | (_,none)::l=>liveKeys l
structure St.wk (σ:Nat→Option Nat) (s s':St):Prop where
 fr:wkFr σ s s'.nx s'.fr
 bx:wkBx σ s s'.nx s'.bx
 al:wkAl σ s s'.nx s'.al
 ky:keysOk σ (liveKeys s'.bx++liveKeys s'.al)=true

theorem lk_mem {α:Type}{l:List (Nat × Option α)}{k:Nat}{v:α} (h:lk none l k=some v):(k,some v)∈l:=by
 induction l with
 | nil=>simp [lk] at h
 | cons p l ih=>
  obtain ⟨j,x⟩:=p
  simp only [lk] at h
  split at h
  ·rename_i e;subst e;subst h;exact List.mem_cons_self
  ·exact List.mem_cons_of_mem _ (ih h)
theorem live_mem {α:Type}{l:List (Nat × Option α)}{k:Nat}{v:α} (h:(k,some v)∈l):k∈liveKeys l:=by
 induction l with
 | nil=>cases h
 | cons p l ih=>
  obtain ⟨j,x⟩:=p
  rcases List.mem_cons.1 h with h'|h'
  ·cases h'
   simp [liveKeys]
  ·cases x<;>simp [liveKeys,ih h']
theorem wkBx_get {σ:Nat→Option Nat}{s:St}{n:Nat}:∀ {l:List (Nat × Option (List A))}{k:Nat}{cs:List A},wkBx σ s n l→(k,some cs)∈l→k<n∧A.ltL (·<n) cs∧∃ k' cs',σ k=some k'∧lk none s.bx k'=some cs'∧wkL σ cs cs'
 | (k',some cs')::l,k,cs,h,hm=>by
  unfold wkBx at h
  rcases List.mem_cons.1 hm with hm|hm
  ·cases hm;exact ⟨h.1.1,h.1.2.1,wkB_get h.1.2.2⟩
  ·exact wkBx_get h.2 hm
 | (k',none)::l,k,cs,h,hm=>by
  unfold wkBx at h
  rcases List.mem_cons.1 hm with hm|hm
  ·cases hm
  ·exact wkBx_get h hm
theorem wkAl_get {σ:Nat→Option Nat}{s:St}{n:Nat}:∀ {l:List (Nat × Option (Nat × TypeId × Nat))}{k len:Nat}{e:TypeId}{z:Nat},wkAl σ s n l→(k,some (len,e,z))∈l→k<n∧wkAlv s (σ k) len e z
 | (k',some (len',e',z'))::l,k,len,e,z,h,hm=>by
  unfold wkAl at h
  rcases List.mem_cons.1 hm with hm|hm
  ·cases hm;exact h.1
  ·exact wkAl_get h.2 hm
 | (k',none)::l,k,len,e,z,h,hm=>by
  unfold wkAl at h
  rcases List.mem_cons.1 hm with hm|hm
  ·cases hm
  ·exact wkAl_get h hm
theorem wkFr_get {σ:Nat→Option Nat}{s:St}{n:Nat}:∀ {l:List (Nat × A)} (t:Nat),wkFr σ s n l→(wkA σ (lk .top l t) (s.f t)∧(lk .top l t).lt (·<n))
 | [],t,_=>by simp only [lk];exact ⟨by unfold wkA;trivial,by unfold A.lt;trivial⟩
 | (j,v)::l,t,h=>by
  unfold wkFr at h
  simp only [lk]
  split
  ·rename_i e;subst e;exact h.1
  ·exact wkFr_get t h.2
theorem keysOk_ne {σ:Nat→Option Nat}:∀ {l:List Nat},keysOk σ l=true→l.Nodup∧∀ j∈l,∀ k∈l,j≠k→∀ x,¬(σ j=some x∧σ k=some x)
 | [],_=>⟨List.nodup_nil,fun _ h=>by cases h⟩
 | k::l,h=>by
  unfold keysOk at h
  rw [Bool.and_eq_true,List.all_eq_true] at h
  obtain ⟨h1,h2⟩:=h
  obtain ⟨i1,i2⟩:=keysOk_ne h2
  have h1':∀ j∈l,j≠k∧∀ x,¬(σ j=some x∧σ k=some x):=fun j hj=>by
   have:=h1 j hj
   simp only [Bool.and_eq_true,bne_iff_ne,Bool.or_eq_true,beq_iff_eq] at this
   refine ⟨this.1,fun x ⟨e1,e2⟩=>?_⟩
   rcases this.2 with h|h
   ·rw [h] at e2;cases e2
   ·exact h (e1.trans e2.symm)
  refine ⟨List.nodup_cons.2 ⟨fun hm=>(h1' k hm).1 rfl,i1⟩,fun j hj j' hj' hne x=>?_⟩
  rcases List.mem_cons.1 hj with e|hj1<;>rcases List.mem_cons.1 hj' with e'|hj2
  ·exact absurd (e.trans e'.symm) hne
  ·subst e;rintro ⟨e1,e2⟩;exact (h1' j' hj2).2 x ⟨e2,e1⟩
  ·subst e';exact (h1' j hj1).2 x
  ·exact i2 j hj1 j' hj2 hne x

theorem simS_wk {en:En}{a:Act}{w:World}{s s':St}{σ:Nat→Option Nat} (hk:∀ k,en.ks k→k<s'.nx∧σ k=some k) (h:s.wk σ s') (hs:SimS en s a w):SimS en s' a w:=by
 obtain ⟨G,hG⟩:=hs
 obtain ⟨hnd,hinj⟩:=keysOk_ne h.ky
 have hbl:∀ k cs,s'.mem.bx k=some cs→k∈liveKeys s'.bx:=fun k cs hb=>live_mem (lk_mem hb)
 have hal:∀ k x,s'.mem.al k=some x→k∈liveKeys s'.al:=fun k x hb=>live_mem (lk_mem hb)
 have hlk:∀ k,s'.mem.live k→k∈liveKeys s'.bx++liveKeys s'.al:=fun k hk=>by
  rcases hk with hk|hk
  ·obtain ⟨cs,hc⟩:=Option.isSome_iff_exists.1 hk
   exact List.mem_append_left _ (hbl k cs hc)
  ·obtain ⟨x,hx⟩:=Option.isSome_iff_exists.1 hk
   exact List.mem_append_right _ (hal k x hx)
 -- a live key with a block was live before
 have hlv:∀ k b,s'.mem.live k→(renG σ G).E k=some b→∃ k',σ k=some k'∧s.mem.live k'∧G.E k'=some b:=fun k b hk hE=>by
  have hE':(σ k).bind G.E=some b:=hE
  cases hq:σ k with
  | none=>rw [hq] at hE';cases hE'
  | some k'=>
   rw [hq] at hE'
   refine ⟨k',rfl,?_,hE'⟩
   rcases hk with hk|hk
   ·obtain ⟨cs,hc⟩:=Option.isSome_iff_exists.1 hk
    obtain ⟨_,_,j,cs',h3,h4,_⟩:=wkBx_get h.bx (lk_mem hc)
    rw [hq] at h3
    have:=Option.some.inj h3;subst this
    exact .inl (by rw [show s.mem.bx k'=some cs' from h4];rfl)
   ·obtain ⟨⟨len,e,z⟩,hx⟩:=Option.isSome_iff_exists.1 hk
    obtain ⟨_,h3⟩:=wkAl_get h.al (lk_mem hx)
    rw [hq] at h3
    unfold wkAlv at h3
    exact .inr (by rw [show s.mem.al k'=some (len,e,z) from h3];rfl)
 refine ⟨renG σ G,⟨⟨hG.ok.cok,fun k cs hb=>?_,fun k n e z hb b hE=>?_,fun k k' b hk hk' hE hE'=>?_,fun k hk=>?_,fun k hk=>?_⟩,fun t=>?_,fun t=>?_,hG.sz,hG.df,hG.fw,hG.c0,hG.c1,fun b ⟨k,hk,hE⟩=>?_,fun k hks=>?_,fun k hks=>?_,fun k hks=>(hk k hks).1,hG.am,fun b hb=>⟨(hG.az b hb).1,fun ⟨k,hk,hE⟩=>?_,(hG.az b hb).2.2⟩⟩⟩
 ·obtain ⟨_,h2,j,cs',h3,h4,h5⟩:=wkBx_get h.bx (lk_mem hb)
  obtain ⟨b,q1,⟨vs,ty,q2,q3,q4,q5⟩,_⟩:=hG.ok.box j cs' h4
  exact ⟨b,by show (σ k).bind G.E=some b;rw [h3];exact q1,⟨vs,ty,q2,wkL_rep h5 q3,q4,q5⟩,h2⟩
 ·obtain ⟨_,h3⟩:=wkAl_get h.al (lk_mem hb)
  have hE':(σ k).bind G.E=some b:=hE
  show RowOk G.C w b (match σ k with|some j=>G.cp j|none=>0) n e z
  cases hq:σ k with
  | none=>rw [hq] at hE';cases hE'
  | some j=>
   rw [hq] at h3 hE'
   unfold wkAlv at h3
   exact hG.ok.row j n e z h3 b hE'
 ·obtain ⟨j,j1,j2,j3⟩:=hlv k b hk hE
  obtain ⟨j',j1',j2',j3'⟩:=hlv k' b hk' hE'
  have:=hG.ok.inj j j' b j2 j2' j3 j3'
  subst this
  by_cases e:k=k'
  ·exact e
  ·exact absurd ⟨j1,j1'⟩ (hinj k (hlk k hk) k' (hlk k' hk') e j)
 ·rcases hk with hk|hk
  ·obtain ⟨cs,hc⟩:=Option.isSome_iff_exists.1 hk
   exact (wkBx_get h.bx (lk_mem hc)).1
  ·obtain ⟨⟨len,e,z⟩,hx⟩:=Option.isSome_iff_exists.1 hk
   exact (wkAl_get h.al (lk_mem hx)).1
 ·obtain ⟨cs,hc⟩:=Option.isSome_iff_exists.1 hk
  cases hq:s'.mem.al k with
  | none=>rfl
  | some x=>
   rw [List.nodup_append] at hnd
   exact absurd rfl (hnd.2.2 k (hbl k cs hc) k (hal k x hq))
 ·exact wkA_rep (wkFr_get t h.fr).1 (hG.rep t)
 ·exact (wkFr_get t h.fr).2
 ·obtain ⟨j,_,j2,j3⟩:=hlv k b hk hE
  exact hG.lv b ⟨j,j2,j3⟩
 ·show (σ k).bind G.E=en.E k
  rw [(hk k hks).2]
  exact hG.e0 k hks
 ·show (match σ k with|some j=>G.cp j|none=>0)=en.cp k
  rw [(hk k hks).2]
  exact hG.p0 k hks
 ·obtain ⟨j,_,j2,j3⟩:=hlv k b hk hE
  exact (hG.az b hb).2.1 ⟨j,j2,j3⟩

section
variable {P:Program}{en:En}{K:Exit→St→Prop}{s:St}
theorem aw_loopR {σ:Type} (mk:σ→St) (I:σ→Prop) (μ:σ→Nat) {c:Code} (ρ0:List (Nat × Option Nat)) (x0:σ) (hk:∀ k,en.ks k→k=0) (hk0:∀ x,0<(mk x).nx) (hρ0:sg ρ0 0=some 0) (h0:I x0) (hs0:s.wk (sg ρ0) (mk x0))
  (hr:∀ x,I x→AWs P en c (fun e s'=>match e with|.normal=>∃ y ρ,I y∧μ y<μ x∧sg ρ 0=some 0∧s'.wk (sg ρ) (mk y)|e=>K e s') (mk x)):AWs P en (.loop c) K s:=fun a w hs=>by
 have hkk:∀ (ρ:List (Nat × Option Nat)) x,sg ρ 0=some 0→∀ k,en.ks k→k<(mk x).nx∧sg ρ k=some k:=fun ρ x h k hk'=>by
  have:=hk k hk';subst this
  exact ⟨hk0 x,h⟩
 refine wp_loop (fun a w=>∃ x,I x∧SimS en (mk x) a w) (fun a w=>leastOf fun n=>∃ x,I x∧SimS en (mk x) a w∧μ x=n) ⟨x0,h0,simS_wk (hkk ρ0 x0 hρ0) hs0 hs⟩ ?_
 rintro a w ⟨x,hx,hsx⟩
 obtain ⟨⟨z,hz,hsz,hμ⟩,_⟩:=leastOf_spec (S:=fun n=>∃ x,I x∧SimS en (mk x) a w∧μ x=n) ⟨x,hx,hsx,rfl⟩
 refine wp_mono (hr z hz a w hsz) fun e a' w' ⟨s',h1,h2⟩=>?_
 cases e with
 | normal=>
  obtain ⟨y,ρ,hy,hlt,hρ,hle⟩:=h2
  have hsy:=simS_wk (hkk ρ y hρ) hle h1
  refine ⟨⟨y,hy,hsy⟩,?_⟩
  obtain ⟨_,hmin⟩:=leastOf_spec (S:=fun n=>∃ x,I x∧SimS en (mk x) a' w'∧μ x=n) ⟨y,hy,hsy,rfl⟩
  have:=hmin (μ y) ⟨y,hy,hsy,rfl⟩
  omega
 | _=>exact ⟨s',h1,h2⟩
end
end Go.Proofs.YtaammoodcgfhpaaDoor.Eng
namespace Go.Proofs.YtaammoodcgfhpaaDoor.Eng
open Go Go.RowKit

section
variable {P:Program}{en:En}{ops:Array Oper}{o:Oper}{l:List Oper}{K:St→Prop}{s:St}
theorem ow_go (hg:Wanted s ops o) (hd:∀ x,o.dst=some x→x<en.sz) (h:∀ K':St→Prop,(∀ s,OWs P en ops l K s→K' s)→NStep P s o.op o.dst K'):OWs P en ops (o::l) K s:=nstep_sound hg hd (h _ fun _ h=>h)
end

/-! ### Arguments that say less -/
theorem renG_some (G:Gh):renG (fun k=>some k) G=G:=rfl
theorem AC.w {P:Program}{f:FuncId}{xs ys:List A}{bx:Option (List Rz)}{Q:Rz→Option (List Rz)→Prop} (h:AC P f ys bx Q) (k:wkL (fun k=>some k) ys xs):AC P f xs bx Q:=
 ⟨h.1,fun w C β F0 vs hC hr hbo hn=>h.2 w C β F0 vs hC (renG_some (argG C bx β)▸wkL_rep k hr) hbo hn⟩

/-! ### Calls that work on a variable of ours -/
def St.back (s:St) (k:Nat) (ks:List Nat) (zs:List Rz) (r:Rz):St:=
 let s2:=Rz.addSL zs s.nx { s with bx:=(k,none)::s.bx,al:=ks.map (fun j=>(j,none))++s.al }
 { r.addS (s.nx+Rz.nkL zs) { s2 with bx:=(k,some (Rz.toAL zs s.nx))::s2.bx } with nx:=s.nx+16 }
theorem lk_drop (al:List (Nat × Option (Nat × TypeId × Nat))):∀ ks:List Nat,lk none (ks.map (fun j=>(j,none))++al)=dropAll (lk none al) ks
 | []=>by funext j;simp [dropAll]
 | k::ks=>by
  funext j
  simp only [List.map_cons,List.cons_append,lk,lk_drop al ks,dropAll,List.mem_cons]
  by_cases e:k=j
  ·subst e;simp
  ·have e':¬j=k:=fun h=>e h.symm
   simp [e,e']
theorem St.back_mem (s:St) (k:Nat) (ks:List Nat) (zs:List Rz) (r:Rz) (h:Rz.nkL zs+r.nk≤16):(s.back k ks zs r).mem=s.mem.back s.nx k ks zs r∧(s.back k ks zs r).fr=s.fr∧(s.back k ks zs r).nx=s.nx+16:=by
 obtain ⟨a1,a2,a3,a4⟩:=Rz.addSL_mem zs s.nx { s with bx:=(k,none)::s.bx,al:=ks.map (fun j=>(j,none))++s.al } { bx:=upd s.mem.bx k none,al:=dropAll s.mem.al ks,us:=s.mem.us } (lk_cons _ _ _ _).symm (lk_drop _ _).symm
 obtain ⟨b1,b2,b3,b4⟩:=Rz.addS_mem r (s.nx+Rz.nkL zs) { Rz.addSL zs s.nx { s with bx:=(k,none)::s.bx,al:=ks.map (fun j=>(j,none))++s.al } with bx:=(k,some (Rz.toAL zs s.nx))::(Rz.addSL zs s.nx { s with bx:=(k,none)::s.bx,al:=ks.map (fun j=>(j,none))++s.al }).bx }
  { Rz.addL zs s.nx { bx:=upd s.mem.bx k none,al:=dropAll s.mem.al ks,us:=s.mem.us } with bx:=upd (Rz.addL zs s.nx { bx:=upd s.mem.bx k none,al:=dropAll s.mem.al ks,us:=s.mem.us }).bx k (some (Rz.toAL zs s.nx)) } (by rw [lk_cons,←a1]) a2
 refine ⟨?_,b3.trans a3,rfl⟩
 unfold Mem.back Mem.bump
 refine mem_ext (fun j=>⟨?_,?_⟩) ?_
 ·show lk none (s.back k ks zs r).bx j=(r.add _ _).bx j
  rw [b1];rfl
 ·show lk none (s.back k ks zs r).al j=(r.add _ _).al j
  rw [b2];rfl
 ·funext j
  apply propext
  show j<s.nx+16↔(r.add _ _).us j∨(s.nx≤j∧j<s.nx+16)
  rw [b4]
  show _↔(((Rz.addL zs s.nx { bx:=upd s.mem.bx k none,al:=dropAll s.mem.al ks,us:=s.mem.us }).us j)∨_)∨_
  rw [a4]
  show _↔((j<s.nx∨_)∨_)∨_
  omega

def CallN1 (P:Program) (s:St) (f:FuncId) (xs:List A) (d:Option Nat) (K:St→Prop):Prop:=
 ∃ k ys cs zs ks Q,argsOf (some k) xs=some ys∧lk none s.bx k=some cs∧ToZL s.mem cs zs ks∧(∀ j∈ks,(lk none s.al j).isSome=true)∧(k::ks).Nodup∧AC P f ys (some zs) Q∧
  ∀ r zs',Q r (some zs')→Rz.nkL zs'+r.nk≤16∧K ((s.back k ks zs' r).set d (r.toA (s.nx+Rz.nkL zs')))
section
variable {P:Program}{en:En}{ops:Array Oper}{o:Oper}{l:List Oper}{K:St→Prop}{s:St}
theorem ow_call1 {f:FuncId}{xs:Array Operand}{ats:Array TypeId} (hg:Wanted s ops o) (hd:∀ x,o.dst=some x→x<en.sz) (ho:o.op=.call { callee:=.value (.func f),args:=xs,argTypes:=ats }) (h:CallN1 P s f (xs.toList.map (ev s.f)) o.dst (OWs P en ops l K)):OWs P en ops (o::l) K s:=by
 obtain ⟨k,ys,cs,zs,ks,Q,h1,h2,h3,h4,h5,h6,h7⟩:=h
 refine ow_step hg hd (does_call1 (κ:=s.nx) ho h1 h2 h3 h4 h5 h6 (mem_fresh s) fun r zs' hr=>(h7 r zs' hr).1) fun v m' ⟨r,zs',hr,e1,e2⟩=>?_
 subst e1 e2
 obtain ⟨g1,g2⟩:=h7 r zs' hr
 obtain ⟨q1,q2,_⟩:=St.back_mem s k ks zs' r g1
 exact ⟨s.back k ks zs' r,q1,q2,g2⟩
variable {K2:List Nat→St→Prop}{acc:List Nat}
theorem ol_call1 {N:Nat}{f:FuncId}{xs:Array Operand}{ats:Array TypeId}{k:Nat}{ys cs:List A}{zs zs':List Rz}{ks:List Nat}{r:Rz} (hg:match o.guard with|none=>True|some (g,want)=>guardB s ops g=some want) (ho:o.op=.call { callee:=.value (.func f),args:=xs,argTypes:=ats })
  (h1:argsOf (some k) (xs.toList.map (ev s.f))=some ys) (h2:lk none s.bx k=some cs) (h3:ToZL s.mem cs zs ks) (h4:∀ j∈ks,(lk none s.al j).isSome=true) (h5:(k::ks).Nodup) (h6:AC P f ys (some zs) fun r' b=>r'=r∧b=some zs') (h7:Rz.nkL zs'+r.nk≤16)
  (h8:∃ o,A.ptr k o∈xs.toList.map (ev s.f)) (h:OL P N ops l (acc++[3]) K2 ((s.back k ks zs' r).set o.dst (r.toA (s.nx+Rz.nkL zs')))):OL P N ops (o::l) acc K2 s:=by
 obtain ⟨q1,q2,q3⟩:=St.back_mem s k ks zs' r h7
 refine ⟨3,_,?_,(St.set_nx _ _ _).trans q3,h⟩
 rw [St.set_f,St.set_mem,q1]
 have e:(s.back k ks zs' r).f=s.f:=by unfold St.f;rw [q2]
 rw [e]
 refine .run (fun g want hg'=>?_) (by rw [ho];exact .call1 h1 h2 h3 h4 h5 h6 h7 h8)
 rw [hg'] at hg
 simp only at hg
 unfold guardB at hg
 split at hg
 ·rename_i t ht
  refine ⟨t,ht,?_⟩
  split at hg
  ·rename_i b hb
   rw [hb,Option.some.inj hg]
  ·cases hg
 ·cases hg
end
end Go.Proofs.YtaammoodcgfhpaaDoor.Eng
namespace Go.Proofs.YtaammoodcgfhpaaDoor.Eng
open Go Go.RowKit

/-! ### What simp is to use of the engine's functions -/
theorem cellsOfA_1 (cs:List D):cellsOfA (.d (.agg cs))=some (cs.map .d):=rfl
theorem cellsOfA_2 (cs:List A):cellsOfA (.agg cs)=some cs:=rfl
theorem cells1_1 (cs:List D):cells1 (.d (.agg cs))=some (cs.map .d):=rfl
theorem cells1_2 (cs:List A):cells1 (.agg cs)=some cs:=rfl
theorem cells1_3 (k:IntKind) (n:Int):cells1 (.d (.v (.int k n)))=some [.d (.v (.int k n))]:=rfl
theorem cells1_4 (b:Bool):cells1 (.d (.v (.bool b)))=some [.d (.v (.bool b))]:=rfl
theorem cells1_5 (b:ByteArray):cells1 (.d (.v (.string b)))=some [.d (.v (.string b))]:=rfl
theorem cells1_6 (a:Option Addr) (n c:Nat):cells1 (.d (.v (.slice a n c)))=some [.d (.v (.slice a n c))]:=rfl
theorem cells1_7 (a:Option Addr):cells1 (.d (.v (.pointer a)))=some [.d (.v (.pointer a))]:=rfl
theorem cells1_8:cells1 (.d (.v .nilIface))=some [.d (.v .nilIface)]:=rfl
theorem cells1_9 (z:Nat) (es:List (List D)):cells1 (.d (.sl z es))=some [.d (.sl z es)]:=rfl
theorem cells1_10 (cs:List D):cells1 (.d (.rp cs))=some [.d (.rp cs)]:=rfl
theorem cells1_11 (t:TypeId) (x:D):cells1 (.d (.ifc t x))=some [.d (.ifc t x)]:=rfl
theorem cells1_12 (k o:Nat):cells1 (.ptr k o)=some [.ptr k o]:=rfl
theorem cells1_13 (k z:Nat) (e:TypeId) (es:List (List D)):cells1 (.own k e z es)=some [.own k e z es]:=rfl
theorem elemsOf_1 (z:Nat) (es:List (List D)):elemsOf (.d (.sl z es))=some (z,es):=rfl
theorem elemsOf_2 (k z:Nat) (e:TypeId) (es:List (List D)):elemsOf (.own k e z es)=some (z,es):=rfl
theorem lenA_1 (z:Nat) (es:List (List D)):lenA (.d (.sl z es))=some es.length:=rfl
theorem lenA_2 (k z:Nat) (e:TypeId) (es:List (List D)):lenA (.own k e z es)=some es.length:=rfl
theorem lenA_3:lenA (.d (.v (.slice none 0 0)))=some 0:=rfl
theorem lenA_4 (s:ByteArray):lenA (.d (.v (.string s)))=some s.size:=rfl
def isSlc (P:Program) (t:TypeId):Bool:=match P.underlying t with|some (.slice _)=>true|_=>false
theorem lenV_of {P:Program}{t:TypeId}{x:A}{n:Nat}{K:A→Prop} (hl:lenA x=some n) (hx:∀ s,x≠.d (.v (.string s))):lenV P t x K=(isSlc P t=true∧K (.d (.v (.int .i64 n)))):=by
 unfold lenV isSlc
 rw [hl]
 cases hu:P.underlying t with
 | none=>rfl
 | some d=>
  cases d with
  | slice e=>
   cases x with
   | d y=>
    cases y with
    | v w=>
     cases w with
     | string s=>exact absurd rfl (hx s)
     | _=>rfl
    | _=>rfl
   | _=>rfl
  | string=>
   cases x with
   | d y=>
    cases y with
    | v w=>
     cases w with
     | string s=>exact absurd rfl (hx s)
     | _=>rfl
    | _=>rfl
   | _=>rfl
  | _=>rfl
theorem lenV_1 (P:Program) (t:TypeId) (z:Nat) (es:List (List D)) (K:A→Prop):lenV P t (.d (.sl z es)) K=(isSlc P t=true∧K (.d (.v (.int .i64 es.length)))):=lenV_of rfl fun s h=>by cases h
theorem lenV_2 (P:Program) (t:TypeId) (k z:Nat) (e:TypeId) (es:List (List D)) (K:A→Prop):lenV P t (.own k e z es) K=(isSlc P t=true∧K (.d (.v (.int .i64 es.length)))):=lenV_of rfl fun s h=>by cases h
theorem lenV_3 (P:Program) (t:TypeId) (K:A→Prop):lenV P t (.d (.v (.slice none 0 0))) K=(isSlc P t=true∧K (.d (.v (.int .i64 0)))):=lenV_of rfl fun s h=>by cases h
def isStr (P:Program) (t:TypeId):Bool:=match P.underlying t with|some .string=>true|_=>false
theorem lenV_4 (P:Program) (t:TypeId) (s:ByteArray) (K:A→Prop):lenV P t (.d (.v (.string s))) K=(isStr P t=true∧K (.d (.v (.int .i64 s.size)))):=by
 unfold lenV isStr
 simp only [lenA]
 cases hu:P.underlying t with
 | none=>rfl
 | some d=>cases d<;>rfl
theorem elemsN_1 (z:Nat):elemsN z (.d (.v (.slice none 0 0)))=some []:=rfl
theorem elemsN_2 (z:Nat) (es:List (List D)):elemsN z (.d (.sl z es))=some es:=by simp [elemsN]
theorem elemsN_3 (k z:Nat) (e:TypeId) (es:List (List D)):elemsN z (.own k e z es)=some es:=by simp [elemsN]
theorem arrV_1 (P:Program) (t:TypeId) (x:D) (i:A) (K:A→Prop):arrV P t (.d x) i K=False:=rfl
theorem arrV_2 (P:Program) (t:TypeId) (k z:Nat) (e:TypeId) (es:List (List D)) (i:A) (K:A→Prop):arrV P t (.own k e z es) i K=False:=rfl
theorem elemsOf_arr (k z m:Nat):elemsOf (.arr k z m)=none:=rfl
theorem lenA_5 (k z n:Nat):lenA (.arr k z n)=some n:=rfl
theorem lenA_sow (k z:Nat) (e:TypeId) (es:List (List D)) (p:Nat→Prop):lenA (.sow k e z es p)=some es.length:=rfl
theorem cells1_sow (k z:Nat) (e:TypeId) (es:List (List D)) (p:Nat→Prop):cells1 (.sow k e z es p)=some [.sow k e z es p]:=rfl
theorem cells1_sp (z:Nat) (es:List (List D)):cells1 (.d (.sp z es))=some [.d (.sp z es)]:=rfl
theorem cells1_ivsp (p:Nat→Prop) (z:Nat) (es:List (List D)):cells1 (.d (.iv p (.sp z es)))=some [.d (.iv p (.sp z es))]:=rfl
theorem lenV_5 (P:Program) (t:TypeId) (k z n:Nat) (K:A→Prop):lenV P t (.arr k z n) K=(isSlc P t=true∧K (.d (.v (.int .i64 n)))):=lenV_of rfl fun s h=>by cases h
theorem splice_cons (c:A) (cs xs:List A) (o:Nat):splice (c::cs) xs o=(c::cs).take o++xs++(c::cs).drop (o+xs.length):=rfl
theorem partA_1 (n:Nat) (cs:List A) (K:A→Prop):partA (some (true,n)) cs K=(n≤cs.length∧K (mkAgg (cs.take n))):=rfl
theorem partA_2 (n:Nat) (c:A) (cs:List A) (K:A→Prop):partA (some (false,n)) (c::cs) K=K c:=rfl
theorem mkAgg_1 (c:A) (cs:List A):mkAgg (c::cs)=match allD (c::cs) with|some ds=>.d (.agg ds)|none=>.agg (c::cs):=rfl
theorem mkAgg_0:mkAgg []=.d (.agg []):=rfl

theorem exTy (a:Bool) (k:Nat):(∃ (g:Bool) (n:Nat),a=g∧k+1=n+1)=True:=eq_true ⟨a,k,rfl,rfl⟩

def withS {α:Type} (o:Option α) (K:α→Prop):Prop:=match o with
 | some x=>K x
 | none=>False
theorem withS_some {α:Type} (x:α) (K:α→Prop):withS (some x) K=K x:=rfl
theorem withS_iff {α:Type}{o:Option α}{K:α→Prop}:withS o K↔∃ x,o=some x∧K x:=by
 cases o with
 | none=>exact ⟨fun h=>h.elim,fun ⟨x,h,_⟩=>by cases h⟩
 | some y=>exact ⟨fun h=>⟨y,rfl,h⟩,fun ⟨x,h,k⟩=>by cases h;exact k⟩
theorem arrV_3 (P:Program) (t:TypeId) (k z m:Nat) (i:A) (K:A→Prop):arrV P t (.arr k z m) i K=withS (tyElem P t) fun e=>withS (intA i) fun n=>(∃ g,tyK P e=some (g,z))∧0<z∧0≤n.2∧n.2<m∧K (.ptr k (n.2.toNat*z)):=by
 unfold arrV
 cases tyElem P t with
 | none=>rfl
 | some e=>
  cases hi:intA i with
  | none=>rfl
  | some n=>rfl
theorem arrV_4 (P:Program) (t:TypeId) (k off:Nat) (i:A) (K:A→Prop):arrV P t (.ptr k off) i K=withS (tyArr P t) fun e=>withS (intA i) fun n=>(∃ g,tyK P e.1=some (g,1))∧0≤n.2∧n.2<e.2∧K (.ptr k (off+n.2.toNat)):=by
 unfold arrV
 cases tyArr P t with
 | none=>rfl
 | some e=>
  cases hi:intA i with
  | none=>rfl
  | some n=>rfl
theorem elemsOf_ptr (k o:Nat):elemsOf (.ptr k o)=none:=rfl
theorem buildV_w (P:Program) (t:TypeId) (ps:List (Nat × A)) (K:A→Prop):buildV P t ps K=withS (tyZero P t) fun zs=>withS (tyPlaces P t) fun pl=>withS (buildGo pl ps (zs.map fun x=>.d (.v x))) fun cs=>K (mkAgg cs):=propext (by
 simp only [withS_iff,buildV]
 constructor
 ·rintro ⟨zs,pl,cs,h1,h2,h3,h4⟩
  exact ⟨zs,h1,pl,h2,cs,h3,h4⟩
 ·rintro ⟨zs,h1,pl,h2,cs,h3,h4⟩
  exact ⟨zs,pl,cs,h1,h2,h3,h4⟩)
theorem ex3 {α β γ:Type}{a:Option α}{b:α→Option β}{c:α→β→Option γ}{K:α→β→γ→Prop}:(∃ x y z,a=some x∧b x=some y∧c x y=some z∧K x y z)=withS a fun x=>withS (b x) fun y=>withS (c x y) fun z=>K x y z:=propext (by
 simp only [withS_iff]
 constructor
 ·rintro ⟨x,y,z,h1,h2,h3,h4⟩
  exact ⟨x,h1,y,h2,z,h3,h4⟩
 ·rintro ⟨x,h1,y,h2,z,h3,h4⟩
  exact ⟨x,y,z,h1,h2,h3,h4⟩)
theorem sliceV_of {P:Program}{t:TypeId}{x:A}{lo hi mx:Option A}{K:A→Prop}{z:Nat}{es:List (List D)} (he:elemsOf x=some (z,es)):sliceV P t x lo hi mx K=(mx=none∧withS (tyElem P t) fun e=>(∃ g,tyK P e=some (g,z))∧withS (bndA 0 lo) fun l=>withS (bndA es.length hi) fun h=>0≤l∧l≤h∧h≤es.length∧K (.d (.sl z ((es.drop l.toNat).take (h.toNat - l.toNat))))):=propext (by
 have key:sliceV P t x lo hi mx K↔(mx=none∧∃ e,tyElem P t=some e∧(∃ g,tyK P e=some (g,z))∧∃ l h,bndA 0 lo=some l∧bndA es.length hi=some h∧0≤l∧l≤h∧h≤es.length∧K (.d (.sl z ((es.drop l.toNat).take (h.toNat - l.toNat))))):=by
  unfold sliceV
  split
  ·simp [elemsOf] at he
  ·rw [he]
   cases tyElem P t with
   | none=>simp
   | some e=>simp
 rw [key]
 simp only [withS_iff]
 constructor
 ·rintro ⟨h0,e,h1,h2,l,u,h3,h4,h5⟩
  exact ⟨h0,e,h1,h2,l,h3,u,h4,h5⟩
 ·rintro ⟨h0,e,h1,h2,l,h3,u,h4,h5⟩
  exact ⟨h0,e,h1,h2,l,u,h3,h4,h5⟩)
theorem sliceV_sl (P:Program) (t:TypeId) (z:Nat) (es:List (List D)) (lo hi mx:Option A) (K:A→Prop):sliceV P t (.d (.sl z es)) lo hi mx K=(mx=none∧withS (tyElem P t) fun e=>(∃ g,tyK P e=some (g,z))∧withS (bndA 0 lo) fun l=>withS (bndA es.length hi) fun h=>0≤l∧l≤h∧h≤es.length∧K (.d (.sl z ((es.drop l.toNat).take (h.toNat - l.toNat))))):=sliceV_of rfl
theorem sliceV_own (P:Program) (t:TypeId) (k z:Nat) (e:TypeId) (es:List (List D)) (lo hi mx:Option A) (K:A→Prop):sliceV P t (.own k e z es) lo hi mx K=(mx=none∧withS (tyElem P t) fun e=>(∃ g,tyK P e=some (g,z))∧withS (bndA 0 lo) fun l=>withS (bndA es.length hi) fun h=>0≤l∧l≤h∧h≤es.length∧K (.d (.sl z ((es.drop l.toNat).take (h.toNat - l.toNat))))):=sliceV_of rfl
theorem sliceV_str (P:Program) (t:TypeId) (s:ByteArray) (lo hi mx:Option A) (K:A→Prop):sliceV P t (.d (.v (.string s))) lo hi mx K=(mx=none∧P.underlying t=some .string∧withS (bndA 0 lo) fun l=>withS (bndA s.size hi) fun h=>0≤l∧l≤h∧h≤s.size∧K (.d (.v (.string (s.extract l.toNat h.toNat))))):=propext (by
 unfold sliceV
 simp only [withS_iff]
 constructor
 ·rintro ⟨h0,h1,l,u,h3,h4,h5⟩
  exact ⟨h0,h1,l,h3,u,h4,h5⟩
 ·rintro ⟨h0,h1,l,h3,u,h4,h5⟩
  exact ⟨h0,h1,l,u,h3,h4,h5⟩)
theorem frzL_d:∀ ds:List D,frzL (ds.map .d)=some ds
 | []=>rfl
 | d::ds=>by simp [frzL,frz,frzL_d ds]
section
variable (P:Program) (s:St) (d:Option Nat) (K:St→Prop) (KL:Nat→St→Prop)
theorem ns_move (x:Operand):NStep P s (.move x) d K=(K (s.set d (ev s.f x))):=rfl
theorem ns_assign (x:Operand):NStep P s (.assign x) d K=(K (s.set d (ev s.f x))):=rfl
theorem ns_pick (c x y:Operand):NStep P s (.pick c x y) d K=(pickV (ev s.f c) (ev s.f x) (ev s.f y) fun v=>K (s.set d v)):=rfl
theorem ns_nilCheck (x:Operand):NStep P s (.nilCheck x) d K=(nilV (ev s.f x) fun v=>K (s.set d v)):=rfl
theorem ns_extract (x:Operand) (i:Nat):NStep P s (.extract x i) d K=(extV (ev s.f x) i fun v=>K (s.set d v)):=rfl
theorem ns_field (t:TypeId) (x:Operand) (f:Nat):NStep P s (.field t x f) d K=(fieldV P t f (ev s.f x) fun v=>K (s.set d v)):=rfl
theorem ns_fieldAddr (t:TypeId) (x:Operand) (f:Nat):NStep P s (.fieldAddr t x f) d K=(faddrV P t f (ev s.f x) fun v=>K (s.set d v)):=rfl
theorem ns_indexAddr (t:TypeId) (x i:Operand):NStep P s (.indexAddr t x i) d K=((iaddrV P t (ev s.f x) (ev s.f i) fun v=>K (s.set d v))∨arrV P t (ev s.f x) (ev s.f i) fun v=>K (s.set d v)):=rfl
theorem ns_index (t:TypeId) (x i:Operand):NStep P s (.index t x i) d K=(indexV P t (ev s.f x) (ev s.f i) fun v=>K (s.set d v)):=rfl
theorem ns_load (t:TypeId) (x:Operand):NStep P s (.load t x) d K=(loadV P (lk none s.bx) t (ev s.f x) fun v=>K (s.set d v)):=rfl
theorem ns_slice (t:TypeId) (x:Operand) (lo hi mx:Option Operand):NStep P s (.slice t x lo hi mx) d K=(sliceV P t (ev s.f x) (lo.map (ev s.f)) (hi.map (ev s.f)) (mx.map (ev s.f)) fun v=>K (s.set d v)):=rfl
theorem ns_binOp (o:BinOp) (t:TypeId) (x y:Operand) (yt:TypeId):NStep P s (.binOp o t x y yt) d K=(binV P o t (ev s.f) x y fun v=>K (s.set d v)):=rfl
theorem ns_unOp (o:UnOp) (t:TypeId) (x:Operand):NStep P s (.unOp o t x) d K=(unV o (ev s.f x) fun v=>K (s.set d v)):=rfl
theorem ns_convert (a b:TypeId) (x:Operand):NStep P s (.convert a b x) d K=(convV P a b (ev s.f x) fun v=>K (s.set d v)):=rfl
theorem ns_makeInterface (t:TypeId) (x:Operand):NStep P s (.makeInterface t x) d K=(mkIV P t (ev s.f x) fun v=>K (s.set d v)):=rfl
theorem ns_makeFunc (f:FuncId) (fs cs:Array Operand):NStep P s (.makeFunc (.func f) fs cs) d K=K (s.set d (.clo f (fs.toList.map (ev s.f)) (cs.toList.map (ev s.f)))):=rfl
theorem ns_build (t:TypeId) (parts:Array (Nat × Operand)):NStep P s (.build t parts) d K=(buildV P t (parts.toList.map fun p=>(p.1,ev s.f p.2)) fun v=>K (s.set d v)):=rfl
theorem ns_box (t:TypeId) (x:Operand):NStep P s (.box t x) d K=(∃ cs,cells1 (ev s.f x)=some cs∧K ({ s with bx:=(s.nx,some cs)::s.bx,nx:=s.nx+16 }.set d (.ptr s.nx 0))):=rfl
theorem ns_alloc (t:TypeId):NStep P s (.alloc t) d K=(∃ zs,tyZero P t=some zs∧K ({ s with bx:=(s.nx,some (zs.map fun x=>.d (.v x)))::s.bx,nx:=s.nx+16 }.set d (.ptr s.nx 0))):=rfl
theorem ns_store (t:TypeId) (a x:Operand):NStep P s (.store t a x) d K=(storeN P s t (ev s.f a) (ev s.f x) d K):=rfl
theorem ns_buildSlice (t:TypeId) (len:Nat) (parts:Array (Nat × Operand)):NStep P s (.buildSlice t len parts) d K=withS (tyElem P t) fun e=>withS (tyRow P e) fun z=>withS (cellsDs (parts.toList.map fun x=>ev s.f x.2)) fun es=>(∀ e∈es,e.length=z)∧len*z≤16777216∧
   (parts=(((parts.toList.map (·.2)).zipIdx).map fun (x,j)=>(j,x)).toArray∧len=(parts.toList.map (·.2)).length)∧K ({ s with al:=(s.nx,some (es.length,e,z))::s.al,nx:=s.nx+16 }.set d (.own s.nx e z es)):=by rw [←ex3];rfl
theorem ns_func (f:FuncId) (xs:Array Operand) (ats:Array TypeId):NStep P s (.call { callee:=.value (.func f),args:=xs,argTypes:=ats }) d K=CallN P s f (xs.toList.map (ev s.f)) d K:=rfl
theorem ns_append (b x:Operand) (t t':TypeId):NStep P s (.call { callee:=.builtin .append,args:=#[b,x],argTypes:=#[t,t'] }) d K=(t=t'∧withS (tyElem P t) fun e=>withS (tyRow P e) fun z=>withS (elemsN z (ev s.f x)) fun es2=>appN s (ev s.f b) e z es2 d K):=by rw [←ex3];rfl
theorem ns_len (x:Operand) (t:TypeId):NStep P s (.call { callee:=.builtin .len,args:=#[x],argTypes:=#[t] }) d K=lenV P t (ev s.f x) (fun v=>K (s.set d v)):=rfl
theorem ls_move (x:Operand):LStep P s (.move x) d KL=(KL 0 ({ s with nx:=s.nx+16 }.set d (ev s.f x))):=rfl
theorem ls_assign (x:Operand):LStep P s (.assign x) d KL=(KL 0 ({ s with nx:=s.nx+16 }.set d (ev s.f x))):=rfl
theorem ls_pick (c x y:Operand):LStep P s (.pick c x y) d KL=(pickV (ev s.f c) (ev s.f x) (ev s.f y) fun v=>KL 0 ({ s with nx:=s.nx+16 }.set d v)):=rfl
theorem ls_nilCheck (x:Operand):LStep P s (.nilCheck x) d KL=(nilV (ev s.f x) fun v=>KL 0 ({ s with nx:=s.nx+16 }.set d v)):=rfl
theorem ls_extract (x:Operand) (i:Nat):LStep P s (.extract x i) d KL=(extV (ev s.f x) i fun v=>KL 0 ({ s with nx:=s.nx+16 }.set d v)):=rfl
theorem ls_field (t:TypeId) (x:Operand) (f:Nat):LStep P s (.field t x f) d KL=(fieldV P t f (ev s.f x) fun v=>KL 0 ({ s with nx:=s.nx+16 }.set d v)):=rfl
theorem ls_fieldAddr (t:TypeId) (x:Operand) (f:Nat):LStep P s (.fieldAddr t x f) d KL=(faddrV P t f (ev s.f x) fun v=>KL 0 ({ s with nx:=s.nx+16 }.set d v)):=rfl
theorem ls_indexAddr (t:TypeId) (x i:Operand):LStep P s (.indexAddr t x i) d KL=((iaddrV P t (ev s.f x) (ev s.f i) fun v=>KL 0 ({ s with nx:=s.nx+16 }.set d v))∨arrV P t (ev s.f x) (ev s.f i) fun v=>KL 0 ({ s with nx:=s.nx+16 }.set d v)):=rfl
theorem ls_index (t:TypeId) (x i:Operand):LStep P s (.index t x i) d KL=(indexV P t (ev s.f x) (ev s.f i) fun v=>KL 0 ({ s with nx:=s.nx+16 }.set d v)):=rfl
theorem ls_load (t:TypeId) (x:Operand):LStep P s (.load t x) d KL=loadL P s t (ev s.f x) d KL:=rfl
theorem loadL_1 (t:TypeId) (k o:Nat):loadL P s t (.ptr k o) d KL=loadV P (lk none s.bx) t (.ptr k o) fun v=>KL (4+2*k) ({ s with nx:=s.nx+16 }.set d v):=rfl
theorem loadL_2 (t:TypeId) (cs:List D):loadL P s t (.d (.rp cs)) d KL=loadV P (lk none s.bx) t (.d (.rp cs)) fun v=>KL 0 ({ s with nx:=s.nx+16 }.set d v):=rfl
theorem ls_slice (t:TypeId) (x:Operand) (lo hi mx:Option Operand):LStep P s (.slice t x lo hi mx) d KL=(sliceV P t (ev s.f x) (lo.map (ev s.f)) (hi.map (ev s.f)) (mx.map (ev s.f)) fun v=>KL 0 ({ s with nx:=s.nx+16 }.set d v)):=rfl
theorem ls_binOp (o:BinOp) (t:TypeId) (x y:Operand) (yt:TypeId):LStep P s (.binOp o t x y yt) d KL=(binV P o t (ev s.f) x y fun v=>KL 0 ({ s with nx:=s.nx+16 }.set d v)):=rfl
theorem ls_unOp (o:UnOp) (t:TypeId) (x:Operand):LStep P s (.unOp o t x) d KL=(unV o (ev s.f x) fun v=>KL 0 ({ s with nx:=s.nx+16 }.set d v)):=rfl
theorem ls_convert (a b:TypeId) (x:Operand):LStep P s (.convert a b x) d KL=(convV P a b (ev s.f x) fun v=>KL 0 ({ s with nx:=s.nx+16 }.set d v)):=rfl
theorem ls_makeInterface (t:TypeId) (x:Operand):LStep P s (.makeInterface t x) d KL=(mkIV P t (ev s.f x) fun v=>KL 0 ({ s with nx:=s.nx+16 }.set d v)):=rfl
theorem ls_makeFunc (f:FuncId) (fs cs:Array Operand):LStep P s (.makeFunc (.func f) fs cs) d KL=KL 0 ({ s with nx:=s.nx+16 }.set d (.clo f (fs.toList.map (ev s.f)) (cs.toList.map (ev s.f)))):=rfl
theorem ls_build (t:TypeId) (parts:Array (Nat × Operand)):LStep P s (.build t parts) d KL=(buildV P t (parts.toList.map fun p=>(p.1,ev s.f p.2)) fun v=>KL 0 ({ s with nx:=s.nx+16 }.set d v)):=rfl
theorem ls_box (t:TypeId) (x:Operand):LStep P s (.box t x) d KL=(∃ cs,cells1 (ev s.f x)=some cs∧KL 2 ({ s with bx:=(s.nx,some cs)::s.bx,nx:=s.nx+16 }.set d (.ptr s.nx 0))):=rfl
theorem ls_alloc (t:TypeId):LStep P s (.alloc t) d KL=(∃ zs,tyZero P t=some zs∧KL 2 ({ s with bx:=(s.nx,some (zs.map fun x=>.d (.v x)))::s.bx,nx:=s.nx+16 }.set d (.ptr s.nx 0))):=rfl
theorem ls_store (t:TypeId) (a x:Operand):LStep P s (.store t a x) d KL=(storeL P s t (ev s.f a) (ev s.f x) d KL):=rfl
theorem ls_buildSlice (t:TypeId) (len:Nat) (parts:Array (Nat × Operand)):LStep P s (.buildSlice t len parts) d KL=withS (tyElem P t) fun e=>withS (tyRow P e) fun z=>withS (cellsDs (parts.toList.map fun x=>ev s.f x.2)) fun es=>(∀ e∈es,e.length=z)∧len*z≤16777216∧
   (parts=(((parts.toList.map (·.2)).zipIdx).map fun (x,j)=>(j,x)).toArray∧len=(parts.toList.map (·.2)).length)∧KL 2 ({ s with al:=(s.nx,some (es.length,e,z))::s.al,nx:=s.nx+16 }.set d (.own s.nx e z es)):=by rw [←ex3];rfl
theorem ls_func (f:FuncId) (xs:Array Operand) (ats:Array TypeId):LStep P s (.call { callee:=.value (.func f),args:=xs,argTypes:=ats }) d KL=LCall P s f (xs.toList.map (ev s.f)) d KL:=rfl
theorem ls_append (b x:Operand) (t t':TypeId):LStep P s (.call { callee:=.builtin .append,args:=#[b,x],argTypes:=#[t,t'] }) d KL=(t=t'∧withS (tyElem P t) fun e=>withS (tyRow P e) fun z=>withS (elemsN z (ev s.f x)) fun es2=>appL s (ev s.f b) e z es2 d KL):=by rw [←ex3];rfl
theorem ls_len (x:Operand) (t:TypeId):LStep P s (.call { callee:=.builtin .len,args:=#[x],argTypes:=#[t] }) d KL=lenV P t (ev s.f x) (fun v=>KL 0 ({ s with nx:=s.nx+16 }.set d v)):=rfl
theorem storeN_ptr (t:TypeId) (k off:Nat) (x:A):storeN P s t (.ptr k off) x d K=withS (lk none s.bx k) fun cs=>withS (cells1 x) fun xs=>withS (tyK P t) fun g=>g.2=xs.length∧off+xs.length≤cs.length∧K ({ s with bx:=(k,some (splice cs xs off))::s.bx }.set d .top):=propext (by
 simp only [withS_iff,storeN]
 constructor
 ·rintro ⟨cs,xs,g,h1,h2,h3,h4⟩
  exact ⟨cs,h1,xs,h2,_,h3,rfl,h4⟩
 ·rintro ⟨cs,h1,xs,h2,⟨g,n⟩,h3,h4,h5⟩
  simp only at h4
  subst h4
  exact ⟨cs,xs,g,h1,h2,h3,h5⟩)
theorem storeL_ptr (t:TypeId) (k off:Nat) (x:A):storeL P s t (.ptr k off) x d KL=withS (lk none s.bx k) fun cs=>withS (cells1 x) fun xs=>withS (tyK P t) fun g=>g.2=xs.length∧off+xs.length≤cs.length∧KL (5+2*k) ({ s with bx:=(k,some (splice cs xs off))::s.bx,nx:=s.nx+16 }.set d .top):=propext (by
 simp only [withS_iff,storeL]
 constructor
 ·rintro ⟨cs,xs,g,h1,h2,h3,h4⟩
  exact ⟨cs,h1,xs,h2,_,h3,rfl,h4⟩
 ·rintro ⟨cs,h1,xs,h2,⟨g,n⟩,h3,h4,h5⟩
  simp only at h4
  subst h4
  exact ⟨cs,xs,g,h1,h2,h3,h5⟩)
end

def rmv {α:Type} (ts:List Nat):List (Nat × α)→List (Nat × α)
 | []=>[]
 | (k,v)::l=>if ts.contains k=true then rmv ts l else (k,v)::rmv (k::ts) l
def keyOf:A→Option Nat
 | .own k _ _ _=>some k
 | .ptr k _=>some k
 | .arr k _ _=>some k
 | .sow k _ _ _ _=>some k
 | _=>none
def keyBc (j:Nat):Option (List A)→Option Nat
 | some cs=>keyOf (cs.getD j .top)
 | none=>none
def keyB (s:St) (k j:Nat):Option Nat:=keyBc j (lk none s.bx k)
theorem wkD_selfT (x:D):wkD x (.d x)=True:=eq_true (wkD_self x)
theorem dle_selfT (x:D):dle x x=True:=eq_true (dle_refl x)
theorem ltL_dT {n:Nat→Prop} (ds:List D):A.ltL n (ds.map .d)=True:=eq_true (ltL_d ds)
theorem wkL_d (σ:Nat→Option Nat):∀ ds:List D,wkL σ (ds.map .d) (ds.map .d)=True
 | []=>by simp only [List.map_nil];unfold wkL;rfl
 | d::ds=>by
  simp only [List.map_cons]
  unfold wkL
  rw [wkL_d σ ds]
  unfold wkA
  rw [wkD_selfT]
  simp

theorem wrap64 {n:Int} (h:-9223372036854775808≤n) (k:n≤9223372036854775807):IntKind.i64.wrap n=n:=by
 rw [IntKind.wrap_i64];omega
theorem wrapw (x y:Int):IntKind.i64.wrap (IntKind.i64.wrap x+y)=IntKind.i64.wrap (x+y):=by
 simp only [IntKind.wrap_i64];omega
theorem natCast0:((0:Nat):Int)=0:=rfl
theorem natCast1 (k:Nat):((k+1:Nat):Int)=(k:Int)+1:=by omega

theorem callN_fun {P:Program}{s:St}{f:FuncId}{xs ys:List A}{d:Option Nat}{K:St→Prop}{r0:Rz} (h1:argsOf none xs=some ys) (h2:AC P f ys none fun r _=>r=r0) (h3:r0.nk≤16) (h:K (s.got r0 d)):CallN P s f xs d K:=
 ⟨ys,_,h1,h2,fun r e=>by subst e;exact ⟨h3,h⟩⟩
theorem callL_fun {P:Program}{s:St}{f:FuncId}{xs ys:List A}{d:Option Nat}{K:Nat→St→Prop}{r0:Rz} (h1:argsOf none xs=some ys) (h2:AC P f ys none fun r _=>r=r0) (h3:r0.nk≤16) (h:K 2 (s.got r0 d)):LCall P s f xs d K:=
 ⟨ys,r0,h1,h2,h3,h⟩

def St.head (s:St) (kp:List Nat) (fv:List (Nat × A)) (kb:List Nat) (bv:List (Nat × Option (List A))) (ka:List Nat) (av:List (Nat × Option (Nat × TypeId × Nat))):St:=
 { fr:=fv++kp.map fun t=>(t,lk .top s.fr t),bx:=bv++rmv kb s.bx,al:=av++rmv ka s.al,nx:=s.nx+16 }

section
variable {P:Program}{en:En}{K:Exit→St→Prop}{s:St}
theorem aw_loopS {σ:Type} (kp:List Nat) (rn:Nat→St→List (Nat × Option Nat)) (fv:Nat→σ→List (Nat × A)) (kb:List Nat) (bv:Nat→σ→List (Nat × Option (List A))) (ka:List Nat) (av:Nat→σ→List (Nat × Option (Nat × TypeId × Nat))) (I:σ→Prop) (μ:σ→Nat) (x0:σ) {c:Code} (hk:∀ k,en.ks k→k=0)
  (hrn:∀ s',sg (rn s.nx s') 0=some 0) (h0:I x0) (hs0:s.wk (sg (rn s.nx s)) (s.head kp (fv s.nx x0) kb (bv s.nx x0) ka (av s.nx x0)))
  (hr:∀ x,I x→AWs P en c (fun e s'=>match e with|.normal=>∃ y,I y∧μ y<μ x∧s'.wk (sg (rn s.nx s')) (s.head kp (fv s.nx y) kb (bv s.nx y) ka (av s.nx y))|e=>K e s') (s.head kp (fv s.nx x) kb (bv s.nx x) ka (av s.nx x))):AWs P en (.loop c) K s:=
 aw_loopR (fun x=>s.head kp (fv s.nx x) kb (bv s.nx x) ka (av s.nx x)) I μ (rn s.nx s) x0 hk (fun x=>by simp [St.head]) (hrn s) h0 hs0 fun x hx a w hs=>wp_mono (hr x hx a w hs) fun e a' w' ⟨s',h1,h2⟩=>by
  refine ⟨s',h1,?_⟩
  cases e with
  | normal=>
   obtain ⟨y,y1,y2,y3⟩:=h2
   exact ⟨y,_,y1,y2,hrn s',y3⟩
  | _=>exact h2
end
end Go.Proofs.YtaammoodcgfhpaaDoor.Eng
namespace Go.Proofs.YtaammoodcgfhpaaDoor.Eng
open Go Go.RowKit

section
variable {P:Program}{en:En}{ops:Array Oper}{o:Oper}{l:List Oper}{K:St→Prop}{s:St}
variable {K2:List Nat→St→Prop}{acc:List Nat}
end
end Go.Proofs.YtaammoodcgfhpaaDoor.Eng
namespace Go.Proofs.YtaammoodcgfhpaaDoor.Eng
open Go Go.RowKit

theorem made_cells (zs:List Value) (h0:0<zs.length):∀ n:Nat,madeCells ⟨zs⟩ (n*zs.length)=⟨(List.replicate n zs).flatten⟩:=by
 have key:∀ n:Nat,(List.range (n*zs.length)).map (fun i=>zs[i % zs.length]!)=(List.replicate n zs).flatten:=by
  intro n
  induction n with
  | zero=>simp
  | succ n ih=>
   rw [Nat.add_mul,Nat.one_mul,Nat.add_comm,List.range_add,List.map_append,List.replicate_succ,List.flatten_cons,List.map_map]
   congr 1
   ·refine List.ext_getElem (by simp) fun i h1 h2=>?_
    simp only [List.getElem_map,List.getElem_range]
    rw [Nat.mod_eq_of_lt h2,getElem!_pos zs i h2]
   ·rw [←ih]
    refine List.map_congr_left fun i _=>?_
    simp only [Function.comp]
    rw [Nat.add_mod_left]
 intro n
 rw [←key n]
 unfold madeCells
 apply Array.toList_inj.1
 simp

section
variable {P:Program}{o:Oper}{ρ:Operand→A}{m:Mem}{κ:Nat}
theorem does_make {t e:TypeId}{x:Operand}{z:Nat}{zs:List Value}{kd:IntKind}{n:Nat} (h:o.op=.makeSlice t x x) (ht:tyElem P t=some e) (hr:tyRow P e=some z) (hz:tyZero P e=some zs) (hx:ρ x=.d (.v (.int kd n))) (hn:n≤1073741824) (hf:m.fresh κ) :
  Does P o ρ m (.arr κ z n) (m.box κ ((List.replicate n zs).flatten.map fun x=>.d (.v x))):=fun G w a hok hra hl Kc Q hK=>by
 obtain ⟨i,zv,h1,h2,h3,h4,h5,h6⟩:=tyRow_spec hr
 obtain ⟨z',q1,q2,q3⟩:=tyZero_run hz w
 have hzv:zv.cells=⟨zs⟩:=by
  unfold tyZero at hz
  rw [h1] at hz
  simp only [Option.bind_some,h2] at hz
  split at hz
  ·have:=Option.some.inj hz;rw [←this]
  ·cases hz
 have hzl:zs.length=z:=by rw [hzv] at h4;simpa using h4
 have hxv:=hra x
 rw [hx] at hxv
 unfold RepA RepD at hxv
 obtain ⟨G',e1,e2,e3⟩:=newBox (t:=e) (us:=(List.replicate n zs).flatten) hok hf (RepAL_v _) (fun y hy=>by
  obtain ⟨l,hl1,hl2⟩:=List.mem_flatten.1 hy
  rw [List.mem_replicate] at hl1
  exact q3 y (hl1.2▸hl2)) (ltL_v _)
 have hb:(i.bytes:Int)*(n:Int)≤281474976710656:=by
  have:i.bytes*n≤4096*1073741824:=Nat.mul_le_mul h6 hn
  have h7:((i.bytes*n:Nat):Int)≤281474976710656:=by omega
  rwa [Int.natCast_mul] at h7
 have hrun:=run_make (P:=P) w t e i zv (tyElem_run ht) h1 h2 kd kd n n (by omega) (Int.le_refl _) hb (by omega)
 rw [h3,Int.toNat_natCast,hzv,←hzl,made_cells zs (by omega) n] at hrun
 unfold RepA at e3
 obtain ⟨b,k1,k2⟩:=e3
 simp only [Value.pointer.injEq,Option.some.injEq,Addr.mk.injEq] at k2
 refine wp_of_value (u:=.slice (some ⟨w.heap.size,0,none⟩) n n) ?_ (hK _ _ G' e1 e2 (by unfold RepA;exact ⟨b,n,k1,by rw [k2.1],Nat.le_refl _,by simp [maxLen];omega⟩) (by unfold A.lt;exact .inr ⟨Nat.le_refl _,by omega⟩))
 unfold execOp
 rw [h]
 simp only [hxv,hrun,Sem.run_bind,Result.andThen_ok,Sem.run_pure]
end
section
variable {P:Program}{en:En}{ops:Array Oper}{o:Oper}{l:List Oper}{K:St→Prop}{s:St}
theorem ow_make {t e:TypeId}{x:Operand}{z:Nat}{zs:List Value}{kd:IntKind}{n:Nat} (hg:Wanted s ops o) (hd:∀ x,o.dst=some x→x<en.sz) (h:o.op=.makeSlice t x x) (hx:ev s.f x=.d (.v (.int kd n))) (hn:n≤1073741824) (ht:tyElem P t=some e) (hr:tyRow P e=some z) (hz:tyZero P e=some zs)
  (hK:OWs P en ops l K ({ s with bx:=(s.nx,some ((List.replicate n (zs.map D.v)).flatten.map .d))::s.bx,nx:=s.nx+16 }.set o.dst (.arr s.nx z n))):OWs P en ops (o::l) K s:=by
 refine ow_does hg hd (does_make h ht hr hz hx hn (mem_fresh s)) { s with bx:=(s.nx,some ((List.replicate n (zs.map D.v)).flatten.map .d))::s.bx,nx:=s.nx+16 } ?_ rfl hK
 rw [St.mem_bump (s:=s) (h:=rfl),lk_cons]
 have:(List.replicate n zs).flatten.map (fun x=>A.d (.v x))=(List.replicate n (zs.map D.v)).flatten.map .d:=by
  rw [←List.map_replicate,←List.map_flatten,List.map_map];rfl
 unfold Mem.box
 rw [this]
 rfl

theorem aw_freezeY {c:Code}{K:Exit→St→Prop} (y:D) (t k z n:Nat) (es:List (List D)) (h1:s.f t=.arr k z n) (h2:lk none s.bx k=some (es.flatten.map .d)) (h3:es.length=n) (h4:∀ e∈es,e.length=z) (hks:∀ k,en.ks k→k=0) (hk0:k≠0)
  (hy:∀ (C:CellR) (b cap:Nat),(en.w.heap.size≤b∨en.X b)→RepEs C z es b 0→RepD C (.sl z es) (.slice (some ⟨b,0,none⟩) n cap)→RepD C y (.slice (some ⟨b,0,none⟩) n cap))
  (h:AWs P en c K { s with fr:=(t,.d y)::s.fr,bx:=(k,none)::s.bx }):AWs P en c K s:=fun a w ⟨G,hG⟩=>by
 obtain ⟨b,hE,⟨vs,ty,g1,g2,g3,g4⟩,g5⟩:=hG.ok.box k _ h2
 have hlk:s.mem.live k:=.inl (by rw [show s.mem.bx k=some (es.flatten.map .d) from h2];rfl)
 let G':Gh:={ G with C:=fun b' o u=>G.C b' o u∨(b'=b∧vs[o]?=some u) }
 have hle:∀ p,G.Le p G':=fun p=>⟨fun _ _=>rfl,fun _ _=>rfl,fun _ _ _ hc=>.inl hc⟩
 have hm:({ s with fr:=(t,.d y)::s.fr,bx:=(k,none)::s.bx }:St).mem={ s.mem with bx:=upd s.mem.bx k none }:=by
  unfold St.mem;simp only [lk_cons]
 have hlive:∀ j,({ s.mem with bx:=upd s.mem.bx k none }:Mem).live j→s.mem.live j∧(j=k→False):=fun j hj=>by
  rcases hj with hj|hj
  ·by_cases e:j=k
   ·subst e;simp at hj
   ·exact ⟨.inl (by simpa [upd_ne _ _ e] using hj),e⟩
  ·refine ⟨.inr hj,fun e=>?_⟩
   subst e
   have:=hG.ok.sep j (by rw [show s.mem.bx j=some (es.flatten.map .d) from h2];rfl)
   have hj':(s.mem.al j).isSome=true:=hj
   rw [this] at hj';cases hj'
 have hb':∀ j b'',s.mem.live j→j≠k→G.E j=some b''→b''≠b:=fun j b'' hj hne hE'' e=>hne (hG.ok.inj j k b hj hlk (e▸hE'') hE)
 refine h a w ⟨G',⟨?_,fun t'=>?_,fun t'=>?_,hG.sz,hG.df,hG.fw,fun b o u hc=>.inl (hG.c0 b o u hc),fun b' o u hc hlt hx=>?_,fun b' ⟨j,hj,hE'⟩=>?_,hG.e0,hG.p0,hG.ks,hG.am,fun b' hb'=>⟨(hG.az b' hb').1,fun ⟨j,hj,hE'⟩=>(hG.az b' hb').2.1 ⟨j,(hlive j (by rw [hm] at hj;exact hj)).1,hE'⟩,fun o u hc=>hc.elim ((hG.az b' hb').2.2 o u) fun he=>(hG.az b' hb').2.1 ⟨k,hlk,by rw [he.1];exact hE⟩⟩⟩⟩
 ·rw [hm]
  refine ⟨⟨fun b' o u hc=>?_,fun b' o u hc hb2=>?_,hG.ok.cok.gl.mono (hle fun _=>True).C,hG.ok.cok.tb⟩,fun j cs hj=>?_,fun j m e y hj b'' hE''=>?_,fun j j' b'' hj hj'=>hG.ok.inj j j' b'' (hlive j hj).1 (hlive j' hj').1,fun j hj=>hG.ok.lt j (hlive j hj).1,fun j hj=>?_⟩
  ·rcases hc with hc|⟨rfl,hv⟩
   ·exact hG.ok.cell b' o u hc
   ·refine ⟨?_,g3 u (List.mem_of_getElem? hv)⟩
    simp [World.cell?,g1,hv]
  ·rcases hc with hc|⟨rfl,_⟩
   ·exact hG.ok.cok.nf b' o u hc hb2
   ·exact frz_of_cells g1
  ·by_cases e:j=k
   ·subst e;simp at hj
   ·rw [show ({ s.mem with bx:=upd s.mem.bx k none }:Mem).bx j=s.mem.bx j from upd_ne _ _ e] at hj
    obtain ⟨b1,q1,⟨us,ty',q2,q3,q4,q5⟩,q6⟩:=hG.ok.box j cs hj
    refine ⟨b1,q1,⟨us,ty',q2,RepAL.mono (hle _) _ _ q6 q3,q4,fun i u hc=>?_⟩,q6⟩
    rcases hc with hc|⟨rfl,_⟩
    ·exact q5 i u hc
    ·exact hb' j _ (.inl (by rw [hj];rfl)) e q1 rfl
  ·have hj':s.mem.al j=some (m,e,y):=hj
   obtain ⟨cur,q1,q2,q3,q4⟩:=hG.ok.row j m e y hj' b'' hE''
   refine ⟨cur,q1,q2,q3,fun i u hi hc=>?_⟩
   rcases hc with hc|⟨rfl,_⟩
   ·exact q4 i u hi hc
   ·have hlj:s.mem.live j:=.inr (by rw [hj'];rfl)
    have hne:j≠k:=fun e'=>by
     subst e'
     have:=hG.ok.sep j (by rw [show s.mem.bx j=some (es.flatten.map .d) from h2];rfl)
     rw [this] at hj';cases hj'
    exact hb' j _ hlj hne hE'' rfl
  ·by_cases e:j=k
   ·subst e;simp at hj
   ·exact hG.ok.sep j (by simpa [upd_ne _ _ e] using hj)
 ·show RepA G' (lk .top ((t,.d y)::s.fr) t') _
  rw [lk_cons]
  by_cases e:t'=t
  ·subst e
   rw [upd_same]
   have hr:=hG.rep t'
   rw [h1] at hr
   unfold RepA at hr ⊢
   obtain ⟨b1,cap,q1,q2,qc,q3⟩:=hr
   rw [hE] at q1
   have:=Option.some.inj q1;subst this
   have hes:RepEs G'.C z es b 0:=by
    refine RepEs.ofList h4 (us:=vs) (RepL.mono (fun _ _ _ hc=>.inl hc) _ _ (RepAL_unmap g2)) fun i u hi=>?_
    right
    exact ⟨rfl,by simpa using hi⟩
   rw [q2]
   refine hy G'.C b cap (hG.lv b ⟨k,hlk,hE⟩) hes ?_
   unfold RepD
   exact ⟨_,cap,by rw [h3],by rw [h3];exact qc,q3,.inr ⟨b,0,rfl,hes⟩⟩
  ·rw [upd_ne _ _ e]
   exact RepA.mono (hle _) _ _ (hG.kf t') (hG.rep t')
 ·show (lk .top ((t,.d y)::s.fr) t').lt _
  rw [lk_cons]
  by_cases e:t'=t
  ·subst e;rw [upd_same];unfold A.lt;trivial
  ·rw [upd_ne _ _ e];exact hG.kf t'
 ·rcases hc with hc|⟨rfl,_⟩
  ·exact hG.c1 b' o u hc hlt hx
  ·rcases hG.lv _ ⟨k,hlk,hE⟩ with h5|h5
   ·omega
   ·exact absurd h5 hx
 ·rw [hm] at hj
  exact hG.lv b' ⟨j,(hlive j hj).1,hE'⟩
end
end Go.Proofs.YtaammoodcgfhpaaDoor.Eng
namespace Go.Proofs.YtaammoodcgfhpaaDoor.Eng
open Go Go.RowKit

def arrE {α:Type} (f:α→List D) (zero:List D) (l:List α) (k:Nat):List (List D):=(l.take k).map f++List.replicate (l.length - k) zero
def arrC {α:Type} (f:α→List D) (zero:List D) (l:List α) (k:Nat):List A:=(arrE f zero l k).flatten.map .d
section
variable {α:Type}{f:α→List D}{zero:List D}{l:List α}{k z:Nat}
theorem arrE_len (h:k≤l.length):(arrE f zero l k).length=l.length:=by simp [arrE];omega
theorem arrE_z (hf:∀ x∈l,(f x).length=z) (hz:zero.length=z):∀ e∈arrE f zero l k,e.length=z:=fun e he=>by
 unfold arrE at he
 rcases List.mem_append.1 he with he|he
 ·obtain ⟨x,hx,rfl⟩:=List.mem_map.1 he
  exact hf x (List.mem_of_mem_take hx)
 ·rw [List.mem_replicate] at he
  rw [he.2,hz]
theorem arrC_len (hf:∀ x∈l,(f x).length=z) (hz:zero.length=z) (h:k≤l.length):(arrC f zero l k).length=l.length*z:=by
 unfold arrC
 rw [List.length_map,flatten_len (arrE_z hf hz),arrE_len h]
theorem arrC_0:arrC f zero l 0=((List.replicate l.length zero).flatten).map .d:=by simp [arrC,arrE]
theorem arrC_all:arrC f zero l l.length=((l.map f).flatten).map .d:=by simp [arrC,arrE]
theorem arrC_lt {n:Nat→Prop}:A.ltL n (arrC f zero l k)=True:=eq_true (ltL_d _)
theorem wkL_arrC (σ:Nat→Option Nat):wkL σ (arrC f zero l k) (arrC f zero l k)=True:=wkL_d σ _
theorem arrC_step (hf:∀ x∈l,(f x).length=z) (hz:zero.length=z) (h:k<l.length):splice (arrC f zero l k) ((f l[k]).map .d) (k*z)=arrC f zero l (k+1):=by
 have h1:arrE f zero l k=(l.take k).map f++(zero::List.replicate (l.length - (k+1)) zero):=by
  unfold arrE
  rw [show l.length - k=(l.length - (k+1))+1 by omega,List.replicate_succ]
 have h2:arrE f zero l (k+1)=(l.take k).map f++(f l[k]::List.replicate (l.length - (k+1)) zero):=by
  unfold arrE
  rw [List.take_succ_eq_append_getElem h,List.map_append,List.append_assoc]
  rfl
 have hl:(((l.take k).map f).flatten).length=k*z:=by
  rw [flatten_len (z:=z) (fun e he=>by
   obtain ⟨x,hx,rfl⟩:=List.mem_map.1 he
   exact hf x (List.mem_of_mem_take hx))]
  rw [List.length_map,List.length_take,Nat.min_eq_left (by omega)]
 have hk:=hf l[k] (List.getElem_mem h)
 unfold arrC splice
 rw [h1,h2,List.flatten_append,List.flatten_append,List.flatten_cons,List.flatten_cons,List.map_append,List.map_append,List.map_append,List.map_append,List.length_map,hk]
 have e1:((((l.take k).map f).flatten).map A.d).length=k*z:=by rw [List.length_map,hl]
 have e2:(zero.map A.d).length=z:=by rw [List.length_map,hz]
 rw [List.take_append_of_le_length (by omega),List.take_of_length_le (by omega),←e1,List.drop_append,List.drop_of_length_le (by omega),List.nil_append,show (List.map A.d (List.map f (List.take k l)).flatten).length+z - (List.map A.d (List.map f (List.take k l)).flatten).length=z by omega,←e2,List.drop_left]
 simp
end
end Go.Proofs.YtaammoodcgfhpaaDoor.Eng
namespace Go.Proofs.YtaammoodcgfhpaaDoor.Eng
open Go Go.RowKit
theorem evT {p:Prop} (h:p:=by (try simp (decide:=true) only [ns_move,ns_assign,ns_pick,ns_nilCheck,ns_extract,ns_field,ns_fieldAddr,ns_indexAddr,ns_index,ns_load,ns_slice,ns_binOp,ns_unOp,ns_convert,ns_makeInterface,ns_makeFunc,ns_build,ns_box,ns_alloc,ns_store,ns_buildSlice,ns_func,ns_append,ns_len,ls_move,ls_assign,ls_pick,ls_nilCheck,ls_extract,ls_field,ls_fieldAddr,ls_indexAddr,ls_index,ls_load,ls_slice,ls_binOp,ls_unOp,ls_convert,ls_makeInterface,ls_makeFunc,ls_build,ls_box,ls_alloc,ls_store,ls_buildSlice,ls_func,ls_append,ls_len,appL,storeN_ptr,storeL_ptr,loadL_1,loadL_2,withS_some,buildV_w,buildGo,pickV,nilV,extV,fieldV,faddrV,iaddrV,indexV,loadV,partA_1,partA_2,sliceV_sl,sliceV_own,sliceV_str,sliceV_B,sliceV_I,frzL_d,binV,aggBin,eqDs,Option.bind_some,iBin,sBin,isShift,shV,nilBin,isNil,unV,convV_int,convV_str,convV_nil,convV_B,convV_own,mkIV,isSlc,isStr,lenV_1,lenV_2,lenV_3,lenV_4,lenV_5,arrV_1,arrV_2,arrV_3,arrV_4,elemsOf_ptr,elemsOf_arr,or_false,false_or,lenV_B,lenV_I,lenV_S,lenV_Ds,lenA_1,lenA_2,lenA_3,lenA_4,lenA_5,ev,evG_t,cA,St.f,lk,St.set,cells1_1,cells1_2,cells1_3,cells1_4,cells1_5,cells1_6,cells1_7,cells1_8,cells1_9,cells1_10,cells1_11,cells1_12,cells1_13,cellsOfA_1,cellsOfA_2,elemsOf_1,elemsOf_2,intA,bndA,splice_cons,appN,elemsN_1,elemsN_2,elemsN_3,elemsN_B,elemsN_I,elemsN_S,elemsN_Ds,cellsDs,cellsD,frz,frzL,mkAgg_0,mkAgg_1,allD,mkTup,argsOf,argOf,cloArg,Option.map_some,Option.map_none,Option.some.injEq,exists_eq_left',exists_eq_left,and_true,true_and,List.map_cons,List.map_nil,List.drop_succ_cons,List.drop_zero,List.drop_nil,List.take_succ_cons,List.take_zero,List.take_nil,List.nil_append,List.cons_append,List.append_nil,List.length_cons,List.length_nil,List.length_map,reduceIte,reduceCtorEq,Value.oneCell',List.all_cons,List.all_nil,Bool.and_true,Bool.and_self,forall_const,Nat.le_refl,List.getElem?_cons_zero,List.getElem?_cons_succ,List.getElem?_toArray,Prod.mk.injEq,ne_eq,not_false_eq_true,not_true_eq_false,true_implies,implies_true,Int.reduceEq,List.toList_toArray,Nat.zero_add,Nat.add_zero,Nat.reduceAdd,exists_const,Nat.zero_le,Nat.reduceLeDiff,Int.toNat_natCast,List.forall_mem_cons,List.forall_mem_nil,Option.isSome_some,Nat.reduceMul,List.zipIdx_cons,List.zipIdx_nil,eq_self,false_implies,Bool.false_eq_true,Bool.true_eq_false,false_and,and_false,elemsOf_B,elemsOf_I,elemsOf_S,elemsOf_Ds,lenA_B,lenA_I,lenA_S,lenA_Ds,cells1_D,cells1_R,cells1_V,cellsOfA_D,cellsOfA_R,cellsOfA_V,cells1_ivsl,elemsOf_ivB,lenA_ivB,lenV_ivB,cells1_ivB,cells1_ivI,cells1_ivS,cells1_ivDs,cells1_encB,cells1_encI,cells1_encS,cells1_encDs,dropR1,dropR2,dropR3,dropR4,dropR5,dropR6,dropR7,mkAgg_R,encRc_len,mkAgg_V,encVc_len,partA_R0,Int.natCast_nonneg,Int.reduceToNat,exTy,Int.toNat_natCast_add_one,encVs_len,List.length_append,encVc_mk,TypeDesc.int.injEq,decide_true,decide_false,Bool.not_true,Bool.not_false,lenA_sow,cells1_sow,cells1_sp,cells1_ivsp,tyF]);first|exact rfl):p:=h

section
variable {P:Program}{en:En}{ops:Array Oper}{o:Oper}{l:List Oper}{K:St→Prop}{s:St}
theorem ow_callA {f:FuncId}{xs:Array Operand}{ats:Array TypeId}{as:List A} (hg:Wanted s ops o) (hd:∀ x,o.dst=some x→x<en.sz) (ho:o.op=.call { callee:=.value (.func f),args:=xs,argTypes:=ats })
  (h:CallN P s f as o.dst (OWs P en ops l K)) (ha:xs.toList.map (ev s.f)=as:=by exact evT):OWs P en ops (o::l) K s:=ow_callN hg hd ho (ha▸h)
theorem ow_callVA {f:FuncId}{c:Operand}{fs cs:List A}{xs:Array Operand}{ats:Array TypeId}{as:List A} (hg:Wanted s ops o) (hd:∀ x,o.dst=some x→x<en.sz) (ho:o.op=.call { callee:=.value c,args:=xs,argTypes:=ats })
  (h:CallN P s f as o.dst (OWs P en ops l K)) (hcl:clA (ev s.f c)=some (f,fs,cs):=by exact evT) (ha:fs++xs.toList.map (ev s.f)++cs=as:=by exact evT):OWs P en ops (o::l) K s:=ow_callV hg hd ho hcl (ha▸h)
variable {K2:List Nat→St→Prop}{acc:List Nat}
theorem ol_callA {N:Nat}{f:FuncId}{xs:Array Operand}{ats:Array TypeId}{as:List A} (hg:match o.guard with|none=>True|some (g,want)=>guardB s ops g=some want) (ho:o.op=.call { callee:=.value (.func f),args:=xs,argTypes:=ats })
  (h:LCall P s f as o.dst fun c s1=>OL P N ops l (acc++[c]) K2 s1) (ha:xs.toList.map (ev s.f)=as:=by exact evT):OL P N ops (o::l) acc K2 s:=ol_go hg fun K' hK=>by
 rw [ho]
 obtain ⟨ys,r,h1,h2,h3,h4⟩:=h
 subst ha
 exact ⟨ys,r,h1,h2,h3,hK _ _ h4⟩
end
theorem aw_condS {P:Program}{en:En}{K:Exit→St→Prop}{s:St}{c:Operand}{x y:Code}{b:Bool}{p n:Prop} (hc:ev s.f c=.d (.v (.bool b))) (ht:p→AWs P en x K s) (hf:n→AWs P en y K s)
  (h1:b=true→p:=by intro h;(try simp only [decide_eq_true_eq,beq_iff_eq,bne_iff_ne,Bool.not_eq_true',decide_eq_false_iff_not,Bool.and_eq_true] at h);exact h)
  (h2:b=false→n:=by intro h;(try simp only [decide_eq_false_iff_not,beq_eq_false_iff_ne,bne_eq_false_iff_eq,Bool.not_eq_false',decide_eq_true_eq] at h);exact h):AWs P en (.cond c x y) K s:=
 aw_cond hc (fun h=>ht (h1 h)) (fun h=>hf (h2 h))
structure Rest (p:Prop):Prop where
 out:p
theorem evS {p q:Prop} (k:q) (h:Rest q→p:=by intro h;simp (decide:=true) only [ns_move,ns_assign,ns_pick,ns_nilCheck,ns_extract,ns_field,ns_fieldAddr,ns_indexAddr,ns_index,ns_load,ns_slice,ns_binOp,ns_unOp,ns_convert,ns_makeInterface,ns_makeFunc,ns_build,ns_box,ns_alloc,ns_store,ns_buildSlice,ns_func,ns_append,ns_len,ls_move,ls_assign,ls_pick,ls_nilCheck,ls_extract,ls_field,ls_fieldAddr,ls_indexAddr,ls_index,ls_load,ls_slice,ls_binOp,ls_unOp,ls_convert,ls_makeInterface,ls_makeFunc,ls_build,ls_box,ls_alloc,ls_store,ls_buildSlice,ls_func,ls_append,ls_len,appL,storeN_ptr,storeL_ptr,loadL_1,loadL_2,withS_some,buildV_w,buildGo,pickV,nilV,extV,fieldV,faddrV,iaddrV,indexV,loadV,partA_1,partA_2,sliceV_sl,sliceV_own,sliceV_str,sliceV_B,sliceV_I,frzL_d,binV,aggBin,eqDs,Option.bind_some,iBin,sBin,isShift,shV,nilBin,isNil,unV,convV_int,convV_str,convV_nil,convV_B,convV_own,mkIV,isSlc,isStr,lenV_1,lenV_2,lenV_3,lenV_4,lenV_5,arrV_1,arrV_2,arrV_3,arrV_4,elemsOf_ptr,elemsOf_arr,or_false,false_or,lenV_B,lenV_I,lenV_S,lenV_Ds,lenA_1,lenA_2,lenA_3,lenA_4,lenA_5,ev,evG_t,cA,St.f,lk,St.set,cells1_1,cells1_2,cells1_3,cells1_4,cells1_5,cells1_6,cells1_7,cells1_8,cells1_9,cells1_10,cells1_11,cells1_12,cells1_13,cellsOfA_1,cellsOfA_2,elemsOf_1,elemsOf_2,intA,bndA,splice_cons,appN,elemsN_1,elemsN_2,elemsN_3,elemsN_B,elemsN_I,elemsN_S,elemsN_Ds,cellsDs,cellsD,frz,frzL,mkAgg_0,mkAgg_1,allD,mkTup,argsOf,argOf,cloArg,Option.map_some,Option.map_none,Option.some.injEq,exists_eq_left',exists_eq_left,and_true,true_and,List.map_cons,List.map_nil,List.drop_succ_cons,List.drop_zero,List.drop_nil,List.take_succ_cons,List.take_zero,List.take_nil,List.nil_append,List.cons_append,List.append_nil,List.length_cons,List.length_nil,List.length_map,reduceIte,reduceCtorEq,Value.oneCell',List.all_cons,List.all_nil,Bool.and_true,Bool.and_self,forall_const,Nat.le_refl,List.getElem?_cons_zero,List.getElem?_cons_succ,List.getElem?_toArray,Prod.mk.injEq,ne_eq,not_false_eq_true,not_true_eq_false,true_implies,implies_true,Int.reduceEq,List.toList_toArray,Nat.zero_add,Nat.add_zero,Nat.reduceAdd,exists_const,Nat.zero_le,Nat.reduceLeDiff,Int.toNat_natCast,List.forall_mem_cons,List.forall_mem_nil,Option.isSome_some,Nat.reduceMul,List.zipIdx_cons,List.zipIdx_nil,eq_self,false_implies,Bool.false_eq_true,Bool.true_eq_false,false_and,and_false,elemsOf_B,elemsOf_I,elemsOf_S,elemsOf_Ds,lenA_B,lenA_I,lenA_S,lenA_Ds,cells1_D,cells1_R,cells1_V,cellsOfA_D,cellsOfA_R,cellsOfA_V,cells1_ivsl,elemsOf_ivB,lenA_ivB,lenV_ivB,cells1_ivB,cells1_ivI,cells1_ivS,cells1_ivDs,cells1_encB,cells1_encI,cells1_encS,cells1_encDs,dropR1,dropR2,dropR3,dropR4,dropR5,dropR6,dropR7,mkAgg_R,encRc_len,mkAgg_V,encVc_len,partA_R0,Int.natCast_nonneg,Int.reduceToNat,exTy,Int.toNat_natCast_add_one,encVs_len,List.length_append,encVc_mk,TypeDesc.int.injEq,decide_true,decide_false,Bool.not_true,Bool.not_false,lenA_sow,cells1_sow,cells1_sp,cells1_ivsp,tyF];(try simp (disch:=omega) only [wrap64,wrapw]);(repeat (refine And.intro (by first|omega|(simp only [List.length_map];omega)) ?_));(first|refine ⟨_,idx_some _ (by assumption),?_⟩|refine ⟨_,idx_map _ (by omega),?_⟩|skip);exact h.out):p:=h ⟨k⟩
theorem walkS {p q:Prop} (k:q) (h:Rest q→p:=by intro h;(first|refine aw_seq ?_|refine aw_region ?_|refine aw_block ?_|(refine aw_exit ?_;(try simp (decide:=true) only [reduceIte]))|(refine aw_skip ?_;try dsimp only)|(refine aw_any (by kernel_rfl) (by kernel_rfl) (by simp only [hsz];kernel_rfl) ?_)|(refine ow_nil ?_;try dsimp only)|(refine ol_go ?_ (fun K1 hK1=>?_);(first|exact trivial|exact rfl);refine evS ?_;refine hK1 _ _ ?_;clear hK1 K1)|(refine ol_skip rfl rfl ?_ ?_;(focus (intro hne;cases hne;done));simp only [St.set])|(refine ol_nil ⟨by kernel_rfl,?_⟩;try dsimp only)|(refine ow_go ?_ (fun x hx=>by cases hx<;>(rw [hsz];decide)) (fun K1 hK1=>?_);(first|exact trivial|exact rfl);refine evS ?_;refine hK1 _ ?_;clear hK1 K1)|(refine ow_skip rfl rfl ?_ (fun x hx=>by cases hx<;>(rw [hsz];decide)) ?_;(focus (intro hne;cases hne;done));simp only [St.set]));(repeat (first|refine aw_seq ?_|refine aw_region ?_|refine aw_block ?_|(refine aw_exit ?_;(try simp (decide:=true) only [reduceIte]))|(refine aw_skip ?_;try dsimp only)|(refine aw_any (by kernel_rfl) (by kernel_rfl) (by simp only [hsz];kernel_rfl) ?_)|(refine ow_nil ?_;try dsimp only)|(refine ol_go ?_ (fun K1 hK1=>?_);(first|exact trivial|exact rfl);refine evS ?_;refine hK1 _ _ ?_;clear hK1 K1)|(refine ol_skip rfl rfl ?_ ?_;(focus (intro hne;cases hne;done));simp only [St.set])|(refine ol_nil ⟨by kernel_rfl,?_⟩;try dsimp only)|(refine ow_go ?_ (fun x hx=>by cases hx<;>(rw [hsz];decide)) (fun K1 hK1=>?_);(first|exact trivial|exact rfl);refine evS ?_;refine hK1 _ ?_;clear hK1 K1)|(refine ow_skip rfl rfl ?_ (fun x hx=>by cases hx<;>(rw [hsz];decide)) ?_;(focus (intro hne;cases hne;done));simp only [St.set])));exact h.out):p:=h ⟨k⟩
theorem callPre {p q:Prop} (k:q) (h:Rest q→p:=by intro h;refine ow_callA ?_ (fun x hx=>by cases hx<;>(rw [hsz];decide)) rfl h.out;(first|exact trivial|exact rfl)):p:=h ⟨k⟩
theorem callPreV {p q:Prop} (k:q) (h:Rest q→p:=by intro h;refine ow_callVA ?_ (fun x hx=>by cases hx<;>(rw [hsz];decide)) rfl h.out;(first|exact trivial|exact rfl)):p:=h ⟨k⟩
theorem callPreL {p q:Prop} (k:q) (h:Rest q→p:=by intro h;refine ol_callA ?_ rfl h.out;(first|exact trivial|exact rfl)):p:=h ⟨k⟩
theorem callN_funS {P:Program}{s s':St}{f:FuncId}{xs ys:List A}{d:Option Nat}{K:St→Prop}{r0:Rz} (h1:argsOf none xs=some ys) (h2:AC P f ys none fun r _=>r=r0) (h:K s') (h3:r0.nk≤16:=by first|exact Nat.zero_le _|simp [Rz.nk,Rz.nkL])
  (hs:s.got r0 d=s':=by simp (decide:=true) only [St.got,Rz.addS,Rz.addSL,Rz.toA,Rz.toAL,Rz.nk,Rz.nkL,St.set,mkAgg_0,mkAgg_1,mkTup,allD,Option.map_some,Option.map_none,Nat.reduceAdd,Nat.add_zero,Nat.zero_add,List.length_map];exact rfl):CallN P s f xs d K:=callN_fun h1 h2 h3 (hs▸h)
theorem callL_funS {P:Program}{s s':St}{f:FuncId}{xs ys:List A}{d:Option Nat}{K:Nat→St→Prop}{r0:Rz} (h1:argsOf none xs=some ys) (h2:AC P f ys none fun r _=>r=r0) (h:K 2 s') (h3:r0.nk≤16:=by first|exact Nat.zero_le _|simp [Rz.nk,Rz.nkL])
  (hs:s.got r0 d=s':=by simp (decide:=true) only [St.got,Rz.addS,Rz.addSL,Rz.toA,Rz.toAL,Rz.nk,Rz.nkL,St.set,mkAgg_0,mkAgg_1,mkTup,allD,Option.map_some,Option.map_none,Nat.reduceAdd,Nat.add_zero,Nat.zero_add,List.length_map];exact rfl):LCall P s f xs d K:=callL_fun h1 h2 h3 (hs▸h)
theorem finS {p q:Prop} (k:q) (h:Rest q→p:=by intro h;simp (decide:=true) only [Fin,or_true,true_or,resL,St.f,lk,resOf,true_and,mkTup,allD,Option.map_some,Option.map_none,loadV,partA_1,partA_2,mkAgg_0,mkAgg_1,mkAgg_V,mkAgg_R,encVc_len,encRc_len,List.length_map,Nat.le_refl,List.take_succ_cons,List.take_zero,List.drop_zero,List.length_cons,List.length_nil,reduceIte,tyF];exact h.out):p:=h ⟨k⟩
theorem wkS {p:Prop} (h:p:=by (refine ⟨?_,?_,?_,?_⟩<;>simp (decide:=true) only [St.head,wkFr,wkBx,wkB,wkBc,wkAl,wkAlv,wkA,wkO,wkL,wkD_selfT,wkL_d,ltL_dT,sg,keyOf,keyB,keyBc,List.getD_cons_zero,List.getD_cons_succ,encVs_len,lk,St.f,rmv,keysOk,liveKeys,A.lt,A.ltL,List.map_cons,List.map_nil,List.cons_append,List.nil_append,and_true,true_and,and_self,reduceIte,reduceCtorEq,Option.some.injEq,List.length_cons,List.length_nil,List.length_append,Nat.reduceAdd,exists_eq_left',exists_eq_left,natCast0,natCast1,Int.add_sub_cancel,List.flatten_replicate_singleton,List.take_zero,Nat.sub_zero,List.map_replicate,Nat.zero_add,List.append_nil,List.all_nil,List.all_cons,List.map_append,List.length_map,wkL_arrC,arrC_lt,wkD_ownB,wkD_ownB0,wkD_ownV0,wkD_nilB,wkD_ownV,wkD_nilV,wkD_agg,wkD_tup,wkDL_nil,wkDL_cons,encVs_append,encVs_one,encVs_nil,encV_mk,V0,dle_agg,dle_tup,dleL_nil,dleL_cons,dle_nil,dle_nilB,wkD_tupd,wkD_aggd,dle_selfT]<;>(try exact wkD_self _))):p:=h
theorem wkDS {p:Prop} (h:p:=by first|exact wkD_self _|(simp (decide:=true) only [wkD_selfT,wkD_ownB,wkD_ownB0,wkD_ownV0,wkD_nilB,wkD_ownV,wkD_nilV,wkD_agg,wkD_tup,wkDL_nil,wkDL_cons,encVs_append,encVs_one,encVs_nil,encV_mk,V0,dle_agg,dle_tup,dleL_nil,dleL_cons,dle_nil,dle_nilB,wkD_tupd,wkD_aggd,dle_selfT,and_true,true_and,List.map_cons,List.map_nil])):p:=h
theorem dsS {p:Prop} (h:p:=by intro x hx;cases hx<;>(rw [hsz];decide)):p:=h
theorem trS {p:Prop} (h:p:=by first|exact trivial|exact rfl):p:=h
theorem stS0 {p q:Prop} (k:q) (h:Rest q→p:=by intro h;simp only [St.set,List.map_cons,List.map_nil,Nat.reduceAdd];exact h.out):p:=h ⟨k⟩
structure Kn (n:Nat):Prop where
section
variable {P:Program}{en:En}{ops:Array Oper}{o:Oper}{l:List Oper}{s:St}
end
theorem cS {p q c:Prop} (hc:c) (k:q) (h:Rest q→c→p:=by intro h hc;first|(refine callPre ?_;refine callN_funS rfl hc ?_;exact h.out)|(refine callPreL ?_;refine callL_funS rfl hc ?_;exact h.out)):p:=h ⟨k⟩ hc
theorem rtS {p q c:Prop} (hr:c) (k:q) (h:Rest q→c→p:=by intro h hr;refine aw_ret ?_;simp only [Fin,hr];refine finS ?_;exact h.out):p:=h ⟨k⟩ hr
theorem cbS {P:Program}{f:FuncId}{fn:Func}{c:Code}{args:List A}{bx:Option (List Rz)}{Q:Rz→Option (List Rz)→Prop} (hf:P.funcs[f]?=some fn) (hb:fn.body=some c) (he:∀ vs w,(callFunc f vs).run P w=.ok (.enter f vs) w) {n:Nat} (hn:fn.ntmps=n)
  (h:∀ en:En,en.sz=n→(∀ k,en.ks k→k=0)→(bx.isSome=true→en.ks 0)→AWs P en c (Fin P fn bx Q) (St.init args bx)) (hl:args.length≤n:=by simp) (ha:ArgsOk args:=by simp [ArgsOk]) (hk:∀ zs,bx=some zs→Rz.nkL zs≤16:=by simp [Rz.nkL,Rz.nk]):AC P f args bx Q:=calls_body hf hb he hn hl ha hk h
theorem ctlS {p q:Prop} (k:q) (h:Rest q→p:=by intro h;(first|refine aw_seq ?_|refine aw_region ?_|refine aw_block ?_|(refine aw_exit ?_;(try simp (decide:=true) only [reduceIte]))|(refine aw_skip ?_;try dsimp only)|(refine aw_any (by kernel_rfl) (by kernel_rfl) (by simp only [hsz];kernel_rfl) ?_)|(refine ow_nil ?_;try dsimp only)|(refine ol_nil ⟨by kernel_rfl,?_⟩;try dsimp only));exact h.out):p:=h ⟨k⟩
theorem skipS {p q:Prop} (k:q) (h:Rest q→p:=by intro h;(first|(refine ol_skip rfl rfl ?_ ?_;(focus (intro hne;cases hne;done));simp only [St.set])|(refine ow_skip rfl rfl ?_ (fun x hx=>by cases hx<;>(rw [hsz];decide)) ?_;(focus (intro hne;cases hne;done));simp only [St.set]));exact h.out):p:=h ⟨k⟩
theorem enS {p q:Prop} (k:q) (h:Rest q→p:=by intro h;(simp only [St.init,frOf,Rz.addSL,Rz.addS,Rz.toAL,Rz.toA,Rz.nk,List.zipIdx_cons,List.zipIdx_nil,List.map_cons,List.map_nil,Nat.zero_add,Nat.reduceAdd]);exact h.out):p:=h ⟨k⟩
theorem headS {p q:Prop} (k:q) (h:Rest q→p:=by intro h;(simp (decide:=true) only [St.head,List.map_cons,List.map_nil,lk,rmv,List.cons_append,List.nil_append,List.append_nil,reduceIte,Nat.reduceAdd]);exact h.out):p:=h ⟨k⟩
end Go.Proofs.YtaammoodcgfhpaaDoor.Eng
