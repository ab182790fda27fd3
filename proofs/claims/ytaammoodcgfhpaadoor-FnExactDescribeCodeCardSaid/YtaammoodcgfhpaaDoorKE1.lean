/-
 The engine, part 0: values without memory, what it means that memory holds them, states.

 The engine, part 1: operations that make a value and leave the world alone.

 The engine, part 1b: cells of values; building.

 The engine, part 2: what an operation makes of what its operands are.

 The engine, part 3: each of these operations does what part 2 says.

 The engine, part 4: tests, arithmetic, conversions; all in one.

 The engine, part 5: what makes memory, and what writes it.

 The engine, part 6: stores, slices that are made, append.

 The engine, part 7: slices made in one go, append.

 The engine, part 8: append.

 The engine, part 9: append, whatever the base.
-/
import Derived.WalkKit
import Derived.Lib.Hide
import Derived.Below
import Derived.Lib.ItoaMem
import Derived.Laws.Entries
import Derived.Laws.Cells
import Derived.Laws.BytesArg
import Derived.Laws.StructEq
import Derived.ChangeKeysEq
import Derived.Laws.CopyRow
import Derived.Maps.AppendAt
set_option linter.unusedSimpArgs false
set_option linter.unusedVariables false
set_option linter.defProp false
set_option maxRecDepth 100000
set_option maxHeartbeats 4000000
namespace Go.Proofs.YtaammoodcgfhpaaDoor.Eng
open Go Go.RowKit

inductive D where
 | v (x:Value)
 | sl (z:Nat) (es:List (List D))
 | rp (cs:List D)
 | agg (cs:List D)
 | tup (cs:List D)
 | ifc (t:TypeId) (x:D)
 | iv (p:Nat→Prop) (x:D)
 | gl (g:Nat)
 | sp (z:Nat) (es:List (List D))

abbrev CellR:=Nat→Nat→Value→Prop
def CellR.on (C:CellR) (p:Nat→Prop):CellR:=fun b o u=>C b o u∧p b

mutual
def RepD:CellR→D→Value→Prop
 | _,.v x,u=>u=x
 | C,.sl z es,u=>∃ a cap,u=.slice a es.length cap∧es.length≤cap∧cap≤maxLen∧(es=[]∨∃ b o,a=some ⟨b,o,none⟩∧RepEs C z es b o)
 | C,.rp cs,u=>∃ b o,u=.pointer (some ⟨b,o,none⟩)∧RepCs C cs b o
 | C,.agg cs,u=>∃ us,u=.agg ⟨us⟩∧RepL C cs us∧∀ x∈us,x.oneCell'=true
 | C,.tup cs,u=>∃ us,u=.tuple ⟨us⟩∧RepL C cs us
 | C,.ifc t x,u=>∃ y,u=.iface t y∧RepD C x y
 | C,.iv p x,u=>RepD (C.on p) x u
 | C,.gl g,u=>C g 0 u
 | C,.sp z es,u=>∃ a cap,u=.slice a es.length cap∧es.length≤cap∧cap≤maxLen∧(es=[]∨∃ b o,a=some ⟨b,o,none⟩∧RepSp C z es b o)
def RepL:CellR→List D→List Value→Prop
 | _,[],us=>us=[]
 | C,c::cs,us=>∃ u us',us=u::us'∧RepD C c u∧RepL C cs us'
def RepCs:CellR→List D→Nat→Nat→Prop
 | _,[],_,_=>True
 | C,c::cs,b,o=>(∃ u,C b o u∧RepD C c u)∧RepCs C cs b (o+1)
def RepEs:CellR→Nat→List (List D)→Nat→Nat→Prop
 | _,_,[],_,_=>True
 | C,z,e::es,b,o=>e.length=z∧RepCs C e b o∧RepEs C z es b (o+z)
def RepSp:CellR→Nat→List (List D)→Nat→Nat→Prop
 | _,_,[],_,_=>True
 | C,z,e::es,b,o=>∃ F:Nat→Prop,¬F b∧e.length=z∧RepCsF C F e b o∧RepSp (C.on fun q=>¬F q) z es b (o+z)
def RepCsF:CellR→(Nat→Prop)→List D→Nat→Nat→Prop
 | _,_,[],_,_=>True
 | C,F,c::cs,b,o=>(∃ u,C b o u∧RepD (C.on F) c u)∧RepCsF C F cs b (o+1)
end

mutual
theorem RepD.mono {C C':CellR} (h:∀ b o u,C b o u→C' b o u) (x:D) (u:Value) (k:RepD C x u):RepD C' x u:=by
 cases x with
 | v x=>unfold RepD at k ⊢;exact k
 | sl z es=>
  unfold RepD at k ⊢
  obtain ⟨a,cap,h1,h2,h3,h4⟩:=k
  exact ⟨a,cap,h1,h2,h3,h4.imp id fun ⟨b,o,ha,he⟩=>⟨b,o,ha,RepEs.mono h z es b o he⟩⟩
 | rp cs=>
  unfold RepD at k ⊢
  obtain ⟨b,o,h1,h2⟩:=k
  exact ⟨b,o,h1,RepCs.mono h cs b o h2⟩
 | agg cs=>
  unfold RepD at k ⊢
  obtain ⟨us,h1,h2,h3⟩:=k
  exact ⟨us,h1,RepL.mono h cs us h2,h3⟩
 | tup cs=>
  unfold RepD at k ⊢
  obtain ⟨us,h1,h2⟩:=k
  exact ⟨us,h1,RepL.mono h cs us h2⟩
 | ifc t x=>
  unfold RepD at k ⊢
  obtain ⟨y,h1,h2⟩:=k
  exact ⟨y,h1,RepD.mono h x y h2⟩
 | iv p x=>
  unfold RepD at k ⊢
  exact RepD.mono (fun b o u hc=>⟨h b o u hc.1,hc.2⟩) x u k
 | gl g=>
  unfold RepD at k ⊢
  exact h _ _ _ k
 | sp z es=>
  unfold RepD at k ⊢
  obtain ⟨a,cap,h1,h2,h3,h4⟩:=k
  exact ⟨a,cap,h1,h2,h3,h4.imp id fun ⟨b,o,ha,he⟩=>⟨b,o,ha,RepSp.mono h z es b o he⟩⟩
theorem RepL.mono {C C':CellR} (h:∀ b o u,C b o u→C' b o u) (xs:List D) (us:List Value) (k:RepL C xs us):RepL C' xs us:=by
 cases xs with
 | nil=>unfold RepL at k ⊢;exact k
 | cons c cs=>
  unfold RepL at k ⊢
  obtain ⟨u,us',h1,h2,h3⟩:=k
  exact ⟨u,us',h1,RepD.mono h c u h2,RepL.mono h cs us' h3⟩
theorem RepCs.mono {C C':CellR} (h:∀ b o u,C b o u→C' b o u) (xs:List D) (b o:Nat) (k:RepCs C xs b o):RepCs C' xs b o:=by
 cases xs with
 | nil=>unfold RepCs;trivial
 | cons c cs=>
  unfold RepCs at k ⊢
  obtain ⟨⟨u,h1,h2⟩,h3⟩:=k
  exact ⟨⟨u,h b o u h1,RepD.mono h c u h2⟩,RepCs.mono h cs b (o+1) h3⟩
theorem RepEs.mono {C C':CellR} (h:∀ b o u,C b o u→C' b o u) (z:Nat) (xs:List (List D)) (b o:Nat) (k:RepEs C z xs b o):RepEs C' z xs b o:=by
 cases xs with
 | nil=>unfold RepEs;trivial
 | cons e es=>
  unfold RepEs at k ⊢
  obtain ⟨h1,h2,h3⟩:=k
  exact ⟨h1,RepCs.mono h e b o h2,RepEs.mono h z es b (o+z) h3⟩
theorem RepSp.mono {C C':CellR} (h:∀ b o u,C b o u→C' b o u) (z:Nat) (xs:List (List D)) (b o:Nat) (k:RepSp C z xs b o):RepSp C' z xs b o:=by
 cases xs with
 | nil=>unfold RepSp;trivial
 | cons e es=>
  unfold RepSp at k ⊢
  obtain ⟨F,h0,h1,h2,h3⟩:=k
  exact ⟨F,h0,h1,RepCsF.mono h (fun _ hF=>hF) e b o h2,RepSp.mono (fun b o u hc=>⟨h b o u hc.1,hc.2⟩) z es b (o+z) h3⟩
theorem RepCsF.mono {C C':CellR}{F F':Nat→Prop} (h:∀ b o u,C b o u→C' b o u) (hF:∀ b,F b→F' b) (xs:List D) (b o:Nat) (k:RepCsF C F xs b o):RepCsF C' F' xs b o:=by
 cases xs with
 | nil=>unfold RepCsF;trivial
 | cons c cs=>
  unfold RepCsF at k ⊢
  obtain ⟨⟨u,h1,h2⟩,h3⟩:=k
  exact ⟨⟨u,h b o u h1,RepD.mono (fun b o u hc=>⟨h b o u hc.1,hF b hc.2⟩) c u h2⟩,RepCsF.mono h hF cs b (o+1) h3⟩
end

inductive A where
 | top
 | d (x:D)
 | ptr (k off:Nat)
 | own (k:Nat) (e:TypeId) (z:Nat) (es:List (List D))
 | arr (k z n:Nat)
 | clo (f:FuncId) (fs cs:List A)
 | ifc (t:TypeId) (x:A)
 | agg (cs:List A)
 | tup (cs:List A)
 | dec (k:Nat) (e:TypeId) (z:Nat) (es:List (List D)) (ks:List (Nat × Nat × List (List D)))
 | sow (k:Nat) (e:TypeId) (z:Nat) (es:List (List D)) (p:Nat→Prop)

structure Gh where
 E:Nat→Option Nat
 cp:Nat→Nat
 C:CellR

def RepOwn (C:CellR) (eb:Option Nat) (cp z:Nat) (es:List (List D)) (u:Value):Prop:=
 (eb=none∧es=[]∧u=.slice none 0 0)∨(∃ b,eb=some b∧u=.slice (some ⟨b,0,none⟩) es.length cp∧es.length≤cp∧cp≤maxLen∧RepEs C z es b 0)
theorem RepOwn.mono {C C':CellR} (h:∀ b o u,C b o u→C' b o u) {eb:Option Nat}{cp z:Nat}{es:List (List D)}{u:Value} (k:RepOwn C eb cp z es u):RepOwn C' eb cp z es u:=
 k.imp id fun ⟨b,h1,h2,h3,h4,h5⟩=>⟨b,h1,h2,h3,h4,RepEs.mono h z es b 0 h5⟩

def RepCsX (C:CellR) (p:Nat→Prop):List D→Nat→Nat→Prop
 | [],_,_=>True
 | c::cs,b,o=>(∃ u,C b o u∧RepD (C.on p) c u)∧RepCsX C p cs b (o+1)
def RepEsX (C:CellR) (p:Nat→Prop) (z:Nat):List (List D)→Nat→Nat→Prop
 | [],_,_=>True
 | e::es,b,o=>e.length=z∧RepCsX C p e b o∧RepEsX C p z es b (o+z)
theorem RepCsX.mono {C C':CellR}{p p':Nat→Prop} (h:∀ b o u,C b o u→C' b o u) (hp:∀ b,p b→p' b):∀ (xs:List D) (b o:Nat),RepCsX C p xs b o→RepCsX C' p' xs b o
 | [],_,_,_=>by unfold RepCsX;trivial
 | c::cs,b,o,k=>by
  unfold RepCsX at k ⊢
  obtain ⟨⟨u,h1,h2⟩,h3⟩:=k
  exact ⟨⟨u,h b o u h1,RepD.mono (fun b o u hc=>⟨h b o u hc.1,hp b hc.2⟩) c u h2⟩,RepCsX.mono h hp cs b (o+1) h3⟩
theorem RepEsX.mono {C C':CellR}{p p':Nat→Prop} (h:∀ b o u,C b o u→C' b o u) (hp:∀ b,p b→p' b) {z:Nat}:∀ (xs:List (List D)) (b o:Nat),RepEsX C p z xs b o→RepEsX C' p' z xs b o
 | [],_,_,_=>by unfold RepEsX;trivial
 | e::es,b,o,k=>by
  unfold RepEsX at k ⊢
  exact ⟨k.1,RepCsX.mono h hp e b o k.2.1,RepEsX.mono h hp es b (o+z) k.2.2⟩
theorem RepCsX.cs {C:CellR}{p:Nat→Prop}:∀ {xs:List D}{b o:Nat},RepCsX C p xs b o→RepCs C xs b o
 | [],_,_,_=>by unfold RepCs;trivial
 | c::cs,b,o,k=>by
  unfold RepCsX at k
  unfold RepCs
  obtain ⟨⟨u,h1,h2⟩,h3⟩:=k
  exact ⟨⟨u,h1,RepD.mono (fun _ _ _ hc=>hc.1) c u h2⟩,h3.cs⟩
theorem RepEsX.es {C:CellR}{p:Nat→Prop}{z:Nat}:∀ {xs:List (List D)}{b o:Nat},RepEsX C p z xs b o→RepEs C z xs b o
 | [],_,_,_=>by unfold RepEs;trivial
 | e::es,b,o,k=>by
  unfold RepEsX at k
  unfold RepEs
  exact ⟨k.1,k.2.1.cs,k.2.2.es⟩
def RepDec (G:Gh) (k z:Nat) (es:List (List D)) (ks:List (Nat × Nat × List (List D))) (u:Value):Prop:=
 ∃ b,G.E k=some b∧u=.slice (some ⟨b,0,none⟩) es.length (G.cp k)∧es.length≤G.cp k∧G.cp k≤maxLen∧RepEsX G.C (fun q=>q≠b) z es b 0∧∀ p∈ks,∃ u',G.C b p.1 u'∧RepOwn G.C (G.E p.2.1) (G.cp p.2.1) 1 p.2.2 u'
theorem RepDec.own {G:Gh}{k z:Nat}{es:List (List D)}{ks:List (Nat × Nat × List (List D))}{u:Value} (h:RepDec G k z es ks u):RepOwn G.C (G.E k) (G.cp k) z es u:=by
 obtain ⟨b,h1,h2,h3,h4,h5,_⟩:=h
 exact .inr ⟨b,h1,h2,h3,h4,h5.es⟩

def RepSow (C:CellR) (eb:Option Nat) (cp z:Nat) (es:List (List D)) (p:Nat→Prop) (u:Value):Prop:=
 (eb=none∧es=[]∧u=.slice none 0 0)∨(es≠[]∧∃ b,eb=some b∧u=.slice (some ⟨b,0,none⟩) es.length cp∧es.length≤cp∧cp≤maxLen∧RepSp (C.on p) z es b 0)
theorem RepSow.mono {C C':CellR} (h:∀ b o u,C b o u→C' b o u) {eb:Option Nat}{cp z:Nat}{es:List (List D)}{p p':Nat→Prop} (hp:∀ b o u,C b o u→p b→p' b) {u:Value} (k:RepSow C eb cp z es p u):RepSow C' eb cp z es p' u:=
 k.imp id fun ⟨h0,b,h1,h2,h3,h4,h5⟩=>⟨h0,b,h1,h2,h3,h4,RepSp.mono (fun b o u hc=>⟨h b o u hc.1,hp b o u hc.1 hc.2⟩) z es b 0 h5⟩
mutual
def RepA (G:Gh):A→Value→Prop
 | .top,_=>True
 | .d x,u=>RepD G.C x u
 | .ptr k off,u=>∃ b,G.E k=some b∧u=.pointer (some ⟨b,off,none⟩)
 | .own k _ z es,u=>RepOwn G.C (G.E k) (G.cp k) z es u
 | .arr k _ n,u=>∃ b cap,G.E k=some b∧u=.slice (some ⟨b,0,none⟩) n cap∧n≤cap∧cap≤maxLen
 | .clo f fs cs,u=>∃ us vs,u=.func (.func f) ⟨us⟩ ⟨vs⟩∧RepAL G fs us∧RepAL G cs vs
 | .ifc t x,u=>∃ y,u=.iface t y∧RepA G x y
 | .agg cs,u=>∃ us,u=.agg ⟨us⟩∧RepAL G cs us∧∀ x∈us,x.oneCell'=true
 | .tup cs,u=>∃ us,u=.tuple ⟨us⟩∧RepAL G cs us
 | .dec k _ z es ks,u=>RepDec G k z es ks u
 | .sow k _ z es p,u=>RepSow G.C (G.E k) (G.cp k) z es p u
def RepAL (G:Gh):List A→List Value→Prop
 | [],us=>us=[]
 | c::cs,us=>∃ u us',us=u::us'∧RepA G c u∧RepAL G cs us'
end

mutual
def A.lt (n:Nat→Prop):A→Prop
 | .top=>True
 | .d _=>True
 | .ptr k _=>n k
 | .own k _ _ _=>n k
 | .arr k _ _=>n k
 | .clo _ fs cs=>A.ltL n fs∧A.ltL n cs
 | .ifc _ x=>A.lt n x
 | .agg cs=>A.ltL n cs
 | .tup cs=>A.ltL n cs
 | .dec k _ _ _ ks=>n k∧∀ p∈ks,n p.2.1
 | .sow k _ _ _ _=>n k
def A.ltL (n:Nat→Prop):List A→Prop
 | []=>True
 | c::cs=>A.lt n c∧A.ltL n cs
end

structure Gh.Le (n:Nat→Prop) (G G':Gh):Prop where
 E:∀ k,n k→G'.E k=G.E k
 cp:∀ k,n k→G'.cp k=G.cp k
 C:∀ b o u,G.C b o u→G'.C b o u
theorem Gh.Le.refl (n:Nat→Prop) (G:Gh):G.Le n G:=⟨fun _ _=>rfl,fun _ _=>rfl,fun _ _ _ h=>h⟩
theorem Gh.Le.trans {n:Nat→Prop}{G G' G'':Gh} (h:G.Le n G') (k:G'.Le n G''):G.Le n G'':=
 ⟨fun i hi=>(k.E i hi).trans (h.E i hi),fun i hi=>(k.cp i hi).trans (h.cp i hi),fun b o u c=>k.C b o u (h.C b o u c)⟩

mutual
theorem RepA.mono {n:Nat→Prop}{G G':Gh} (h:G.Le n G'):∀ (x:A) (u:Value),x.lt n→RepA G x u→RepA G' x u
 | .top,u,_,_=>by unfold RepA;trivial
 | .d x,u,_,k=>by unfold RepA at k ⊢;exact RepD.mono h.C x u k
 | .ptr i off,u,hl,k=>by
  unfold A.lt at hl
  unfold RepA at k ⊢
  obtain ⟨b,h1,h2⟩:=k
  exact ⟨b,(h.E i hl).trans h1,h2⟩
 | .arr i z m,u,hl,k=>by
  unfold A.lt at hl
  unfold RepA at k ⊢
  obtain ⟨b,cap,h1,h2⟩:=k
  exact ⟨b,cap,(h.E i hl).trans h1,h2⟩
 | .clo f fs cs,u,hl,k=>by
  unfold A.lt at hl
  unfold RepA at k ⊢
  obtain ⟨us,vs,h1,h2,h3⟩:=k
  exact ⟨us,vs,h1,RepAL.mono h fs us hl.1 h2,RepAL.mono h cs vs hl.2 h3⟩
 | .ifc t x,u,hl,k=>by
  unfold A.lt at hl
  unfold RepA at k ⊢
  obtain ⟨y,h1,h2⟩:=k
  exact ⟨y,h1,RepA.mono h x y hl h2⟩
 | .own i e z es,u,hl,k=>by
  unfold A.lt at hl
  unfold RepA at k ⊢
  rw [h.E i hl,h.cp i hl]
  exact k.mono h.C
 | .agg cs,u,hl,k=>by
  unfold A.lt at hl
  unfold RepA at k ⊢
  obtain ⟨us,h1,h2,h3⟩:=k
  exact ⟨us,h1,RepAL.mono h cs us hl h2,h3⟩
 | .tup cs,u,hl,k=>by
  unfold A.lt at hl
  unfold RepA at k ⊢
  obtain ⟨us,h1,h2⟩:=k
  exact ⟨us,h1,RepAL.mono h cs us hl h2⟩
 | .dec i e z es ks,u,hl,k=>by
  unfold A.lt at hl
  unfold RepA at k ⊢
  obtain ⟨b,h1,h2,h3,h4,h5,h6⟩:=k
  refine ⟨b,(h.E i hl.1).trans h1,by rw [h.cp i hl.1];exact h2,by rw [h.cp i hl.1];exact h3,by rw [h.cp i hl.1];exact h4,RepEsX.mono h.C (fun _ hq=>hq) es b 0 h5,fun p hp=>?_⟩
  obtain ⟨u',k1,k2⟩:=h6 p hp
  refine ⟨u',h.C _ _ _ k1,?_⟩
  rw [h.E _ (hl.2 p hp),h.cp _ (hl.2 p hp)]
  exact k2.mono h.C
 | .sow i e z es p,u,hl,k=>by
  unfold A.lt at hl
  unfold RepA at k ⊢
  rw [h.E i hl,h.cp i hl]
  exact k.mono h.C fun _ _ _ _ hp=>hp
theorem RepAL.mono {n:Nat→Prop}{G G':Gh} (h:G.Le n G'):∀ (xs:List A) (us:List Value),A.ltL n xs→RepAL G xs us→RepAL G' xs us
 | [],us,_,k=>by unfold RepAL at k ⊢;exact k
 | c::cs,us,hl,k=>by
  unfold A.ltL at hl
  unfold RepAL at k ⊢
  obtain ⟨u,us',h1,h2,h3⟩:=k
  exact ⟨u,us',h1,RepA.mono h c u hl.1 h2,RepAL.mono h cs us' hl.2 h3⟩
end

structure BelowX (X:Nat→Prop) (B:Nat) (w w':World):Prop where
 os:w'.os=w.os
 tape:w'.tape=w.tape
 output:w'.output=w.output
 size:w.heap.size≤w'.heap.size
 block:∀ k,k<B→¬X k→w'.heap[k]?=w.heap[k]?
theorem BelowX.refl (X:Nat→Prop) (B:Nat) (w:World):BelowX X B w w:=⟨rfl,rfl,rfl,Nat.le_refl _,fun _ _ _=>rfl⟩
theorem BelowX.trans {X:Nat→Prop}{B:Nat}{a b c:World} (h:BelowX X B a b) (k:BelowX X B b c):BelowX X B a c:=
 ⟨k.os.trans h.os,k.tape.trans h.tape,k.output.trans h.output,Nat.le_trans h.size k.size,fun i hi hx=>(k.block i hi hx).trans (h.block i hi hx)⟩
theorem BelowX.below {X:Nat→Prop}{B:Nat}{w w':World} (h:BelowX X B w w') (hX:∀ k,k<B→¬X k):Below B w w':=⟨h.os,h.tape,h.output,h.size,fun k hk=>h.block k hk (hX k hk)⟩
theorem BelowX.of {X:Nat→Prop}{B:Nat}{w w':World} (h:Below B w w'):BelowX X B w w':=⟨h.os,h.tape,h.output,h.size,fun k hk _=>h.block k hk⟩

def BoxOk (G:Gh) (w:World) (b:Nat) (cs:List A):Prop:=
 ∃ vs ty,w.heap[b]?=some (.cells ⟨vs⟩ ty (0,0))∧RepAL G cs vs∧(∀ x∈vs,x.oneCell'=true)∧∀ j u,¬G.C b j u
def RowOk (C:CellR) (w:World) (b cp n:Nat) (e:TypeId) (z:Nat):Prop:=
 ∃ cur,w.heap[b]?=some (.cells cur e (0,0))∧cur.size=cp*z∧(n≤cp∧∀ x∈cur.toList,x.oneCell'=true)∧∀ j u,n*z≤j→¬C b j u

structure Mem where
 bx:Nat→Option (List A)
 al:Nat→Option (Nat × TypeId × Nat)
 us:Nat→Prop
def Mem.live (m:Mem) (k:Nat):Prop:=(m.bx k).isSome=true∨(m.al k).isSome=true

/-! Package-level variables that are listed: their cells stand for good. -/
abbrev glN:Nat:=3
def GLe (_:CellR):Prop:=True
def GLt (_:CellR):Prop:=True
def gOk (_:Nat):Bool:=false
abbrev glP:Nat:=0
def GLp (C:CellR):Prop:=∀ i,i<20→∃ u,C glP i u
structure GL (C:CellR):Prop where
 e:GLe C
 t:GLt C
 p:GLp C
def LstE (_:Nat):Prop:=False
def LstT (_:Nat):Prop:=False
def LstP (b:Nat):Prop:=b=glP
def Lst (b:Nat):Prop:=LstE b∨LstT b∨LstP b
theorem lst_cell {C:CellR} (k:GL C) {b:Nat} (h:Lst b):∃ u,C b 0 u:=by
 rcases h with h|h|h
 ·first|exact h.elim|(rw [show b=_ from h];exact ⟨_,k.e⟩)
 ·first|exact h.elim|(rw [show b=_ from h];exact ⟨_,k.t.choose_spec⟩)
 ·first|exact h.elim|(rw [show b=_ from h];exact k.p 0 (by decide))
theorem GLp.mono {C C':CellR} (h:∀ b o u,C b o u→C' b o u) (k:GLp C):GLp C':=by
 first|exact trivial|exact fun i hi=>(k i hi).imp fun a ha=>h _ _ _ ha
def GLw (w:World):Prop:=∃ ty fr,w.heap[glP]?=some (.cells (Lib.pow10Tab.map fun z=>Value.int .u64 z).toArray ty fr)
theorem GLw.keep {C:CellR}{w w':World} (hw:GLw w) (gl:GL C) (k:∀ b vs ty fr,w.heap[b]?=some (.cells vs ty fr)→0<vs.size→(∀ i,i<vs.size→∃ u,C b i u)→w'.heap[b]?=w.heap[b]?):GLw w':=by
 first
  | exact trivial
  | (obtain ⟨ty,fr,h1⟩:=hw
     have hs:((Lib.pow10Tab.map fun z=>Value.int .u64 z).toArray).size=20:=by kernel_rfl
     exact ⟨ty,fr,(k _ _ _ _ h1 (by rw [hs];decide) (by rw [hs];exact gl.p)).trans h1⟩)
theorem GLe.mono {C C':CellR} (h:∀ b o u,C b o u→C' b o u) (k:GLe C):GLe C':=by
 first|exact trivial|exact h _ _ _ k
theorem GLt.mono {C C':CellR} (h:∀ b o u,C b o u→C' b o u) (k:GLt C):GLt C':=by
 first|exact trivial|exact k.imp fun a ha=>h _ _ _ ha
theorem GL.mono {C C':CellR} (h:∀ b o u,C b o u→C' b o u) (k:GL C):GL C':=⟨k.e.mono h,k.t.mono h,k.p.mono h⟩
theorem GL.get {C:CellR} (k:GL C) {g:Nat} (hg:gOk g=true):∃ u,C g 0 u:=by
 first
  | (obtain ⟨a,h⟩:=k.t
     unfold gOk at hg
     have hg':=eq_of_beq hg
     rw [hg']
     exact ⟨_,h⟩)
  | (exact absurd hg (by simp [gOk]))

structure Cok (C:CellR) (w:World):Prop where
 cell:∀ b o u,C b o u→w.cell? ⟨b,o,none⟩=some u∧u.oneCell'=true
 nf:∀ b o u,C b o u→¬Lst b→w.frozen? ⟨b,o,none⟩=false
 gl:GL C
 tb:GLw w
theorem frz_of_block {w w':World}{b o:Nat} (h:w'.heap[b]?=w.heap[b]?):w'.frozen? ⟨b,o,none⟩=w.frozen? ⟨b,o,none⟩:=by simp only [World.frozen?,h]
theorem frz_of_cells {w:World}{b o:Nat}{vs:Array Value}{ty:TypeId} (h:w.heap[b]?=some (.cells vs ty (0,0))):w.frozen? ⟨b,o,none⟩=false:=by simp [World.frozen?,h]

structure MemOk (G:Gh) (w:World) (m:Mem):Prop where
 cok:Cok G.C w
 box:∀ k cs,m.bx k=some cs→∃ b,G.E k=some b∧BoxOk G w b cs∧A.ltL m.us cs
 row:∀ k n e z,m.al k=some (n,e,z)→∀ b,G.E k=some b→RowOk G.C w b (G.cp k) n e z
 inj:∀ k k' b,m.live k→m.live k'→G.E k=some b→G.E k'=some b→k=k'
 lt:∀ k,m.live k→m.us k
 sep:∀ k,(m.bx k).isSome=true→m.al k=none

theorem MemOk.cell {G:Gh}{w:World}{m:Mem} (h:MemOk G w m):∀ b o u,G.C b o u→w.cell? ⟨b,o,none⟩=some u∧u.oneCell'=true:=h.cok.cell

def Mine (G:Gh) (m:Mem) (b:Nat):Prop:=∃ k,m.live k∧G.E k=some b

structure Evo (G:Gh) (w:World) (m:Mem) (G':Gh) (w':World) (m':Mem):Prop where
 le:G.Le m.us G'
 fw:BelowX (Mine G m) w.heap.size w w'
 cn:∀ b o u,G'.C b o u→G.C b o u∨w.heap.size≤b∨Mine G m b
 lv:∀ b,Mine G' m' b→w.heap.size≤b∨Mine G m b
 us:∀ k,m.us k→m'.us k

structure En where
 w:World
 C:CellR
 X:Nat→Prop
 E:Nat→Option Nat
 cp:Nat→Nat
 ks:Nat→Prop
 sz:Nat
 Z:Nat→Prop:=fun _=>False
 Amb:World→Prop:=fun _=>True
 stab:∀ w w':World,(∀ b,Z b→w'.heap[b]?=w.heap[b]?)→Amb w→Amb w':=by intros;trivial

structure Sim (en:En) (fr:Nat→A) (m:Mem) (a:Act) (w:World) (G:Gh):Prop where
 ok:MemOk G w m
 rep:∀ t,RepA G (fr t) (a.tmps.getD t undef)
 kf:∀ t,(fr t).lt m.us
 sz:a.tmps.size=en.sz
 df:a.defers=[]
 fw:BelowX en.X en.w.heap.size en.w w
 c0:∀ b o u,en.C b o u→G.C b o u
 c1:∀ b o u,G.C b o u→b<en.w.heap.size→¬en.X b→en.C b o u
 lv:∀ b,Mine G m b→en.w.heap.size≤b∨en.X b
 e0:∀ k,en.ks k→G.E k=en.E k
 p0:∀ k,en.ks k→G.cp k=en.cp k
 ks:∀ k,en.ks k→m.us k
 am:en.Amb w
 az:∀ b,en.Z b→b<w.heap.size∧¬Mine G m b∧∀ o u,¬G.C b o u

def upd {α:Type} (f:Nat→α) (k:Nat) (v:α):Nat→α:=fun j=>if j=k then v else f j
@[simp] theorem upd_same {α:Type} (f:Nat→α) (k:Nat) (v:α):upd f k v k=v:=by simp [upd]
theorem upd_ne {α:Type} (f:Nat→α) {j k:Nat} (v:α) (h:j≠k):upd f k v j=f j:=by simp [upd,h]
def updD (f:Nat→A) (d:Option Nat) (v:A):Nat→A:=match d with
 | some d=>upd f d v
 | none=>f

mutual
theorem A.lt.mono {n n':Nat→Prop} (h:∀ k,n k→n' k):∀ (x:A),x.lt n→x.lt n'
 | .top,_=>by unfold A.lt;trivial
 | .d _,_=>by unfold A.lt;trivial
 | .ptr k _,hl=>by unfold A.lt at hl ⊢;exact h k hl
 | .own k _ _ _,hl=>by unfold A.lt at hl ⊢;exact h k hl
 | .arr k _ _,hl=>by unfold A.lt at hl ⊢;exact h k hl
 | .clo _ fs cs,hl=>by unfold A.lt at hl ⊢;exact ⟨A.ltL.mono h fs hl.1,A.ltL.mono h cs hl.2⟩
 | .ifc _ x,hl=>by unfold A.lt at hl ⊢;exact A.lt.mono h x hl
 | .agg cs,hl=>by unfold A.lt at hl ⊢;exact A.ltL.mono h cs hl
 | .tup cs,hl=>by unfold A.lt at hl ⊢;exact A.ltL.mono h cs hl
 | .dec _ _ _ _ ks,hl=>by unfold A.lt at hl ⊢;exact ⟨h _ hl.1,fun p hp=>h _ (hl.2 p hp)⟩
 | .sow k _ _ _ _,hl=>by unfold A.lt at hl ⊢;exact h k hl
theorem A.ltL.mono {n n':Nat→Prop} (h:∀ k,n k→n' k):∀ (x:List A),A.ltL n x→A.ltL n' x
 | [],_=>by unfold A.ltL;trivial
 | c::cs,hl=>by unfold A.ltL at hl ⊢;exact ⟨A.lt.mono h c hl.1,A.ltL.mono h cs hl.2⟩
end

theorem Sim.step {en:En}{fr:Nat→A}{m m':Mem}{a:Act}{w w':World}{G G':Gh} (h:Sim en fr m a w G) (he:Evo G w m G' w' m') (hm:MemOk G' w' m') {d:Option Nat}{v:A}{u:Value}
  (hd:∀ x,d=some x→x<en.sz) (hv:RepA G' v u) (hl:v.lt m'.us):Sim en (updD fr d v) m' (a.put d u) w' G':=by
 refine ⟨hm,?_,?_,?_,?_,?_,fun b o u' hc=>he.le.C _ _ _ (h.c0 b o u' hc),?_,?_,fun k hk=>(he.le.E k (h.ks k hk)).trans (h.e0 k hk),fun k hk=>(he.le.cp k (h.ks k hk)).trans (h.p0 k hk),fun k hk=>he.us k (h.ks k hk),en.stab w w' (fun b hb=>he.fw.block b (h.az b hb).1 (h.az b hb).2.1) h.am,fun b hb=>?_⟩
 ·intro t
  have old:RepA G' (fr t) (a.tmps.getD t undef):=RepA.mono he.le _ _ (h.kf t) (h.rep t)
  cases d with
  | none=>exact old
  | some x=>
   have hx:=hd x rfl
   rw [←h.sz] at hx
   by_cases ht:t=x
   ·subst ht
    simpa [updD,Act.put,hx] using hv
   ·have:(a.put (some x) u).tmps.getD t undef=a.tmps.getD t undef:=by
     have hxt:¬x=t:=fun e=>ht e.symm
     simp [Act.put,Array.getElem?_setIfInBounds,hxt]
    rw [this]
    simp only [updD]
    rw [upd_ne _ _ ht]
    exact old
 ·intro t
  have old:(fr t).lt m'.us:=A.lt.mono he.us _ (h.kf t)
  cases d with
  | none=>exact old
  | some x=>
   by_cases ht:t=x
   ·subst ht;simpa [updD] using hl
   ·simp only [updD];rw [upd_ne _ _ ht];exact old
 ·cases d<;>simp [Act.put,h.sz]
 ·cases d<;>simp [Act.put,h.df]
 ·refine ⟨he.fw.os.trans h.fw.os,he.fw.tape.trans h.fw.tape,he.fw.output.trans h.fw.output,Nat.le_trans h.fw.size he.fw.size,fun k hk hx=>?_⟩
  refine (he.fw.block k (Nat.lt_of_lt_of_le hk h.fw.size) fun hm=>?_).trans (h.fw.block k hk hx)
  rcases h.lv k hm with h1|h1
  ·omega
  ·exact hx h1
 ·intro b o u' hc hb hx
  rcases he.cn b o u' hc with h1|h1|h1
  ·exact h.c1 b o u' h1 hb hx
  ·have:=h.fw.size;omega
  ·rcases h.lv b h1 with h2|h2
   ·omega
   ·exact absurd h2 hx
 ·intro b hb
  rcases he.lv b hb with h1|h1
  ·exact .inl (Nat.le_trans h.fw.size h1)
  ·exact h.lv b h1
 ·obtain ⟨a1,a2,a3⟩:=h.az b hb
  refine ⟨Nat.lt_of_lt_of_le a1 he.fw.size,fun hm'=>?_,fun o u hc=>?_⟩
  ·rcases he.lv b hm' with h1|h1
   ·omega
   ·exact a2 h1
  ·rcases he.cn b o u hc with h1|h1|h1
   ·exact a3 o u h1
   ·omega
   ·exact a2 h1

theorem cell_lt {w:World}{b o:Nat}{u:Value} (h:w.cell? ⟨b,o,none⟩=some u):b<w.heap.size:=World.block_lt_of_cell? w ⟨b,o,none⟩ h

end Go.Proofs.YtaammoodcgfhpaaDoor.Eng
namespace Go.Proofs.YtaammoodcgfhpaaDoor.Eng
open Go Go.RowKit

/-! ### Reading what is represented -/
theorem RepL.get {C:CellR}:∀ {cs:List D}{us:List Value},RepL C cs us→cs.length=us.length∧∀ (i:Nat) c,cs[i]?=some c→∃ u,us[i]?=some u∧RepD C c u
 | [],us,h=>by
  unfold RepL at h
  subst h
  exact ⟨rfl,fun i c h=>by simp at h⟩
 | c::cs,us,h=>by
  unfold RepL at h
  obtain ⟨u,us',rfl,h1,h2⟩:=h
  obtain ⟨h3,h4⟩:=h2.get
  refine ⟨by simp [h3],fun i x hx=>?_⟩
  cases i with
  | zero=>exact ⟨u,rfl,by have:=Option.some.inj hx;subst this;exact h1⟩
  | succ i=>exact h4 i x hx
theorem RepL.drop {C:CellR}:∀ (n:Nat) {cs:List D}{us:List Value},RepL C cs us→RepL C (cs.drop n) (us.drop n)
 | 0,cs,us,h=>h
 | n+1,[],us,h=>by
  unfold RepL at h
  subst h
  unfold RepL
  rfl
 | n+1,c::cs,us,h=>by
  unfold RepL at h
  obtain ⟨u,us',rfl,h1,h2⟩:=h
  exact RepL.drop n h2
theorem RepL.take {C:CellR}:∀ (n:Nat) {cs:List D}{us:List Value},RepL C cs us→RepL C (cs.take n) (us.take n)
 | 0,cs,us,h=>by simp [RepL]
 | n+1,[],us,h=>by
  unfold RepL at h
  subst h
  unfold RepL
  rfl
 | n+1,c::cs,us,h=>by
  unfold RepL at h
  obtain ⟨u,us',rfl,h1,h2⟩:=h
  simp only [List.take_succ_cons]
  unfold RepL
  exact ⟨u,_,rfl,h1,RepL.take n h2⟩
theorem RepAL.get {G:Gh}:∀ {cs:List A}{us:List Value},RepAL G cs us→cs.length=us.length∧∀ (i:Nat) c,cs[i]?=some c→∃ u,us[i]?=some u∧RepA G c u
 | [],us,h=>by
  unfold RepAL at h
  subst h
  exact ⟨rfl,fun i c h=>by simp at h⟩
 | c::cs,us,h=>by
  unfold RepAL at h
  obtain ⟨u,us',rfl,h1,h2⟩:=h
  obtain ⟨h3,h4⟩:=h2.get
  refine ⟨by simp [h3],fun i x hx=>?_⟩
  cases i with
  | zero=>exact ⟨u,rfl,by have:=Option.some.inj hx;subst this;exact h1⟩
  | succ i=>exact h4 i x hx
theorem RepAL.drop {G:Gh}:∀ (n:Nat) {cs:List A}{us:List Value},RepAL G cs us→RepAL G (cs.drop n) (us.drop n)
 | 0,cs,us,h=>h
 | n+1,[],us,h=>by
  unfold RepAL at h
  subst h
  unfold RepAL
  rfl
 | n+1,c::cs,us,h=>by
  unfold RepAL at h
  obtain ⟨u,us',rfl,h1,h2⟩:=h
  exact RepAL.drop n h2
theorem RepAL.take {G:Gh}:∀ (n:Nat) {cs:List A}{us:List Value},RepAL G cs us→RepAL G (cs.take n) (us.take n)
 | 0,cs,us,h=>by simp [RepAL]
 | n+1,[],us,h=>by
  unfold RepAL at h
  subst h
  unfold RepAL
  rfl
 | n+1,c::cs,us,h=>by
  unfold RepAL at h
  obtain ⟨u,us',rfl,h1,h2⟩:=h
  simp only [List.take_succ_cons]
  unfold RepAL
  exact ⟨u,_,rfl,h1,RepAL.take n h2⟩
theorem RepCs.drop {C:CellR}:∀ (n:Nat) {cs:List D}{b o:Nat},RepCs C cs b o→RepCs C (cs.drop n) b (o+n)
 | 0,cs,b,o,h=>h
 | n+1,[],b,o,h=>by unfold RepCs;trivial
 | n+1,c::cs,b,o,h=>by
  unfold RepCs at h
  have:=RepCs.drop n h.2
  rw [List.drop_succ_cons,show o+(n+1)=o+1+n by omega]
  exact this
theorem RepCs.get {C:CellR}:∀ {cs:List D}{b o:Nat},RepCs C cs b o→∀ (i:Nat) c,cs[i]?=some c→∃ u,C b (o+i) u∧RepD C c u
 | [],b,o,h,i,c,hc=>by simp at hc
 | c::cs,b,o,h,i,x,hx=>by
  unfold RepCs at h
  cases i with
  | zero=>
   have:=Option.some.inj hx;subst this
   exact h.1
  | succ i=>
   obtain ⟨u,h1,h2⟩:=h.2.get i x hx
   exact ⟨u,by rw [show o+(i+1)=o+1+i by omega];exact h1,h2⟩
theorem RepCs.list {C:CellR}:∀ {cs:List D}{b o:Nat},RepCs C cs b o→∃ us,RepL C cs us∧∀ (i:Nat) u,us[i]?=some u→C b (o+i) u
 | [],b,o,h=>⟨[],by unfold RepL;rfl,fun i u h=>by simp at h⟩
 | c::cs,b,o,h=>by
  unfold RepCs at h
  obtain ⟨⟨u,h1,h2⟩,h3⟩:=h
  obtain ⟨us,h4,h5⟩:=h3.list
  refine ⟨u::us,by unfold RepL;exact ⟨u,us,rfl,h2,h4⟩,fun i v hv=>?_⟩
  cases i with
  | zero=>have:=Option.some.inj hv;subst this;exact h1
  | succ i=>rw [show o+(i+1)=o+1+i by omega];exact h5 i v hv
theorem RepEs.get {C:CellR}{z:Nat}:∀ {es:List (List D)}{b o:Nat},RepEs C z es b o→∀ (i:Nat) e,es[i]?=some e→e.length=z∧RepCs C e b (o+i*z)
 | [],b,o,h,i,c,hc=>by simp at hc
 | e::es,b,o,h,i,x,hx=>by
  unfold RepEs at h
  cases i with
  | zero=>
   have:=Option.some.inj hx;subst this
   exact ⟨h.1,by simpa using h.2.1⟩
  | succ i=>
   obtain ⟨h1,h2⟩:=h.2.2.get i x hx
   exact ⟨h1,by rw [show o+(i+1)*z=o+z+i*z by rw [Nat.add_mul];omega];exact h2⟩
theorem RepEs.drop {C:CellR}{z:Nat}:∀ (n:Nat) {es:List (List D)}{b o:Nat},RepEs C z es b o→RepEs C z (es.drop n) b (o+n*z)
 | 0,es,b,o,h=>by simpa using h
 | n+1,[],b,o,h=>by unfold RepEs;trivial
 | n+1,e::es,b,o,h=>by
  unfold RepEs at h
  have:=RepEs.drop n h.2.2
  rw [List.drop_succ_cons,show o+(n+1)*z=o+z+n*z by rw [Nat.add_mul];omega]
  exact this
theorem RepEs.take {C:CellR}{z:Nat}:∀ (n:Nat) {es:List (List D)}{b o:Nat},RepEs C z es b o→RepEs C z (es.take n) b o
 | 0,es,b,o,h=>by unfold RepEs;trivial
 | n+1,[],b,o,h=>by unfold RepEs;trivial
 | n+1,e::es,b,o,h=>by
  unfold RepEs at h
  simp only [List.take_succ_cons]
  unfold RepEs
  exact ⟨h.1,h.2.1,RepEs.take n h.2.2⟩
theorem ltL_get {n:Nat→Prop}:∀ {cs:List A},A.ltL n cs→∀ (i:Nat) c,cs[i]?=some c→A.lt n c
 | [],_,i,c,hc=>by simp at hc
 | c::cs,h,i,x,hx=>by
  unfold A.ltL at h
  cases i with
  | zero=>have:=Option.some.inj hx;subst this;exact h.1
  | succ i=>exact ltL_get h.2 i x hx
theorem ltL_drop {n:Nat→Prop}:∀ (k:Nat) {cs:List A},A.ltL n cs→A.ltL n (cs.drop k)
 | 0,cs,h=>h
 | k+1,[],h=>h
 | k+1,c::cs,h=>by unfold A.ltL at h;exact ltL_drop k h.2
theorem ltL_take {n:Nat→Prop}:∀ (k:Nat) {cs:List A},A.ltL n cs→A.ltL n (cs.take k)
 | 0,cs,h=>by unfold A.ltL;trivial
 | k+1,[],h=>h
 | k+1,c::cs,h=>by
  unfold A.ltL at h
  simp only [List.take_succ_cons]
  unfold A.ltL
  exact ⟨h.1,ltL_take k h.2⟩

/-! ### Aggregates -/
def allD:List A→Option (List D)
 | []=>some []
 | .d x::cs=>(allD cs).map (x::·)
 | _::_=>none
def mkAgg (cs:List A):A:=match allD cs with
 | some ds=>.d (.agg ds)
 | none=>.agg cs
def mkTup (cs:List A):A:=match allD cs with
 | some ds=>.d (.tup ds)
 | none=>.tup cs
theorem allD_rep {G:Gh}:∀ {cs:List A}{ds:List D}{us:List Value},allD cs=some ds→(RepAL G cs us↔RepL G.C ds us)
 | [],ds,us,h=>by simp [allD] at h;subst h;simp [RepAL,RepL]
 | .d x::cs,ds,us,h=>by
  simp only [allD,Option.map_eq_some_iff] at h
  obtain ⟨ds',h1,rfl⟩:=h
  unfold RepAL RepL
  constructor
  ·rintro ⟨u,us',rfl,h2,h3⟩
   exact ⟨u,us',rfl,by unfold RepA at h2;exact h2,(allD_rep h1).1 h3⟩
  ·rintro ⟨u,us',rfl,h2,h3⟩
   exact ⟨u,us',rfl,by unfold RepA;exact h2,(allD_rep h1).2 h3⟩
 | .top::cs,ds,us,h=>by simp [allD] at h
 | .ptr _ _::cs,ds,us,h=>by simp [allD] at h
 | .own _ _ _ _::cs,ds,us,h=>by simp [allD] at h
 | .arr _ _ _::cs,ds,us,h=>by simp [allD] at h
 | .clo _ _ _::cs,ds,us,h=>by simp [allD] at h
 | .ifc _ _::cs,ds,us,h=>by simp [allD] at h
 | .agg _::cs,ds,us,h=>by simp [allD] at h
 | .tup _::cs,ds,us,h=>by simp [allD] at h
 | .dec _ _ _ _ _::cs,ds,us,h=>by simp [allD] at h
 | .sow _ _ _ _ _::cs,ds,us,h=>by simp [allD] at h
theorem mkAgg_rep {G:Gh}{cs:List A}{us:List Value} (h:RepAL G cs us) (h1:∀ x∈us,x.oneCell'=true):RepA G (mkAgg cs) (.agg ⟨us⟩):=by
 unfold mkAgg
 split
 ·rename_i ds hd
  unfold RepA RepD
  exact ⟨us,rfl,(allD_rep hd).1 h,h1⟩
 ·unfold RepA
  exact ⟨us,rfl,h,h1⟩
theorem mkTup_rep {G:Gh}{cs:List A}{us:List Value} (h:RepAL G cs us):RepA G (mkTup cs) (.tuple ⟨us⟩):=by
 unfold mkTup
 split
 ·rename_i ds hd
  unfold RepA RepD
  exact ⟨us,rfl,(allD_rep hd).1 h⟩
 ·unfold RepA
  exact ⟨us,rfl,h⟩
theorem mkAgg_lt {n:Nat→Prop}{cs:List A} (h:A.ltL n cs):(mkAgg cs).lt n:=by
 unfold mkAgg
 split<;>unfold A.lt
 ·trivial
 ·exact h
theorem mkTup_lt {n:Nat→Prop}{cs:List A} (h:A.ltL n cs):(mkTup cs).lt n:=by
 unfold mkTup
 split<;>unfold A.lt
 ·trivial
 ·exact h
def cellsOfA:A→Option (List A)
 | .d (.agg cs)=>some (cs.map .d)
 | .agg cs=>some cs
 | _=>none
theorem RepL_map {G:Gh}:∀ {cs:List D}{us:List Value},RepL G.C cs us→RepAL G (cs.map .d) us
 | [],us,h=>by unfold RepL at h;simp only [List.map_nil];unfold RepAL;exact h
 | c::cs,us,h=>by
  unfold RepL at h
  obtain ⟨u,us',h1,h2,h3⟩:=h
  simp only [List.map_cons]
  unfold RepAL
  exact ⟨u,us',h1,by unfold RepA;exact h2,RepL_map h3⟩
theorem ltL_map {n:Nat→Prop}:∀ (cs:List D),A.ltL n (cs.map .d)
 | []=>by unfold A.ltL;trivial
 | c::cs=>by simp only [List.map_cons];unfold A.ltL;exact ⟨by unfold A.lt;trivial,ltL_map cs⟩
theorem cellsOfA_rep {G:Gh}{x:A}{cs:List A}{u:Value} (h:cellsOfA x=some cs) (hr:RepA G x u):∃ us,u=.agg ⟨us⟩∧RepAL G cs us∧∀ x∈us,x.oneCell'=true:=by
 unfold cellsOfA at h
 split at h
 ·have:=Option.some.inj h;subst this
  unfold RepA RepD at hr
  obtain ⟨us,h1,h2,h3⟩:=hr
  exact ⟨us,h1,RepL_map h2,h3⟩
 ·have:=Option.some.inj h;subst this
  unfold RepA at hr
  exact hr
 ·cases h
theorem cellsOfA_lt {n:Nat→Prop}{x:A}{cs:List A} (h:cellsOfA x=some cs) (hl:x.lt n):A.ltL n cs:=by
 unfold cellsOfA at h
 split at h
 ·have:=Option.some.inj h;subst this
  exact ltL_map _
 ·have:=Option.some.inj h;subst this
  unfold A.lt at hl
  exact hl
 ·cases h

/-! ### Types -/
def aggDesc:TypeDesc→Bool
 | .struct _|.array _ _=>true
 | _=>false
def tyK (P:Program) (t:TypeId):Option (Bool × Nat):=match P.underlying t,P.info? t with
 | some d,some i=>some (aggDesc d,i.size)
 | _,_=>none
def tyField (P:Program) (t:TypeId) (f:Nat):Option (Nat × TypeId):=match P.underlying t with
 | some (.struct fs)=>(fs[f]?).map fun x=>(x.offset,x.type)
 | _=>none
def tyElem (P:Program) (t:TypeId):Option TypeId:=match P.underlying t with
 | some (.slice e)=>some e
 | _=>none
theorem tyK_run {P:Program}{t:TypeId}{g:Bool}{n:Nat} (h:tyK P t=some (g,n)) (w:World):(sizeOf t).run P w=.ok n w∧(isAgg t).run P w=.ok g w:=by
 unfold tyK at h
 split at h
 ·rename_i d i hd hi
  simp only [Option.some.injEq,Prod.mk.injEq] at h
  obtain ⟨h1,h2⟩:=h
  refine ⟨by simp [sizeOf,typeInfo,hi,h2],?_⟩
  simp only [isAgg,Sem.run_bind,run_underlying hd,Result.andThen_ok]
  rw [←h1]
  cases d<;>rfl
 ·cases h
theorem tyField_run {P:Program}{t:TypeId}{f off:Nat}{ft:TypeId} (h:tyField P t f=some (off,ft)):∃ fs fd,P.underlying t=some (.struct fs)∧fs[f]?=some fd∧fd.offset=off∧fd.type=ft:=by
 unfold tyField at h
 split at h
 ·rename_i fs hd
  simp only [Option.map_eq_some_iff,Prod.mk.injEq] at h
  obtain ⟨fd,h1,h2,h3⟩:=h
  exact ⟨fs,fd,hd,h1,h2,h3⟩
 ·cases h
theorem tyElem_run {P:Program}{t e:TypeId} (h:tyElem P t=some e):P.underlying t=some (.slice e):=by
 unfold tyElem at h
 split at h
 ·rename_i x hd
  have:=Option.some.inj h;subst this
  exact hd
 ·cases h

end Go.Proofs.YtaammoodcgfhpaaDoor.Eng
namespace Go.Proofs.YtaammoodcgfhpaaDoor.Eng
open Go Go.RowKit

/-! ### A new variable -/
def oneA:A→Bool
 | .d (.v x)=>x.oneCell'
 | .d (.sl _ _)|.d (.rp _)|.d (.ifc _ _)|.d (.iv _ (.sl _ _))|.d (.sp _ _)|.d (.iv _ (.sp _ _))|.ptr _ _|.own _ _ _ _|.arr _ _ _|.clo _ _ _|.ifc _ _|.dec _ _ _ _ _|.sow _ _ _ _ _=>true
 | _=>false
def cells1 (x:A):Option (List A):=match cellsOfA x with
 | some cs=>some cs
 | none=>match oneA x with
  | true=>some [x]
  | false=>none
theorem oneA_rep {G:Gh}{x:A}{u:Value} (h:oneA x=true) (hr:RepA G x u):u.oneCell'=true:=by
 unfold oneA at h
 split at h
 ·unfold RepA RepD at hr;subst hr;exact h
 ·unfold RepA RepD at hr;obtain ⟨_,_,rfl,_⟩:=hr;rfl
 ·unfold RepA RepD at hr;obtain ⟨_,_,rfl,_⟩:=hr;rfl
 ·unfold RepA RepD at hr;obtain ⟨_,rfl,_⟩:=hr;rfl
 ·unfold RepA RepD RepD at hr;obtain ⟨_,_,rfl,_⟩:=hr;rfl
 ·unfold RepA RepD at hr;obtain ⟨_,_,rfl,_⟩:=hr;rfl
 ·unfold RepA RepD RepD at hr;obtain ⟨_,_,rfl,_⟩:=hr;rfl
 ·unfold RepA at hr;obtain ⟨_,_,rfl⟩:=hr;rfl
 ·unfold RepA at hr;rcases hr with ⟨_,_,rfl⟩|⟨_,_,rfl,_⟩<;>rfl
 ·unfold RepA at hr;obtain ⟨_,_,_,rfl,_⟩:=hr;rfl
 ·unfold RepA at hr;obtain ⟨_,_,rfl,_⟩:=hr;rfl
 ·unfold RepA at hr;obtain ⟨_,rfl,_⟩:=hr;rfl
 ·unfold RepA at hr;obtain ⟨_,_,rfl,_⟩:=hr;rfl
 ·unfold RepA at hr;rcases hr with ⟨_,_,rfl⟩|⟨_,_,_,rfl,_⟩<;>rfl
 ·cases h
theorem cells1_rep {G:Gh}{x:A}{cs:List A}{u:Value} (h:cells1 x=some cs) (hr:RepA G x u):∃ us,u.cells=⟨us⟩∧RepAL G cs us∧∀ x∈us,x.oneCell'=true:=by
 unfold cells1 at h
 split at h
 ·rename_i cs' hc
  have:=Option.some.inj h;subst this
  obtain ⟨us,rfl,h1,h2⟩:=cellsOfA_rep hc hr
  exact ⟨us,rfl,h1,h2⟩
 ·split at h
  ·rename_i ho
   have:=Option.some.inj h;subst this
   have h1:=oneA_rep ho hr
   refine ⟨[u],?_,by unfold RepAL;exact ⟨u,[],rfl,hr,by unfold RepAL;rfl⟩,fun y hy=>by rw [List.mem_singleton] at hy;subst hy;exact h1⟩
   cases u<;>first|rfl|(simp [Value.oneCell'] at h1)
  ·cases h
theorem cells1_lt {n:Nat→Prop}{x:A}{cs:List A} (h:cells1 x=some cs) (hl:x.lt n):A.ltL n cs:=by
 unfold cells1 at h
 split at h
 ·rename_i cs' hc
  have:=Option.some.inj h;subst this
  exact cellsOfA_lt hc hl
 ·split at h
  ·have:=Option.some.inj h;subst this
   unfold A.ltL
   exact ⟨hl,by unfold A.ltL;trivial⟩
  ·cases h

def tyZero (P:Program) (t:TypeId):Option (List Value):=(P.info? t).bind fun i=>i.zero.bind fun z=>match z.cells.toList.all Value.oneCell' with
 | true=>some z.cells.toList
 | false=>none
theorem tyZero_run {P:Program}{t:TypeId}{zs:List Value} (h:tyZero P t=some zs) (w:World):∃ z,(zeroValue t).run P w=.ok z w∧z.cells=⟨zs⟩∧∀ x∈zs,x.oneCell'=true:=by
 unfold tyZero at h
 cases hi:P.info? t with
 | none=>rw [hi] at h;cases h
 | some i=>
  rw [hi] at h
  simp only [Option.bind_some] at h
  cases hz:i.zero with
  | none=>rw [hz] at h;cases h
  | some z=>
   rw [hz] at h
   simp only [Option.bind_some] at h
   split at h
   ·rename_i ha
    have:=Option.some.inj h;subst this
    exact ⟨z,by simp [zeroValue,typeInfo,hi,hz],rfl,List.all_eq_true.1 ha⟩
   ·cases h
theorem RepAL_v {G:Gh}:∀ (l:List Value),RepAL G (l.map fun x=>A.d (.v x)) l
 | []=>by simp [RepAL]
 | x::l=>by
  simp only [List.map_cons]
  unfold RepAL
  exact ⟨x,l,rfl,by unfold RepA RepD;rfl,RepAL_v l⟩
theorem ltL_v {n:Nat→Prop}:∀ (l:List Value),A.ltL n (l.map fun x=>A.d (.v x))
 | []=>by unfold A.ltL;trivial
 | x::l=>by simp only [List.map_cons];unfold A.ltL;exact ⟨by unfold A.lt;trivial,ltL_v l⟩
theorem RepAL.append {G:Gh}:∀ {xs ys:List A}{us vs:List Value},RepAL G xs us→RepAL G ys vs→RepAL G (xs++ys) (us++vs)
 | [],ys,us,vs,h,k=>by
  unfold RepAL at h
  subst h
  exact k
 | x::xs,ys,us,vs,h,k=>by
  unfold RepAL at h
  obtain ⟨u,us',rfl,h1,h2⟩:=h
  simp only [List.cons_append]
  unfold RepAL
  exact ⟨u,_,rfl,h1,RepAL.append h2 k⟩
theorem ltL_append {n:Nat→Prop}:∀ {xs ys:List A},A.ltL n xs→A.ltL n ys→A.ltL n (xs++ys)
 | [],ys,_,k=>k
 | x::xs,ys,h,k=>by
  unfold A.ltL at h
  simp only [List.cons_append]
  unfold A.ltL
  exact ⟨h.1,ltL_append h.2 k⟩
def splice (cs xs:List A) (o:Nat):List A:=cs.take o++xs++cs.drop (o+xs.length)

def tyPlaces (P:Program) (t:TypeId):Option (List (Nat × Nat)):=match P.underlying t with
 | some (.struct fs)=>fs.toList.mapM fun f=>(P.info? f.type).map fun i=>(f.offset,i.size)
 | some (.array n e)=>(P.info? e).map fun i=>(List.range n).map fun j=>(j*i.size,i.size)
 | _=>none
theorem fill_mono {f g:Nat→Option (Nat × Nat)} (h:∀ i x,f i=some x→g i=some x):∀ (ps:List (Nat × Value)) (cs us:Array Value),Instr.fill f cs ps=some us→Instr.fill g cs ps=some us
 | [],cs,us,k=>k
 | (i,v)::ps,cs,us,k=>by
  unfold Instr.fill at k ⊢
  split at k
  ·cases k
  ·rename_i off size hp
   rw [h i _ hp]
   simp only
   split at k
   ·cases k
   ·rename_i hc
    rw [if_neg hc]
    exact fill_mono h ps _ us k
theorem tyPlaces_run {P:Program}{t:TypeId}{pl:List (Nat × Nat)} (h:tyPlaces P t=some pl) (w:World):(∃ fs,P.underlying t=some (.struct fs)∧(fs.mapM fun f=>do pure (f.offset,←sizeOf f.type):Sem (Array (Nat × Nat))).run P w=.ok ⟨pl⟩ w)∨
  ∃ n e i,P.underlying t=some (.array n e)∧P.info? e=some i∧pl=(List.range n).map fun j=>(j*i.size,i.size):=by
 unfold tyPlaces at h
 split at h
 ·rename_i fs hu
  refine .inl ⟨fs,hu,?_⟩
  rw [Array.mapM_eq_mapM_toList]
  have key:∀ (l:List Field) (pl:List (Nat × Nat)),(l.mapM fun f=>(P.info? f.type).map fun i=>(f.offset,i.size))=some pl→(l.mapM fun f=>do pure (f.offset,←sizeOf f.type):Sem (List (Nat × Nat))).run P w=.ok pl w:=by
   intro l
   induction l with
   | nil=>intro pl h;simp at h;subst h;simp
   | cons f l ih=>
    intro pl h
    rw [List.mapM_cons] at h
    cases hi:P.info? f.type with
    | none=>rw [hi] at h;simp at h
    | some i=>
     rw [hi] at h
     cases hl:(l.mapM fun f=>(P.info? f.type).map fun i=>(f.offset,i.size)) with
     | none=>rw [hl] at h;simp at h
     | some pl'=>
      rw [hl] at h
      simp at h
      subst h
      have h1:(do pure (f.offset,←sizeOf f.type):Sem (Nat × Nat)).run P w=.ok (f.offset,i.size) w:=by simp [sizeOf,typeInfo,hi]
      rw [List.mapM_cons,Sem.run_bind,h1,Result.andThen_ok,Sem.run_bind,ih pl' hl]
      rfl
  have:=key fs.toList pl h
  simp only [Sem.run_map,this]
  rfl
 ·rename_i n e hu
  simp only [Option.map_eq_some_iff] at h
  obtain ⟨i,hi,rfl⟩:=h
  exact .inr ⟨n,e,i,hu,hi,rfl⟩
 ·cases h

theorem fill_one (off:Nat) (cells vc:Array Value) (h:off+vc.size≤cells.size):vc.zipIdx.foldl (fun cs (x:Value × Nat)=>cs.setIfInBounds (off+x.2) x.1) cells=(cells.toList.take off++vc.toList++cells.toList.drop (off+vc.size)).toArray:=by
 have hf:∀ (l:List Value) (j:Nat) (cs:Array Value),off+j+l.length≤cs.size→(l.zipIdx j).foldl (fun cs (x:Value × Nat)=>cs.setIfInBounds (off+x.2) x.1) cs=(cs.toList.take (off+j)++l++cs.toList.drop (off+j+l.length)).toArray:=by
  intro l
  induction l with
  | nil=>intro j cs _;simp
  | cons x l ih=>
   intro j cs hc
   simp only [List.zipIdx_cons,List.foldl_cons]
   rw [ih (j+1) _ (by simp at hc ⊢;omega)]
   congr 1
   simp only [Array.toList_setIfInBounds]
   simp only [List.length_cons] at hc
   have:=list_seg_step cs.toList (off+j) x l (by simp;omega)
   rw [show off+(j+1)=off+j+1 by omega,this]
   rfl
 have:=hf vc.toList 0 cells (by simp;omega)
 rw [←Array.foldl_toList,Array.toList_zipIdx]
 simpa using this

def buildGo (pl:List (Nat × Nat)):List (Nat × A)→List A→Option (List A)
 | [],cs=>some cs
 | (i,x)::l,cs=>match pl[i]?,cells1 x with
  | some (off,size),some xs=>match decide (xs.length=size∧off+size≤cs.length) with
   | true=>buildGo pl l (splice cs xs off)
   | false=>none
  | _,_=>none
def buildV (P:Program) (t:TypeId) (ps:List (Nat × A)) (K:A→Prop):Prop:=∃ zs pl cs,tyZero P t=some zs∧tyPlaces P t=some pl∧buildGo pl ps (zs.map fun x=>.d (.v x))=some cs∧K (mkAgg cs)

theorem buildGo_run {G:Gh}{pl:List (Nat × Nat)}{ρ:Operand→A}{a:Act} (hr:∀ x,RepA G (ρ x) (a.eval x)):∀ {ps:List (Nat × Operand)}{cs rs:List A}{vs:List Value},buildGo pl (ps.map fun p=>(p.1,ρ p.2)) cs=some rs→RepAL G cs vs→(∀ x∈vs,x.oneCell'=true)→
  ∃ us,Instr.fill (fun i=>(⟨pl⟩:Array (Nat × Nat))[i]?) ⟨vs⟩ (ps.map fun p=>(p.1,a.eval p.2))=some ⟨us⟩∧RepAL G rs us∧∀ x∈us,x.oneCell'=true
 | [],cs,rs,vs,h,hv,h1=>by
  simp only [List.map_nil,buildGo,Option.some.injEq] at h
  subst h
  exact ⟨vs,rfl,hv,h1⟩
 | (i,x)::ps,cs,rs,vs,h,hv,h1=>by
  simp only [List.map_cons,buildGo] at h
  split at h
  ·rename_i off size xs hp hx
   split at h
   ·rename_i hd
    rw [decide_eq_true_eq] at hd
    obtain ⟨rfl,hd⟩:=hd
    obtain ⟨us,hu,hu1,hu2⟩:=cells1_rep hx (hr x)
    have l1:=hu1.get.1
    have l2:=hv.get.1
    have hstep:=fill_one off ⟨vs⟩ ⟨us⟩ (by simp;omega)
    have hrep:RepAL G (splice cs xs off) (vs.take off++us++vs.drop (off+us.length)):=by
     unfold splice
     rw [l1]
     exact RepAL.append (RepAL.append (RepAL.take _ hv) hu1) (RepAL.drop _ hv)
    obtain ⟨ws,k1,k2,k3⟩:=buildGo_run hr h hrep (fun y hy=>by
     rcases List.mem_append.1 hy with hy|hy
     ·rcases List.mem_append.1 hy with hy|hy
      ·exact h1 y (List.mem_of_mem_take hy)
      ·exact hu2 y hy
     ·exact h1 y (List.mem_of_mem_drop hy))
    refine ⟨ws,?_,k2,k3⟩
    simp only [List.map_cons,Instr.fill]
    have hp':(⟨pl⟩:Array (Nat × Nat))[i]?=some (off,xs.length):=by simpa using hp
    rw [hp',hu]
    simp only [List.size_toArray]
    rw [if_neg (fun hh=>by
     rw [Bool.or_eq_true,decide_eq_true_eq,decide_eq_true_eq] at hh
     rcases hh with hh|hh
     ·exact hh l1.symm
     ·omega)]
    rw [←k1]
    congr 1
   ·cases h
  ·cases h
theorem buildGo_lt {n:Nat→Prop}{pl:List (Nat × Nat)}{ρ:Operand→A} (hl:∀ x,(ρ x).lt n):∀ {ps:List (Nat × Operand)}{cs rs:List A},buildGo pl (ps.map fun p=>(p.1,ρ p.2)) cs=some rs→A.ltL n cs→A.ltL n rs
 | [],cs,rs,h,hc=>by
  simp only [List.map_nil,buildGo,Option.some.injEq] at h
  subst h
  exact hc
 | (i,x)::ps,cs,rs,h,hc=>by
  simp only [List.map_cons,buildGo] at h
  split at h
  ·rename_i off size xs hp hx
   split at h
   ·exact buildGo_lt hl h (ltL_append (ltL_append (ltL_take _ hc) (cells1_lt hx (hl x))) (ltL_drop _ hc))
   ·cases h
  ·cases h
end Go.Proofs.YtaammoodcgfhpaaDoor.Eng
namespace Go.Proofs.YtaammoodcgfhpaaDoor.Eng
open Go Go.RowKit

def cA:Value→A
 | .agg cs=>if cs.toList.all Value.oneCell' then .d (.agg (cs.toList.map .v)) else .d (.v (.agg cs))
 | v=>.d (.v v)
def evG (g:Nat):A:=match gOk g with
 | true=>.d (.rp [.gl g])
 | false=>.top
def ev (fr:Nat→A):Operand→A
 | .tmp t=>fr t
 | .const v=>cA v
 | .func f=>.d (.v (.func (.func f) #[] #[]))
 | .global g=>evG g
theorem evG_t:(True∧True)=True:=by simp
theorem RepL_v {C:CellR}:∀ (l:List Value),RepL C (l.map .v) l
 | []=>by simp [RepL]
 | x::l=>by
  simp only [List.map_cons]
  unfold RepL
  exact ⟨x,l,rfl,by unfold RepD;rfl,RepL_v l⟩
theorem cA_rep (G:Gh) (v:Value):RepA G (cA v) v:=by
 unfold cA
 split
 ·rename_i cs
  split
  ·rename_i h
   unfold RepA RepD
   refine ⟨cs.toList,rfl,RepL_v _,fun x hx=>?_⟩
   exact List.all_eq_true.1 h x hx
  ·unfold RepA RepD
   rfl
 ·unfold RepA RepD
  rfl
theorem cA_lt (n:Nat→Prop) (v:Value):(cA v).lt n:=by
 unfold cA
 split
 ·split<;>(unfold A.lt;trivial)
 ·unfold A.lt;trivial
theorem ev_rep {G:Gh}{fr:Nat→A}{a:Act} (hgl:GL G.C) (h:∀ t,RepA G (fr t) (a.tmps.getD t undef)):∀ x,RepA G (ev fr x) (a.eval x)
 | .tmp t=>h t
 | .const v=>cA_rep G v
 | .func f=>by unfold ev RepA RepD;rfl
 | .global g=>by
  show RepA G (evG g) (a.eval (.global g))
  unfold evG
  split
  case h_2=>unfold RepA;trivial
  case h_1 hg=>
   obtain ⟨u,hu⟩:=hgl.get hg
   unfold RepA RepD
   refine ⟨g,0,rfl,?_⟩
   unfold RepCs
   exact ⟨⟨u,hu,by unfold RepD;exact hu⟩,by unfold RepCs;trivial⟩
theorem ev_lt {n:Nat→Prop}{fr:Nat→A} (h:∀ t,(fr t).lt n):∀ x,(ev fr x).lt n
 | .tmp t=>h t
 | .const v=>cA_lt n v
 | .func f=>by unfold ev A.lt;trivial
 | .global g=>by
  show (evG g).lt n
  unfold evG
  split<;>(unfold A.lt;trivial)

/-! ### What each makes -/
def pickV (c x y:A) (K:A→Prop):Prop:=match c with
 | .d (.v (.bool b))=>(b=true→K x)∧(b=false→K y)
 | _=>False
def nilV (x:A) (K:A→Prop):Prop:=match x with
 | .ptr k o=>K (.ptr k o)
 | .d (.rp cs)=>K (.d (.rp cs))
 | _=>False
def extV (x:A) (i:Nat) (K:A→Prop):Prop:=match x with
 | .tup cs=>∃ c,cs[i]?=some c∧K c
 | .d (.tup cs)=>∃ c,cs[i]?=some c∧K (.d c)
 | _=>False
def partA (k:Option (Bool × Nat)) (cs:List A) (K:A→Prop):Prop:=match k with
 | some (true,n)=>n≤cs.length∧K (mkAgg (cs.take n))
 | some (false,_)=>match cs with
  | c::_=>K c
  | []=>False
 | none=>False
def fieldV (P:Program) (t:TypeId) (f:Nat) (x:A) (K:A→Prop):Prop:=match tyField P t f,cellsOfA x with
 | some (off,ft),some cs=>partA (tyK P ft) (cs.drop off) K
 | _,_=>False
def faddrV (P:Program) (t:TypeId) (f:Nat) (x:A) (K:A→Prop):Prop:=match tyField P t f with
 | some (off,ft)=>(∃ g n,tyK P ft=some (g,n+1))∧match x with
  | .ptr k o=>K (.ptr k (o+off))
  | .d (.rp cs)=>K (.d (.rp (cs.drop off)))
  | _=>False
 | none=>False
def elemsOf:A→Option (Nat × List (List D))
 | .d (.sl z es)=>some (z,es)
 | .own _ _ z es=>some (z,es)
 | .d (.iv _ (.sl z es))=>some (z,es)
 | _=>none
def intA:A→Option (IntKind × Int)
 | .d (.v (.int k n))=>some (k,n)
 | _=>none
def iaddrV (P:Program) (t:TypeId) (x i:A) (K:A→Prop):Prop:=match tyElem P t,elemsOf x,intA i with
 | some e,some (z,es),some (_,n)=>(∃ g,tyK P e=some (g,z))∧0≤n∧∃ c,es[n.toNat]?=some c∧K (.d (.rp c))
 | _,_,_=>False
def tyArr (P:Program) (t:TypeId):Option (TypeId × Nat):=match P.underlying t with
 | some (.array m e)=>some (e,m)
 | _=>none
theorem tyArr_run {P:Program}{t e:TypeId}{m:Nat} (h:tyArr P t=some (e,m)):P.underlying t=some (.array m e):=by
 unfold tyArr at h
 split at h
 ·rename_i m' e' hd
  simp only [Option.some.injEq,Prod.mk.injEq] at h
  obtain ⟨rfl,rfl⟩:=h
  exact hd
 ·cases h
def arrV (P:Program) (t:TypeId) (x i:A) (K:A→Prop):Prop:=match x with
 | .arr k z m=>match tyElem P t,intA i with
  | some e,some (_,n)=>(∃ g,tyK P e=some (g,z))∧0<z∧0≤n∧n<m∧K (.ptr k (n.toNat*z))
  | _,_=>False
 | .ptr k off=>match tyArr P t,intA i with
  | some (e,m),some (_,n)=>(∃ g,tyK P e=some (g,1))∧0≤n∧n<m∧K (.ptr k (off+n.toNat))
  | _,_=>False
 | _=>False
def indexV (P:Program) (t:TypeId) (x i:A) (K:A→Prop):Prop:=match x,intA i with
 | .d (.v (.string s)),some (_,n)=>P.underlying t=some .string∧0≤n∧∃ c:UInt8,s[n.toNat]?=some c∧K (.d (.v (.int .u8 c.toNat)))
 | _,_=>False
def loadV (P:Program) (bx:Nat→Option (List A)) (t:TypeId) (x:A) (K:A→Prop):Prop:=match x with
 | .ptr k o=>match bx k with
  | some cs=>partA (tyK P t) (cs.drop o) K
  | none=>False
 | .d (.rp cs)=>partA (tyK P t) (cs.map .d) K
 | _=>False
def bndA (d:Int):Option A→Option Int
 | none=>some d
 | some (.d (.v (.int _ n)))=>some n
 | _=>none
def lenA:A→Option Nat
 | .d (.sl _ es)=>some es.length
 | .own _ _ _ es=>some es.length
 | .arr _ _ n=>some n
 | .d (.v (.slice none 0 0))=>some 0
 | .d (.v (.string s))=>some s.size
 | .d (.iv _ (.sl _ es))=>some es.length
 | .dec _ _ _ es _=>some es.length
 | .sow _ _ _ es _=>some es.length
 | _=>none
def cutA (x:A) (l h:Nat):A:=match x with
 | .d (.sl z es)=>.d (.sl z ((es.drop l).take (h - l)))
 | .own _ _ z es=>.d (.sl z ((es.drop l).take (h - l)))
 | .d (.v (.string s))=>.d (.v (.string (s.extract l h)))
 | x=>x
def sliceV (P:Program) (t:TypeId) (x:A) (lo hi mx:Option A) (K:A→Prop):Prop:=mx=none∧match x with
 | .d (.v (.string s))=>P.underlying t=some .string∧∃ l h,bndA 0 lo=some l∧bndA s.size hi=some h∧0≤l∧l≤h∧h≤s.size∧K (.d (.v (.string (s.extract l.toNat h.toNat))))
 | x=>match elemsOf x,tyElem P t with
  | some (z,es),some e=>(∃ g,tyK P e=some (g,z))∧∃ l h,bndA 0 lo=some l∧bndA es.length hi=some h∧0≤l∧l≤h∧h≤es.length∧K (.d (.sl z ((es.drop l.toNat).take (h.toNat - l.toNat))))
  | _,_=>False
def iBin (op:BinOp) (k:IntKind) (a b:Int) (K:A→Prop):Prop:=match op with
 | .add=>K (.d (.v (.int k (k.wrap (a+b)))))
 | .sub=>K (.d (.v (.int k (k.wrap (a - b)))))
 | .mul=>K (.d (.v (.int k (k.wrap (a*b)))))
 | .quo=>b≠0∧K (.d (.v (.int k (k.wrap (a.tdiv b)))))
 | .rem=>b≠0∧K (.d (.v (.int k (a.tmod b))))
 | .and=>K (.d (.v (.int k (k.wrap (BitVec.ofInt k.bits a &&& BitVec.ofInt k.bits b).toNat))))
 | .or=>K (.d (.v (.int k (k.wrap (BitVec.ofInt k.bits a ||| BitVec.ofInt k.bits b).toNat))))
 | .xor=>K (.d (.v (.int k (k.wrap (BitVec.ofInt k.bits a ^^^ BitVec.ofInt k.bits b).toNat))))
 | .eql=>K (.d (.v (.bool (a==b))))
 | .neq=>K (.d (.v (.bool (a != b))))
 | .lss=>K (.d (.v (.bool (decide (a<b)))))
 | .leq=>K (.d (.v (.bool (decide (a≤b)))))
 | .gtr=>K (.d (.v (.bool (decide (b<a)))))
 | .geq=>K (.d (.v (.bool (decide (b≤a)))))
 | _=>False
def sBin (op:BinOp) (a b:ByteArray) (K:A→Prop):Prop:=match op with
 | .add=>a.size+b.size≤9223372036854775807∧K (.d (.v (.string (a++b))))
 | .eql=>K (.d (.v (.bool (decide (a=b)))))
 | .neq=>K (.d (.v (.bool (!decide (a=b)))))
 | _=>False
def isShift:BinOp→Bool
 | .shl|.shr=>true
 | _=>false
def shV (op:BinOp) (k:IntKind) (a b:Int) (K:A→Prop):Prop:=0≤b∧match op with
 | .shl=>K (.d (.v (.int k (k.wrap (a*2 ^ (min b.toNat k.bits))))))
 | .shr=>K (.d (.v (.int k (a.fdiv (2 ^ (min b.toNat k.bits))))))
 | _=>False
def isNil (P:Program) (t:TypeId):A→Option (Bool × Value)
 | .d (.v .nilIface)=>match P.underlying t with|some (.interface _)=>some (true,.nilIface)|_=>none
 | .d (.ifc _ _)=>match P.underlying t with|some (.interface _)=>some (false,.nilIface)|_=>none
 | .d (.v (.slice none 0 0))=>match P.underlying t with|some (.slice _)=>some (true,.slice none 0 0)|_=>none
 | .d (.v (.pointer none))=>match P.underlying t with|some (.pointer _)=>some (true,.pointer none)|_=>none
 | .d (.rp _)=>match P.underlying t with|some (.pointer _)=>some (false,.pointer none)|_=>none
 | .ptr _ _=>match P.underlying t with|some (.pointer _)=>some (false,.pointer none)|_=>none
 | _=>none
def nilBin (P:Program) (op:BinOp) (t:TypeId) (X:A) (y:Operand) (K:A→Prop):Prop:=match isNil P t X,op with
 | some (b,c),.eql=>y=.const c∧K (.d (.v (.bool b)))
 | some (b,c),.neq=>y=.const c∧K (.d (.v (.bool (!b))))
 | _,_=>False
def flatTag (P:Program) (t:TypeId):Option Nat:=match P.underlying t with
 | some (.int _)=>some 0
 | some .bool=>some 1
 | some .string=>some 2
 | _=>none
def flatTags (P:Program):List Field→Nat→Option (List Nat)
 | [],_=>some []
 | f :: fs, i => match decide (f.name ≠ "_" ∧ f.offset = i), flatTag P f.type, flatTags P fs (i + 1) with
  | true,some k,some ks=>some (k::ks)
  | _,_,_=>none
def tyFlat (P:Program) (t:TypeId):Option (List Nat):=match P.stoodInHeld t,P.eqGuardType P.depth t,P.underlying t with
 | false,false,some (.struct fs)=>flatTags P fs.toList 0
 | _,false,some (.array n e)=>match P.underlying e,decide (P.cellsOf e=1),(P.info? e).isSome with
  | some (.int _),true,true=>some (List.replicate n 0)
  | _,_,_=>none
 | _,_,_=>none
def eqDs:List Nat→List D→List D→Option Bool
 | [],_,_=>some true
 | 0::ts,.v (.int k a)::xs,.v (.int k' b)::ys=>if k=k' then (eqDs ts xs ys).map ((a==b) && ·) else none
 | 1::ts,.v (.bool a)::xs,.v (.bool b)::ys=>(eqDs ts xs ys).map ((a==b) && ·)
 | 2::ts,.v (.string a)::xs,.v (.string b)::ys=>(eqDs ts xs ys).map (decide (a=b) && ·)
 | _,_,_=>none
def aggBin (P:Program) (op:BinOp) (t:TypeId) (xs ys:List D) (K:A→Prop):Prop:=match (tyFlat P t).bind fun ts=>eqDs ts xs ys,op with
 | some b,.eql=>K (.d (.v (.bool b)))
 | some b,.neq=>K (.d (.v (.bool (!b))))
 | _,_=>False
def binV (P:Program) (op:BinOp) (t:TypeId) (ρ:Operand→A) (x y:Operand) (K:A→Prop):Prop:=match ρ x,ρ y with
 | .d (.v (.int k a)),.d (.v (.int k' b))=>match isShift op with
  | true=>shV op k a b K
  | false=>k=k'∧iBin op k a b K
 | .d (.v (.bool a)),.d (.v (.bool b))=>match op with
  | .eql=>P.underlying t=some .bool∧K (.d (.v (.bool (a==b))))
  | .neq=>P.underlying t=some .bool∧K (.d (.v (.bool (!(a==b)))))
  | _=>False
 | .d (.v (.string a)),.d (.v (.string b))=>sBin op a b K
 | .d (.agg xs),.d (.agg ys)=>aggBin P op t xs ys K
 | X,_=>nilBin P op t X y K
def unV (op:UnOp) (x:A) (K:A→Prop):Prop:=match op,x with
 | .not,.d (.v (.bool b))=>K (.d (.v (.bool (!b))))
 | .neg,.d (.v (.int k n))=>K (.d (.v (.int k (k.wrap (0 - n)))))
 | _,_=>False
def bytesV:List (List D)→Option (List UInt8)
 | []=>some []
 | [.v (.int .u8 n)]::r=>(bytesV r).map (UInt8.ofNat n.toNat::·)
 | _::_=>none
def bytesA (x:A):Option ByteArray:=match elemsOf x with
 | some (1,es)=>(bytesV es).map fun l=>⟨l.toArray⟩
 | _=>none
def bytesT (P:Program) (s:TypeId):Bool:=match P.underlying s with
 | some (.slice e)=>match P.underlying e with
  | some (.int .u8)=>true
  | _=>false
 | _=>false
def convV (P:Program) (s d:TypeId) (x:A) (K:A→Prop):Prop:=match x with
 | .d (.v (.int _ n))=>∃ k,P.underlying d=some (.int k)∧(P.underlying s).isSome=true∧K (.d (.v (.int k (k.wrap n))))
 | .d (.v (.string b))=>P.underlying d=some .string∧(P.underlying s).isSome=true∧K (.d (.v (.string b)))
 | .d (.v (.slice none 0 0))=>P.underlying d=some .string∧bytesT P s=true∧K (.d (.v (.string ByteArray.empty)))
 | x=>match bytesA x with
  | some b=>P.underlying d=some .string∧bytesT P s=true∧K (.d (.v (.string b)))
  | none=>False
def mkIV (P:Program) (t:TypeId) (x:A) (K:A→Prop):Prop:=match x with
 | .d y=>(∃ k,tyK P t=some k∧(match P.underlying t with|some (.interface _)=>false|_=>true)=true)∧K (.d (.ifc t y))
 | .ptr k o=>(∃ k,tyK P t=some k∧(match P.underlying t with|some (.interface _)=>false|_=>true)=true)∧K (.ifc t (.ptr k o))
 | _=>False
def lenV (P:Program) (t:TypeId) (x:A) (K:A→Prop):Prop:=match lenA x with
 | some n=>(match P.underlying t,x with|some (.slice _),.d (.v (.string _))=>false|some (.slice _),_=>true|some .string,.d (.v (.string _))=>true|_,_=>false)=true∧K (.d (.v (.int .i64 n)))
 | none=>False
def mkFV (f:Fn) (fs cs:List A) (K:A→Prop):Prop:=match f with
 | .func f=>K (.clo f fs cs)
 | _=>False
def callV (P:Program) (ρ:Operand→A) (c:Call) (K:A→Prop):Prop:=match c.callee with
 | .builtin .len=>match c.args.toList,c.argTypes.toList with
  | [x],[t]=>lenV P t (ρ x) K
  | _,_=>False
 | _=>False

def VStep (P:Program) (ρ:Operand→A) (bx:Nat→Option (List A)) (op:Op) (K:A→Prop):Prop:=match op with
 | .move x=>K (ρ x)
 | .assign x=>K (ρ x)
 | .pick c x y=>pickV (ρ c) (ρ x) (ρ y) K
 | .nilCheck x=>nilV (ρ x) K
 | .extract x i=>extV (ρ x) i K
 | .field t x f=>fieldV P t f (ρ x) K
 | .fieldAddr t x f=>faddrV P t f (ρ x) K
 | .indexAddr t x i=>iaddrV P t (ρ x) (ρ i) K∨arrV P t (ρ x) (ρ i) K
 | .index t x i=>indexV P t (ρ x) (ρ i) K
 | .load t x=>loadV P bx t (ρ x) K
 | .slice t x lo hi mx=>sliceV P t (ρ x) (lo.map ρ) (hi.map ρ) (mx.map ρ) K
 | .binOp o t x y _=>binV P o t ρ x y K
 | .unOp o _ x=>unV o (ρ x) K
 | .convert s d x=>convV P s d (ρ x) K
 | .makeInterface t x=>mkIV P t (ρ x) K
 | .makeFunc f fs cs=>mkFV f (fs.toList.map ρ) (cs.toList.map ρ) K
 | .call c=>callV P ρ c K
 | .build t parts=>buildV P t (parts.toList.map fun p=>(p.1,ρ p.2)) K
 | _=>False

def Yields (P:Program) (o:Oper) (ρ:Operand→A) (bx:Nat→Option (List A)) (v:A):Prop:=
 (∀ (G:Gh) (w:World) (m:Mem) (a:Act),MemOk G w m→m.bx=bx→(∀ x,RepA G (ρ x) (a.eval x))→∃ u,(execOp a.eval o).run P w=.ok (.value u) w∧RepA G v u)∧
 (∀ n:Nat→Prop,(∀ x,(ρ x).lt n)→(∀ k cs,bx k=some cs→A.ltL n cs)→v.lt n)

section
variable {P:Program}{o:Oper}{ρ:Operand→A}{bx:Nat→Option (List A)}{K:A→Prop}

theorem y_val {x:Operand} (h:o.op=.move x∨o.op=.assign x):Yields P o ρ bx (ρ x):=
 ⟨fun G w m a _ _ hr=>⟨a.eval x,by rcases h with h|h<;>(unfold execOp;rw [h];rfl),hr x⟩,fun n h _=>h x⟩

theorem y_pick {c x y:Operand} (h:o.op=.pick c x y) (hV:pickV (ρ c) (ρ x) (ρ y) K):∃ v,K v∧Yields P o ρ bx v:=by
 unfold pickV at hV
 split at hV
 ·rename_i b hc
  cases b
  ·refine ⟨ρ y,hV.2 rfl,fun G w m a _ _ hr=>⟨a.eval y,?_,hr y⟩,fun n h _=>h y⟩
   have:=hr c
   rw [hc] at this
   unfold RepA RepD at this
   unfold execOp
   rw [h]
   simp [this,asBool]
  ·refine ⟨ρ x,hV.1 rfl,fun G w m a _ _ hr=>⟨a.eval x,?_,hr x⟩,fun n h _=>h x⟩
   have:=hr c
   rw [hc] at this
   unfold RepA RepD at this
   unfold execOp
   rw [h]
   simp [this,asBool]
 ·exact hV.elim

theorem y_nil {x:Operand} (h:o.op=.nilCheck x) (hV:nilV (ρ x) K):∃ v,K v∧Yields P o ρ bx v:=by
 unfold nilV at hV
 split at hV
 ·rename_i k off hc
  refine ⟨_,hV,fun G w m a _ _ hr=>⟨a.eval x,?_,by rw [←hc];exact hr x⟩,fun n h _=>by rw [←hc];exact h x⟩
  have:=hr x
  rw [hc] at this
  unfold RepA at this
  obtain ⟨b,_,hb⟩:=this
  unfold execOp
  rw [h]
  simp [hb]
 ·rename_i cs hc
  refine ⟨_,hV,fun G w m a _ _ hr=>⟨a.eval x,?_,by rw [←hc];exact hr x⟩,fun n h _=>by rw [←hc];exact h x⟩
  have:=hr x
  rw [hc] at this
  unfold RepA RepD at this
  obtain ⟨b,_,hb,_⟩:=this
  unfold execOp
  rw [h]
  simp [hb]
 ·exact hV.elim

theorem y_ext {x:Operand}{i:Nat} (h:o.op=.extract x i) (hV:extV (ρ x) i K):∃ v,K v∧Yields P o ρ bx v:=by
 unfold extV at hV
 split at hV
 ·rename_i cs hc
  obtain ⟨c,h1,h2⟩:=hV
  refine ⟨c,h2,fun G w m a _ _ hr=>?_,fun n hl _=>?_⟩
  ·have:=hr x
   rw [hc] at this
   unfold RepA at this
   obtain ⟨us,hu,hs⟩:=this
   obtain ⟨u,h3,h4⟩:=hs.get.2 i c h1
   refine ⟨u,?_,h4⟩
   unfold execOp
   rw [h]
   simp [hu,Instr.extract,h3]
  ·have:=hl x
   rw [hc] at this
   unfold A.lt at this
   exact ltL_get this i c h1
 ·rename_i cs hc
  obtain ⟨c,h1,h2⟩:=hV
  refine ⟨.d c,h2,fun G w m a _ _ hr=>?_,fun n hl _=>by unfold A.lt;trivial⟩
  have:=hr x
  rw [hc] at this
  unfold RepA RepD at this
  obtain ⟨us,hu,hs⟩:=this
  obtain ⟨u,h3,h4⟩:=hs.get.2 i c h1
  refine ⟨u,?_,by unfold RepA;exact h4⟩
  unfold execOp
  rw [h]
  simp [hu,Instr.extract,h3]
 ·exact hV.elim

theorem part_rep {t:TypeId}{cs:List A}{off:Nat} (hV:partA (tyK P t) (cs.drop off) K):∃ v,K v∧
  (∀ (G:Gh) (w:World) (us:List Value),RepAL G cs us→(∀ x∈us,x.oneCell'=true)→∃ u,(part t ⟨us⟩ off).run P w=.ok u w∧RepA G v u)∧
  (∀ (G:Gh) (w:World) (us:List Value) (ad:Addr),RepAL G (cs.drop off) us→(∀ x∈us,x.oneCell'=true)→(∀ i u,us[i]?=some u→w.cell? (ad.add i)=some u)→∃ u,(loadVar t ad).run P w=.ok u w∧RepA G v u)∧
  (∀ n:Nat→Prop,A.ltL n cs→v.lt n):=by
 unfold partA at hV
 split at hV
 ·rename_i n hk
  obtain ⟨hn,hK⟩:=hV
  refine ⟨_,hK,fun G w us hr h1=>?_,fun G w us ad hr h1 hc=>?_,fun n hl=>mkAgg_lt (ltL_take _ (ltL_drop _ hl))⟩
  ·obtain ⟨r1,r2⟩:=tyK_run hk w
   refine ⟨.agg ⟨(us.drop off).take n⟩,?_,mkAgg_rep (RepAL.take n (RepAL.drop off hr)) fun x hx=>h1 x (List.mem_of_mem_drop (List.mem_of_mem_take hx))⟩
   simp only [part,Sem.run_bind,r2,Result.andThen_ok,if_true,Sem.run_pure,r1]
   congr 2
   apply Array.toList_inj.1
   simp [List.take_drop]
  ·obtain ⟨r1,r2⟩:=tyK_run hk w
   have hlen:=hr.get.1
   have hld:=run_loadCells_list (P:=P) w ad (us.take n) (fun j v hj=>hc j v (by
    rw [List.getElem?_take] at hj
    split at hj
    ·exact hj
    ·cases hj))
   have hl:(us.take n).length=n:=by rw [List.length_take];omega
   rw [hl] at hld
   refine ⟨.agg ⟨us.take n⟩,?_,mkAgg_rep (RepAL.take n hr) fun x hx=>h1 x (List.mem_of_mem_take hx)⟩
   simp only [loadVar,Sem.run_bind,r2,Result.andThen_ok,if_true,r1,hld,Sem.run_pure]
 ·rename_i n hk
  split at hV
  ·rename_i c rest hcs
   refine ⟨c,hV,fun G w us hr h1=>?_,fun G w us ad hr h1 hc=>?_,fun n hl=>?_⟩
   ·obtain ⟨r1,r2⟩:=tyK_run hk w
    have hx:cs[off]?=some c:=by
     have:=congrArg (fun l=>l[0]?) hcs
     simpa using this
    obtain ⟨u,h3,h4⟩:=hr.get.2 off c hx
    refine ⟨u,?_,h4⟩
    simp [part,r2,h3]
   ·obtain ⟨r1,r2⟩:=tyK_run hk w
    rw [hcs] at hr
    unfold RepAL at hr
    obtain ⟨u,us',rfl,h3,_⟩:=hr
    refine ⟨u,?_,h3⟩
    have h0:=hc 0 u rfl
    have e:ad.add 0=ad:=by simp [Addr.add]
    rw [e] at h0
    simp [loadVar,r2,h0]
   ·have:=ltL_drop off hl
    rw [hcs] at this
    unfold A.ltL at this
    exact this.1
  ·exact hV.elim
 ·exact hV.elim

end
end Go.Proofs.YtaammoodcgfhpaaDoor.Eng
namespace Go.Proofs.YtaammoodcgfhpaaDoor.Eng
open Go Go.RowKit

theorem addr_add (b o n:Nat):(⟨b,o,none⟩:Addr).add n=⟨b,o+n,none⟩:=by
 unfold Addr.add
 by_cases h:n=0
 ·subst h;simp
 ·simp [h]
section
variable {P:Program}{o:Oper}{ρ:Operand→A}{bx:Nat→Option (List A)}{K:A→Prop}

theorem y_field {t:TypeId}{f:Nat}{x:Operand} (h:o.op=.field t x f) (hV:fieldV P t f (ρ x) K):∃ v,K v∧Yields P o ρ bx v:=by
 unfold fieldV at hV
 split at hV
 ·rename_i off ft cs hf hc
  obtain ⟨fs,fd,h1,h2,h3,h4⟩:=tyField_run hf
  obtain ⟨v,hK,hp,_,hl⟩:=part_rep hV
  refine ⟨v,hK,fun G w m a _ _ hr=>?_,fun n hn _=>hl n (cellsOfA_lt hc (hn x))⟩
  obtain ⟨us,hu,hs,h1'⟩:=cellsOfA_rep hc (hr x)
  obtain ⟨u,hrun,hrep⟩:=hp G w us hs h1'
  refine ⟨u,?_,hrep⟩
  unfold execOp
  rw [h]
  simp only [Instr.field,hu,Sem.run_bind,run_underlying h1,Result.andThen_ok,h2,asAgg,Sem.run_pure,h3,h4,hrun]
 ·exact hV.elim

theorem y_faddr {t:TypeId}{f:Nat}{x:Operand} (h:o.op=.fieldAddr t x f) (hV:faddrV P t f (ρ x) K):∃ v,K v∧Yields P o ρ bx v:=by
 unfold faddrV at hV
 split at hV
 ·rename_i off ft hf
  obtain ⟨⟨g,n,hk⟩,hV⟩:=hV
  obtain ⟨fs,fd,h1,h2,h3,h4⟩:=tyField_run hf
  have key:∀ (w:World) (b oo:Nat) (a:Act),a.eval x=.pointer (some ⟨b,oo,none⟩)→(execOp a.eval o).run P w=.ok (.value (.pointer (some ⟨b,oo+off,none⟩))) w:=fun w b oo a ha=>by
   obtain ⟨r1,r2⟩:=tyK_run hk w
   unfold execOp
   rw [h]
   simp only [Instr.fieldAt,ha,Sem.run_bind,run_underlying h1,Result.andThen_ok,h2,Instr.sureAddr,Sem.run_pure,fieldPlace,h4,r1,h3,Nat.add_one_ne_zero,if_false,addr_add]
  split at hV
  ·rename_i k oo hc
   refine ⟨_,hV,fun G w m a _ _ hr=>?_,fun n hn _=>?_⟩
   ·have:=hr x
    rw [hc] at this
    unfold RepA at this
    obtain ⟨b,hE,hb⟩:=this
    exact ⟨_,key w b oo a hb,by unfold RepA;exact ⟨b,hE,rfl⟩⟩
   ·have:=hn x
    rw [hc] at this
    unfold A.lt at this ⊢
    exact this
  ·rename_i cs hc
   refine ⟨_,hV,fun G w m a _ _ hr=>?_,fun n hn _=>by unfold A.lt;trivial⟩
   have:=hr x
   rw [hc] at this
   unfold RepA RepD at this
   obtain ⟨b,oo,hb,hcs⟩:=this
   exact ⟨_,key w b oo a hb,by unfold RepA RepD;exact ⟨b,oo+off,rfl,hcs.drop off⟩⟩
  ·exact hV.elim
 ·exact hV.elim

theorem intA_rep {G:Gh}{x:A}{k:IntKind}{n:Int}{u:Value} (h:intA x=some (k,n)) (hr:RepA G x u):u=.int k n:=by
 unfold intA at h
 split at h
 ·simp only [Option.some.injEq,Prod.mk.injEq] at h
  obtain ⟨rfl,rfl⟩:=h
  unfold RepA RepD at hr
  exact hr
 ·cases h
theorem elemsOf_rep {G:Gh}{x:A}{z:Nat}{es:List (List D)}{u:Value} (h:elemsOf x=some (z,es)) (hr:RepA G x u) :
  ∃ a cap,u=.slice a es.length cap∧es.length≤cap∧cap≤maxLen∧(es=[]∨∃ b o,a=some ⟨b,o,none⟩∧RepEs G.C z es b o):=by
 unfold elemsOf at h
 split at h
 ·simp only [Option.some.injEq,Prod.mk.injEq] at h
  obtain ⟨rfl,rfl⟩:=h
  unfold RepA RepD at hr
  exact hr
 ·simp only [Option.some.injEq,Prod.mk.injEq] at h
  obtain ⟨rfl,rfl⟩:=h
  unfold RepA at hr
  rcases hr with ⟨_,h1,h2⟩|⟨b,_,h2,h3,h4,h5⟩
  ·subst h1
   exact ⟨none,0,h2,Nat.zero_le _,Nat.zero_le _,.inl rfl⟩
  ·exact ⟨_,_,h2,h3,h4,.inr ⟨b,0,rfl,h5⟩⟩
 ·simp only [Option.some.injEq,Prod.mk.injEq] at h
  obtain ⟨rfl,rfl⟩:=h
  unfold RepA at hr
  unfold RepD at hr
  unfold RepD at hr
  obtain ⟨a,cap,h1,h2,h3,h4⟩:=hr
  exact ⟨a,cap,h1,h2,h3,h4.imp id fun ⟨b,o,ha,he⟩=>⟨b,o,ha,RepEs.mono (fun _ _ _ h=>h.1) _ _ _ _ he⟩⟩
 ·cases h

theorem y_iaddr {t:TypeId}{x i:Operand} (h:o.op=.indexAddr t x i) (hV:iaddrV P t (ρ x) (ρ i) K):∃ v,K v∧Yields P o ρ bx v:=by
 unfold iaddrV at hV
 split at hV
 ·rename_i e z es k n he hx hi
  obtain ⟨⟨g,hk⟩,h0,c,hc,hK⟩:=hV
  refine ⟨_,hK,fun G w m a _ _ hr=>?_,fun n hn _=>by unfold A.lt;trivial⟩
  obtain ⟨ad,cap,h1,h2,h3,h4⟩:=elemsOf_rep hx (hr x)
  have h5:=intA_rep hi (hr i)
  obtain ⟨r1,r2⟩:=tyK_run hk w
  rcases h4 with h4|⟨b,oo,rfl,hes⟩
  ·subst h4;simp at hc
  ·have hlt:n.toNat<es.length:=by
    rcases Nat.lt_or_ge n.toNat es.length with h|h
    ·exact h
    ·rw [List.getElem?_eq_none h] at hc;cases hc
   obtain ⟨hz,hcs⟩:=hes.get n.toNat c hc
   refine ⟨.pointer (some ⟨b,oo+n.toNat*z,none⟩),?_,by unfold RepA RepD;exact ⟨b,_,rfl,hcs⟩⟩
   have hlt':n<(es.length:Int):=by omega
   unfold execOp
   rw [h]
   simp only [Instr.indexAt,h1,h5,asIntOf,Sem.run_bind,Sem.run_pure,Result.andThen_ok,run_underlying (tyElem_run he),h0,hlt',and_self,if_true,r1,addr_add]
 ·exact hV.elim

theorem y_arr {t:TypeId}{x i:Operand} (h:o.op=.indexAddr t x i) (hV:arrV P t (ρ x) (ρ i) K):∃ v,K v∧Yields P o ρ bx v:=by
 unfold arrV at hV
 split at hV
 ·rename_i k z m hx
  split at hV
  ·rename_i e ki n he hi
   obtain ⟨⟨g,hk⟩,hz,h0,h1,hK⟩:=hV
   refine ⟨_,hK,fun G w mm a _ _ hr=>?_,fun p hn _=>by have:=hn x;rw [hx] at this;unfold A.lt at this ⊢;exact this⟩
   have h5:=intA_rep hi (hr i)
   have h6:=hr x
   rw [hx] at h6
   unfold RepA at h6
   obtain ⟨b,cap,hE,hu,hm⟩:=h6
   obtain ⟨r1,r2⟩:=tyK_run hk w
   refine ⟨.pointer (some ⟨b,n.toNat*z,none⟩),?_,by unfold RepA;exact ⟨b,hE,rfl⟩⟩
   unfold execOp
   rw [h]
   simp only [Instr.indexAt,hu,h5,asIntOf,Sem.run_bind,Sem.run_pure,Result.andThen_ok,run_underlying (tyElem_run he),h0,h1,and_self,if_true,r1,addr_add,Nat.zero_add]
  ·exact hV.elim
 ·rename_i k off hx
  split at hV
  ·rename_i e m ki n he hi
   obtain ⟨⟨g,hk⟩,h0,h1,hK⟩:=hV
   refine ⟨_,hK,fun G w mm a _ _ hr=>?_,fun p hn _=>by have:=hn x;rw [hx] at this;unfold A.lt at this ⊢;exact this⟩
   have h5:=intA_rep hi (hr i)
   have h6:=hr x
   rw [hx] at h6
   unfold RepA at h6
   obtain ⟨b,hE,hu⟩:=h6
   obtain ⟨r1,r2⟩:=tyK_run hk w
   refine ⟨.pointer (some ⟨b,off+n.toNat,none⟩),?_,by unfold RepA;exact ⟨b,hE,rfl⟩⟩
   unfold execOp
   rw [h]
   simp only [Instr.indexAt,Instr.sureAddr,hu,h5,asIntOf,Sem.run_bind,Sem.run_pure,Result.andThen_ok,run_underlying (tyArr_run he),h0,h1,and_self,if_true,r1,addr_add,Nat.mul_one]
  ·exact hV.elim
 ·exact hV.elim

theorem y_index {t:TypeId}{x i:Operand} (h:o.op=.index t x i) (hV:indexV P t (ρ x) (ρ i) K):∃ v,K v∧Yields P o ρ bx v:=by
 unfold indexV at hV
 split at hV
 ·rename_i s k n hx hi
  obtain ⟨ht,h0,c,hc,hK⟩:=hV
  refine ⟨_,hK,fun G w m a _ _ hr=>⟨_,?_,by unfold RepA RepD;rfl⟩,fun n hn _=>by unfold A.lt;trivial⟩
  have h5:=intA_rep hi (hr i)
  have h6:=hr x
  rw [hx] at h6
  unfold RepA RepD at h6
  unfold execOp
  rw [h]
  simp only [Instr.index,h6,h5,asIntOf,Sem.run_bind,Sem.run_pure,Result.andThen_ok,run_underlying ht,h0,if_true,hc]
 ·exact hV.elim

theorem y_load {t:TypeId}{x:Operand} (h:o.op=.load t x) (hV:loadV P bx t (ρ x) K):∃ v,K v∧Yields P o ρ bx v:=by
 unfold loadV at hV
 split at hV
 ·rename_i k oo hx
  split at hV
  ·rename_i cs hb
   obtain ⟨v,hK,_,hp,hl⟩:=part_rep hV
   refine ⟨v,hK,fun G w m a hok hbx hr=>?_,fun n hn hnb=>hl n (hnb k cs hb)⟩
   subst hbx
   obtain ⟨b,hE,⟨vs,ty,hh,hrep,h1,_⟩,_⟩:=hok.box k cs hb
   have h6:=hr x
   rw [hx] at h6
   unfold RepA at h6
   obtain ⟨b',hE',ha⟩:=h6
   obtain rfl:b=b':=Option.some.inj (hE.symm.trans hE')
   obtain ⟨u,hrun,hu⟩:=hp G w (vs.drop oo) ⟨b,oo,none⟩ (RepAL.drop oo hrep) (fun x hx=>h1 x (List.mem_of_mem_drop hx)) (fun i u hi=>by
    rw [addr_add,cell_of_row w b (oo+i) ⟨vs⟩ ty (0,0) hh]
    rw [List.getElem?_drop] at hi
    simpa using hi)
   refine ⟨u,?_,hu⟩
   unfold execOp
   rw [h]
   simp only [Instr.loadAt,ha,Instr.sureAddr,Sem.run_bind,Sem.run_pure,Result.andThen_ok,hrun]
  ·exact hV.elim
 ·rename_i cs hx
  have hV':partA (tyK P t) ((cs.map A.d).drop 0) K:=by simpa using hV
  obtain ⟨v,hK,_,hp,hl⟩:=part_rep hV'
  refine ⟨v,hK,fun G w m a hok hbx hr=>?_,fun n hn hnb=>hl n (ltL_map cs)⟩
  have h6:=hr x
  rw [hx] at h6
  unfold RepA RepD at h6
  obtain ⟨b,oo,ha,hcs⟩:=h6
  obtain ⟨us,hL,hc⟩:=hcs.list
  obtain ⟨u,hrun,hu⟩:=hp G w us ⟨b,oo,none⟩ (by simpa using RepL_map hL) (fun x hx=>by
   obtain ⟨i,hi⟩:=List.getElem?_of_mem hx
   exact (hok.cell _ _ _ (hc i x hi)).2) (fun i u hi=>by
    rw [addr_add]
    exact (hok.cell _ _ _ (hc i u hi)).1)
  refine ⟨u,?_,hu⟩
  unfold execOp
  rw [h]
  simp only [Instr.loadAt,ha,Instr.sureAddr,Sem.run_bind,Sem.run_pure,Result.andThen_ok,hrun]
 ·exact hV.elim

theorem bndA_rep {G:Gh}{a:Act}{x:Option Operand}{d l:Int} (h:bndA d (x.map ρ)=some l) (hr:∀ x,RepA G (ρ x) (a.eval x)):(x=none∧l=d)∨∃ y k,x=some y∧a.eval y=.int k l:=by
 cases x with
 | none=>simp [bndA] at h;exact .inl ⟨rfl,h.symm⟩
 | some y=>
  right
  have hy:=hr y
  simp only [Option.map_some] at h
  unfold bndA at h
  split at h
  ·rename_i hq;cases hq
  ·rename_i k n hq
   simp only [Option.some.injEq] at hq h
   rw [hq] at hy
   unfold RepA RepD at hy
   exact ⟨y,k,rfl,by rw [hy,h]⟩
  ·cases h

theorem bounds_run {a:Act}{G:Gh}{lo hi:Option Operand}{isS:Bool}{len cap:Nat}{l h:Int} (hlc:len≤cap) (hl:bndA 0 (lo.map ρ)=some l) (hh:bndA len (hi.map ρ)=some h) (h0:0≤l) (h1:l≤h) (h2:h≤len)
  (hr:∀ x,RepA G (ρ x) (a.eval x)) (w:World):(Instr.sliceBounds isS len cap (lo.map a.eval) (hi.map a.eval) none).run P w=.ok (l.toNat,h.toNat,cap) w:=by
 have c1:=bndA_rep hl hr
 have c2:=bndA_rep hh hr
 have hcap:h≤(cap:Int):=by omega
 have h3:(0:Int)≤h:=by omega
 have h4:l≤(h.toNat:Int):=by omega
 rcases c1 with ⟨rfl,rfl⟩|⟨y1,k1,rfl,e1⟩<;>rcases c2 with ⟨rfl,rfl⟩|⟨y2,k2,rfl,e2⟩<;>
  simp [Instr.sliceBounds,Instr.sliceBound,asIntOf, *]
 all_goals (intro hq;omega)

theorem y_slice {t:TypeId}{x:Operand}{lo hi mx:Option Operand} (h:o.op=.slice t x lo hi mx) (hV:sliceV P t (ρ x) (lo.map ρ) (hi.map ρ) (mx.map ρ) K):∃ v,K v∧Yields P o ρ bx v:=by
 unfold sliceV at hV
 obtain ⟨hm,hV⟩:=hV
 have hm:mx=none:=by cases mx with
  | none=>rfl
  | some y=>simp at hm
 subst hm
 split at hV
 ·rename_i s hx
  obtain ⟨ht,l,hh,h1,h2,h3,h4,h5,hK⟩:=hV
  refine ⟨_,hK,fun G w m a _ _ hr=>⟨_,?_,by unfold RepA RepD;rfl⟩,fun n hn _=>by unfold A.lt;trivial⟩
  have h6:=hr x
  rw [hx] at h6
  unfold RepA RepD at h6
  have hb:=bounds_run (P:=P) (isS:=false) (cap:=s.size) (Nat.le_refl _) h1 h2 h3 h4 h5 hr w
  unfold execOp
  rw [h]
  simp [Instr.sliceAt,Instr.slice,h6,run_underlying ht,hb]
 ·split at hV
  ·rename_i z es e hx ht
   obtain ⟨⟨g,hk⟩,l,hh,h1,h2,h3,h4,h5,hK⟩:=hV
   refine ⟨_,hK,fun G w m a _ _ hr=>?_,fun n hn _=>by unfold A.lt;trivial⟩
   obtain ⟨ad,cap,g1,g2,g3,g4⟩:=elemsOf_rep hx (hr x)
   have hb:=bounds_run (P:=P) (isS:=true) (cap:=cap) g2 h1 h2 h3 h4 h5 hr w
   obtain ⟨r1,r2⟩:=tyK_run hk w
   refine ⟨.slice (if cap=l.toNat then ad else ad.map (·.add (l.toNat*z))) (hh.toNat - l.toNat) (cap - l.toNat),?_,?_⟩
   ·unfold execOp
    rw [h]
    simp only [Instr.sliceAt,Instr.slice,g1,Sem.run_bind,run_underlying (tyElem_run ht),Result.andThen_ok,Option.map_none,hb,Sem.run_pure,r1]
   ·unfold RepA RepD
    have hlen:((es.drop l.toNat).take (hh.toNat - l.toNat)).length=hh.toNat - l.toNat:=by simp;omega
    refine ⟨_,_,by rw [hlen],by omega,by omega,?_⟩
    rcases g4 with g4|⟨b,oo,rfl,hes⟩
    ·left;subst g4;simp
    ·by_cases hc:cap=l.toNat
     ·left
      apply List.eq_nil_of_length_eq_zero
      omega
     ·right
      rw [if_neg hc]
      exact ⟨b,oo+l.toNat*z,by simp [addr_add],RepEs.take _ (RepEs.drop _ hes)⟩
  ·exact hV.elim

end
end Go.Proofs.YtaammoodcgfhpaaDoor.Eng
namespace Go.Proofs.YtaammoodcgfhpaaDoor.Eng
open Go Go.RowKit

section
variable {P:Program}{o:Oper}{ρ:Operand→A}{bx:Nat→Option (List A)}{K:A→Prop}

theorem flat_yield {v:Value} (h:∀ (G:Gh) (w:World) (a:Act),(∀ x,RepA G (ρ x) (a.eval x))→(execOp a.eval o).run P w=.ok (.value v) w):Yields P o ρ bx (.d (.v v)):=
 ⟨fun G w m a _ _ hr=>⟨v,h G w a hr,by unfold RepA RepD;rfl⟩,fun n _ _=>by unfold A.lt;trivial⟩

theorem v_rep {G:Gh}{a:Act}{x:Operand}{v:Value} (hx:ρ x=.d (.v v)) (hr:∀ x,RepA G (ρ x) (a.eval x)):a.eval x=v:=by
 have:=hr x
 rw [hx] at this
 unfold RepA RepD at this
 exact this

theorem y_binI {op:BinOp}{t yt:TypeId}{x y:Operand}{k:IntKind}{p q:Int} (h:o.op=.binOp op t x y yt) (hx:ρ x=.d (.v (.int k p))) (hy:ρ y=.d (.v (.int k q))) (hs:isShift op=false) (hV:iBin op k p q K):∃ v,K v∧Yields P o ρ bx v:=by
 have key:∀ (v:Value),(∀ w,(binOp op t (.int k p) (.int k q)).run P w=.ok v w)→Yields P o ρ bx (.d (.v v)):=fun v hv=>flat_yield fun G w a hr=>by
  have e1:=v_rep hx hr
  have e2:=v_rep hy hr
  unfold execOp
  rw [h]
  simp only [e1,e2,Sem.run_bind]
  have:(eqGuard op t x y (.int k p) (.int k q)).run P w=.ok () w:=by
   unfold eqGuard
   cases op<;>simp
  simp only [this,Result.andThen_ok,hv w,Sem.run_pure]
 cases op<;>simp only [isShift,Bool.true_eq_false] at hs<;>simp only [iBin] at hV
 all_goals first
  | exact hV.elim
  | exact ⟨_,hV.2,key _ fun w=>by simp [binOp,Op.intDiv,hV.1]⟩
  | exact ⟨_,hV,key _ fun w=>by simp [binOp,Op.intArith,Op.intBits,Op.intCmp]⟩

theorem y_binSh {op:BinOp}{t yt:TypeId}{x y:Operand}{k k':IntKind}{p q:Int} (h:o.op=.binOp op t x y yt) (hx:ρ x=.d (.v (.int k p))) (hy:ρ y=.d (.v (.int k' q))) (hV:shV op k p q K):∃ v,K v∧Yields P o ρ bx v:=by
 unfold shV at hV
 obtain ⟨h0,hV⟩:=hV
 have hn:¬q<0:=by omega
 have key:∀ (v:Value),(∀ w,(binOp op t (.int k p) (.int k' q)).run P w=.ok v w)→(op=.shl∨op=.shr)→Yields P o ρ bx (.d (.v v)):=fun v hv hop=>flat_yield fun G w a hr=>by
  have e1:=v_rep hx hr
  have e2:=v_rep hy hr
  unfold execOp
  rw [h]
  simp only [e1,e2,Sem.run_bind]
  have:(eqGuard op t x y (.int k p) (.int k' q)).run P w=.ok () w:=by
   unfold eqGuard
   rcases hop with rfl|rfl<;>simp
  simp only [this,Result.andThen_ok,hv w,Sem.run_pure]
 cases op<;>simp only at hV
 all_goals first
  | exact hV.elim
  | exact ⟨_,hV,key _ (fun w=>by simp [binOp,Op.shift,hn]) (by simp)⟩

theorem beqBA (a b:ByteArray):(a.toList==b.toList)=decide (a=b):=by
 by_cases h:a=b
 ·subst h;simp
 ·simp only [h,decide_false]
  rw [beq_eq_false_iff_ne]
  intro hl
  rw [ByteArray.toList_eq,ByteArray.toList_eq] at hl
  apply h
  cases a;cases b
  simp only [Array.toList_inj] at hl
  rw [hl]
theorem y_binS {op:BinOp}{t yt:TypeId}{x y:Operand}{p q:ByteArray} (h:o.op=.binOp op t x y yt) (hx:ρ x=.d (.v (.string p))) (hy:ρ y=.d (.v (.string q))) (hV:sBin op p q K):∃ v,K v∧Yields P o ρ bx v:=by
 have key:∀ (v:Value),(∀ w,(binOp op t (.string p) (.string q)).run P w=.ok v w)→Yields P o ρ bx (.d (.v v)):=fun v hv=>flat_yield fun G w a hr=>by
  have e1:=v_rep hx hr
  have e2:=v_rep hy hr
  unfold execOp
  rw [h]
  simp only [e1,e2,Sem.run_bind]
  have:(eqGuard op t x y (.string p) (.string q)).run P w=.ok () w:=by
   unfold eqGuard
   cases op<;>simp
  simp only [this,Result.andThen_ok,hv w,Sem.run_pure]
 cases op<;>simp only [sBin] at hV
 all_goals first
  | exact hV.elim
  | (refine ⟨_,hV.2,key _ fun w=>?_⟩
     have hm:¬((p.size+q.size:Nat):Int)>IntKind.i64.max:=by have:=hV.1;simp [IntKind.max,IntKind.signed,IntKind.bits];omega
     simp only [binOp,Op.stringOp,hm,if_false,Sem.run_pure])
  | exact ⟨_,hV,key _ fun w=>by simp [binOp,Op.stringOp,beqBA]⟩

theorem eqIn_bool (d:Nat) {t:TypeId} (ht:P.underlying t=some .bool) (p q:Bool) (w:World):(Op.equalIn (d+1) t (.bool p) (.bool q)).run P w=.ok (p==q) w:=by
 simp [Op.equalIn,run_underlying ht]
theorem eq_bool {t:TypeId} (ht:P.underlying t=some .bool) (p q:Bool) (w:World):(Op.equal t (.bool p) (.bool q)).run P w=.ok (p==q) w:=eqIn_bool 9999 ht p q w
theorem eqIn_nil (d:Nat) {G:Gh}{t:TypeId}{X:A}{u c:Value}{b:Bool} (hn:isNil P t X=some (b,c)) (hr:RepA G X u) (w:World):(Op.equalIn (d+1) t u c).run P w=.ok b w:=by
 unfold isNil at hn
 split at hn
 all_goals first|(simp at hn;done)|(split at hn)
 all_goals first|(simp at hn;done)|skip
 all_goals
  rename_i q hq
  simp only [Option.some.injEq,Prod.mk.injEq] at hn
  obtain ⟨rfl,rfl⟩:=hn
  first
   | (unfold RepA RepD at hr
      first
       | (subst hr;simp [Op.equalIn,run_underlying hq];done)
       | (obtain ⟨y,rfl,_⟩:=hr;simp [Op.equalIn,run_underlying hq];done)
       | (obtain ⟨y,z,rfl,_⟩:=hr;simp [Op.equalIn,run_underlying hq];done))
   | (unfold RepA at hr;obtain ⟨y,_,rfl⟩:=hr;simp [Op.equalIn,run_underlying hq];done)
theorem eq_nil {G:Gh}{t:TypeId}{X:A}{u c:Value}{b:Bool} (hn:isNil P t X=some (b,c)) (hr:RepA G X u) (w:World):(Op.equal t u c).run P w=.ok b w:=eqIn_nil 9999 hn hr w
theorem isNil_form {G:Gh}{t:TypeId}{X:A}{u c:Value}{b:Bool} (hn:isNil P t X=some (b,c)) (hr:RepA G X u) :
  (c=.nilIface∧(u=.nilIface∨∃ t v,u=.iface t v))∨(c=.slice none 0 0∧∃ a n k,u=.slice a n k)∨(c=.pointer none∧∃ a,u=.pointer a):=by
 unfold isNil at hn
 split at hn
 all_goals first|(simp at hn;done)|(split at hn)
 all_goals first|(simp at hn;done)|skip
 all_goals
  simp only [Option.some.injEq,Prod.mk.injEq] at hn
  obtain ⟨rfl,rfl⟩:=hn
  first
   | (unfold RepA RepD at hr
      first
       | (subst hr;simp;done)
       | (obtain ⟨y,rfl,_⟩:=hr;simp;done)
       | (obtain ⟨y,z,rfl,_⟩:=hr;simp;done))
   | (unfold RepA at hr;obtain ⟨y,_,rfl⟩:=hr;simp;done)
theorem run_bin_nil {op:BinOp}{t:TypeId}{x:Operand}{u c:Value}{b:Bool} (hop:op=.eql∨op=.neq)
  (hf:(c=.nilIface∧(u=.nilIface∨∃ t v,u=.iface t v))∨(c=.slice none 0 0∧∃ a n k,u=.slice a n k)∨(c=.pointer none∧∃ a,u=.pointer a)) (w:World) (he:(Op.equal t u c).run P w=.ok b w) :
  ((do eqGuard op t x (.const c) u c;binOp op t u c:Sem Value)).run P w=.ok (.bool (if op=.eql then b else !b)) w:=by
 rcases hf with ⟨rfl,rfl|⟨t',v,rfl⟩⟩|⟨rfl,a,n,k,rfl⟩|⟨rfl,a,rfl⟩<;>rcases hop with rfl|rfl<;>simp [eqGuard,binOp,he]

theorem y_binB {op:BinOp}{t yt:TypeId}{x y:Operand}{p q:Bool} (h:o.op=.binOp op t x y yt) (hx:ρ x=.d (.v (.bool p))) (hy:ρ y=.d (.v (.bool q))) (ht:P.underlying t=some .bool)
  (hop:op=.eql∧K (.d (.v (.bool (p==q))))∨op=.neq∧K (.d (.v (.bool (!(p==q)))))):∃ v,K v∧Yields P o ρ bx v:=by
 rcases hop with ⟨rfl,hK⟩|⟨rfl,hK⟩
 all_goals
  refine ⟨_,hK,flat_yield fun G w a hr=>?_⟩
  have e1:=v_rep hx hr
  have e2:=v_rep hy hr
  unfold execOp
  rw [h]
  simp [e1,e2,eqGuard,binOp,eq_bool ht]

theorem y_binN {op:BinOp}{t yt:TypeId}{x y:Operand} (h:o.op=.binOp op t x y yt) (hV:nilBin P op t (ρ x) y K):∃ v,K v∧Yields P o ρ bx v:=by
 unfold nilBin at hV
 split at hV
 ·rename_i b c hb
  obtain ⟨rfl,hK⟩:=hV
  refine ⟨_,hK,flat_yield fun G w a hr=>?_⟩
  have:=run_bin_nil (x:=x) (op:=.eql) (.inl rfl) (isNil_form hb (hr x)) w (eq_nil hb (hr x) w)
  unfold execOp
  rw [h]
  show (do let v ←(do eqGuard .eql t x (.const c) (a.eval x) c;binOp .eql t (a.eval x) c:Sem Value);pure (Next.value v)).run P w=_
  rw [Sem.run_bind,this]
  rfl
 ·rename_i b c hb
  obtain ⟨rfl,hK⟩:=hV
  refine ⟨_,hK,flat_yield fun G w a hr=>?_⟩
  have:=run_bin_nil (x:=x) (op:=.neq) (.inr rfl) (isNil_form hb (hr x)) w (eq_nil hb (hr x) w)
  unfold execOp
  rw [h]
  show (do let v ←(do eqGuard .neq t x (.const c) (a.eval x) c;binOp .neq t (a.eval x) c:Sem Value);pure (Next.value v)).run P w=_
  rw [Sem.run_bind,this]
  rfl
 ·exact hV.elim

theorem eqFields_run {d:Nat}{w:World}{us vs:List Value}:∀ {fs:List Field}{i:Nat}{ts:List Nat}{xs ys:List D}{r:Bool}{C:CellR},flatTags P fs i=some ts→eqDs ts xs ys=some r→RepL C xs (us.drop i)→RepL C ys (vs.drop i)→
  (Op.eqFields (d+1) ⟨us⟩ ⟨vs⟩ fs).run P w=.ok r w
 | [],i,ts,xs,ys,r,C,h,he,_,_=>by
  simp only [flatTags,Option.some.injEq] at h
  subst h
  simp only [eqDs,Option.some.injEq] at he
  subst he
  simp [Op.eqFields]
 | f::fs,i,ts,xs,ys,r,C,h,he,hx,hy=>by
  simp only [flatTags] at h
  split at h
  ·rename_i k ks hd hk hks
   rw [decide_eq_true_eq] at hd
   simp only [Option.some.injEq] at h
   subst h
   have part_one:∀ (l:List Value) (u:Value) (l':List Value),l.drop i=u::l'→(part f.type ⟨l⟩ f.offset).run P w=.ok u w:=fun l u l' hl=>by
    have hg:l[i]?=some u:=by
     have:=congrArg (fun l=>l[0]?) hl
     simpa using this
    have hag:(isAgg f.type).run P w=.ok false w:=by
     unfold flatTag at hk
     split at hk
     ·rename_i k' hu;simp [isAgg,run_underlying hu]
     ·rename_i hu;simp [isAgg,run_underlying hu]
     ·rename_i hu;simp [isAgg,run_underlying hu]
     ·cases hk
    simp [part,hag,hd.2,hg]
   have step:∀ (q r':Bool) (u v:Value) (us' vs':List Value) (xs' ys':List D),us.drop i=u::us'→vs.drop i=v::vs'→(Op.equalIn (d+1) f.type u v).run P w=.ok q w→eqDs ks xs' ys'=some r'→RepL C xs' us'→RepL C ys' vs'→
     (Op.eqFields (d+1) ⟨us⟩ ⟨vs⟩ (f::fs)).run P w=.ok (q && r') w:=fun q r' u v us' vs' xs' ys' hu hv hq hr' hx' hy'=>by
    have e1:us.drop (i+1)=us':=by rw [←List.drop_drop,hu];rfl
    have e2:vs.drop (i+1)=vs':=by rw [←List.drop_drop,hv];rfl
    have ih:=eqFields_run (d:=d) (w:=w) hks hr' (e1▸hx') (e2▸hy')
    simp only [Op.eqFields,if_pos hd.1,Sem.run_bind,part_one us u us' hu,part_one vs v vs' hv,Result.andThen_ok,hq]
    cases q
    ·simp
    ·simp [ih]
   unfold eqDs at he
   split at he
   ·cases ‹_::_=[]›
   ·rename_i k1 a xs' k2 b ys' e1
    simp only [List.cons.injEq] at e1
    obtain ⟨rfl,rfl⟩:=e1
    split at he
    ·rename_i hkk
     subst hkk
     simp only [Option.map_eq_some_iff] at he
     obtain ⟨r',hr',rfl⟩:=he
     unfold RepL RepD at hx hy
     obtain ⟨u,us',hu,rfl,hx'⟩:=hx
     obtain ⟨v,vs',hv,rfl,hy'⟩:=hy
     have hu':∃ k',P.underlying f.type=some (.int k'):=by
      unfold flatTag at hk
      split at hk<;>first|(exact ⟨_,‹_›⟩)|(cases hk)
     obtain ⟨k',hu'⟩:=hu'
     exact step (a==b) r' _ _ us' vs' xs' ys' hu hv (run_equalIn_int w d f.type k1 k' a b hu') hr' hx' hy'
    ·cases he
   ·rename_i a xs' b ys' e1
    simp only [List.cons.injEq] at e1
    obtain ⟨rfl,rfl⟩:=e1
    simp only [Option.map_eq_some_iff] at he
    obtain ⟨r',hr',rfl⟩:=he
    unfold RepL RepD at hx hy
    obtain ⟨u,us',hu,rfl,hx'⟩:=hx
    obtain ⟨v,vs',hv,rfl,hy'⟩:=hy
    have hu':P.underlying f.type=some .bool:=by
     unfold flatTag at hk
     split at hk<;>first|(cases hk;done)|assumption
    exact step (a==b) r' _ _ us' vs' xs' ys' hu hv (run_equalIn_bool w d f.type a b hu') hr' hx' hy'
   ·rename_i a xs' b ys' e1
    simp only [List.cons.injEq] at e1
    obtain ⟨rfl,rfl⟩:=e1
    simp only [Option.map_eq_some_iff] at he
    obtain ⟨r',hr',rfl⟩:=he
    unfold RepL RepD at hx hy
    obtain ⟨u,us',hu,rfl,hx'⟩:=hx
    obtain ⟨v,vs',hv,rfl,hy'⟩:=hy
    have hu':P.underlying f.type=some .string:=by
     unfold flatTag at hk
     split at hk<;>first|(cases hk;done)|assumption
    have:=run_equalIn_string w d f.type a b hu'
    rw [beqBA] at this
    exact step (decide (a=b)) r' _ _ us' vs' xs' ys' hu hv this hr' hx' hy'
   ·cases he
  ·cases h
theorem eqItems_run {d:Nat}{w:World}{us vs:List Value}{e:TypeId}{k':IntKind} (hu:P.underlying e=some (.int k')) {C:CellR}:∀ (n i:Nat) {xs ys:List D}{r:Bool},eqDs (List.replicate n 0) xs ys=some r→RepL C xs (us.drop i)→RepL C ys (vs.drop i)→
  (Op.eqItems (d+1) e 1 ⟨us⟩ ⟨vs⟩ (List.range' i n)).run P w=.ok r w
 | 0,i,xs,ys,r,he,_,_=>by
  simp only [List.replicate_zero,eqDs,Option.some.injEq] at he
  subst he
  simp [Op.eqItems]
 | n+1,i,xs,ys,r,he,hx,hy=>by
  have hag:(isAgg e).run P w=.ok false w:=by simp [isAgg,run_underlying hu]
  have part_one:∀ (l:List Value) (u:Value) (l':List Value),l.drop i=u::l'→(part e ⟨l⟩ (i*1)).run P w=.ok u w:=fun l u l' hl=>by
   have hg:l[i]?=some u:=by
    have:=congrArg (fun l=>l[0]?) hl
    simpa using this
   simp [part,hag,hg]
  rw [List.replicate_succ] at he
  unfold eqDs at he
  split at he
  ·cases ‹_::_=[]›
  ·rename_i k1 a xs' k2 b ys' e1
   simp only [List.cons.injEq] at e1
   obtain ⟨_,rfl⟩:=e1
   split at he
   ·rename_i hkk
    subst hkk
    simp only [Option.map_eq_some_iff] at he
    obtain ⟨r',hr',rfl⟩:=he
    unfold RepL RepD at hx hy
    obtain ⟨u,us',hu1,rfl,hx'⟩:=hx
    obtain ⟨v,vs',hv1,rfl,hy'⟩:=hy
    have e1:us.drop (i+1)=us':=by rw [←List.drop_drop,hu1];rfl
    have e2:vs.drop (i+1)=vs':=by rw [←List.drop_drop,hv1];rfl
    have ih:=eqItems_run (d:=d) (w:=w) hu n (i+1) hr' (e1▸hx') (e2▸hy')
    rw [List.range'_succ]
    simp only [Op.eqItems,Sem.run_bind,part_one us _ us' hu1,part_one vs _ vs' hv1,Result.andThen_ok,run_equalIn_int w d e k1 k' a b hu]
    cases (a==b)
    ·simp
    ·simp [ih]
   ·cases he
  ·rename_i a xs' b ys' e1
   simp at e1
  ·rename_i a xs' b ys' e1
   simp at e1
  ·cases he
theorem y_binG {op:BinOp}{t yt:TypeId}{x y:Operand}{xs ys:List D} (h:o.op=.binOp op t x y yt) (hx:ρ x=.d (.agg xs)) (hy:ρ y=.d (.agg ys)) (hV:aggBin P op t xs ys K):∃ v,K v∧Yields P o ρ bx v:=by
 unfold aggBin at hV
 have key:∀ (b:Bool),((tyFlat P t).bind fun ts=>eqDs ts xs ys)=some b→∀ (G:Gh) (w:World) (a:Act),(∀ x,RepA G (ρ x) (a.eval x))→∃ us vs,a.eval x=.agg us∧a.eval y=.agg vs∧P.eqGuardType P.depth t=false∧(Op.equalIn 10000 t (.agg us) (.agg vs)).run P w=.ok b w:=fun b hb G w a hr=>by
  obtain ⟨ts,ht,he⟩:=Option.bind_eq_some_iff.1 hb
  have h1:=hr x
  have h2:=hr y
  rw [hx] at h1
  rw [hy] at h2
  unfold RepA RepD at h1 h2
  obtain ⟨us,hu,hu1,_⟩:=h1
  obtain ⟨vs,hv,hv1,_⟩:=h2
  unfold tyFlat at ht
  split at ht
  ·rename_i fs hs hg hf
   refine ⟨⟨us⟩,⟨vs⟩,hu,hv,hg,?_⟩
   have hfs:P.fieldsOf t=fs:=by simp [Program.fieldsOf,hf]
   rw [run_equalIn_struct w 9999 t ⟨us⟩ ⟨vs⟩ (by rw [hfs];exact hf) hs,hfs]
   exact eqFields_run (d:=9998) ht he (by simpa using hu1) (by simpa using hv1)
  ·rename_i n e hg hf
   split at ht
   ·rename_i k' hk hc hi
    obtain ⟨i,hi⟩:=Option.isSome_iff_exists.1 hi
    have hts:=Option.some.inj ht
    subst hts
    refine ⟨⟨us⟩,⟨vs⟩,hu,hv,hg,?_⟩
    rw [run_equalIn_array (w:=w) 9999 ⟨us⟩ ⟨vs⟩ hf hi,of_decide_eq_true hc,List.range_eq_range']
    exact eqItems_run (d:=9998) hk n 0 he (by simpa using hu1) (by simpa using hv1)
   ·cases ht
  ·cases ht
 split at hV
 ·rename_i b hb
  refine ⟨_,hV,flat_yield fun G w a hr=>?_⟩
  obtain ⟨us,vs,h1,h2,h3,h4⟩:=key b hb G w a hr
  unfold execOp
  rw [h]
  show (do let v ←(do eqGuard .eql t x y (a.eval x) (a.eval y);binOp .eql t (a.eval x) (a.eval y):Sem Value);pure (Next.value v)).run P w=_
  rw [h1,h2,Sem.run_bind,Sem.run_bind,run_eqGuard_agg w .eql t x y us vs h3,Result.andThen_ok,run_eql_struct,h4]
  rfl
 ·rename_i b hb
  refine ⟨_,hV,flat_yield fun G w a hr=>?_⟩
  obtain ⟨us,vs,h1,h2,h3,h4⟩:=key b hb G w a hr
  unfold execOp
  rw [h]
  show (do let v ←(do eqGuard .neq t x y (a.eval x) (a.eval y);binOp .neq t (a.eval x) (a.eval y):Sem Value);pure (Next.value v)).run P w=_
  rw [h1,h2,Sem.run_bind,Sem.run_bind,run_eqGuard_agg w .neq t x y us vs h3,Result.andThen_ok,run_neq_struct,h4]
  rfl
 ·exact hV.elim

theorem y_un {op:UnOp}{t:TypeId}{x:Operand} (h:o.op=.unOp op t x) (hV:unV op (ρ x) K):∃ v,K v∧Yields P o ρ bx v:=by
 unfold unV at hV
 split at hV
 ·rename_i b hx
  refine ⟨_,hV,flat_yield fun G w a hr=>?_⟩
  have e1:=v_rep hx hr
  unfold execOp
  rw [h]
  simp [e1,Op.unary]
 ·rename_i k n hx
  refine ⟨_,hV,flat_yield fun G w a hr=>?_⟩
  have e1:=v_rep hx hr
  unfold execOp
  rw [h]
  simp [e1,Op.unary,Op.intArith]
 ·exact hV.elim

theorem bytesT_run {s:TypeId} (h:bytesT P s=true):∃ e,P.underlying s=some (.slice e)∧P.underlying e=some (.int .u8):=by
 unfold bytesT at h
 split at h
 ·rename_i e he
  split at h
  ·rename_i hu
   exact ⟨e,he,hu⟩
  ·cases h
 ·cases h
theorem bytesV_rep {C:CellR}:∀ {es:List (List D)}{l:List UInt8}{b o:Nat},bytesV es=some l→RepEs C 1 es b o→∃ xs:List Int,xs.length=es.length∧(∀ i,i<xs.length→C b (o+i) (.int .u8 (xs.getD i 0)))∧l=xs.map fun n=>UInt8.ofNat n.toNat
 | [],l,b,o,h,_=>by
  simp only [bytesV,Option.some.injEq] at h
  subst h
  exact ⟨[],rfl,fun i hi=>by simp at hi,rfl⟩
 | [.v (.int .u8 n)]::r,l,b,o,h,hr=>by
  simp only [bytesV,Option.map_eq_some_iff] at h
  obtain ⟨l',h1,rfl⟩:=h
  unfold RepEs at hr
  obtain ⟨_,h2,h3⟩:=hr
  obtain ⟨xs,g1,g2,g3⟩:=bytesV_rep h1 h3
  unfold RepCs RepD at h2
  obtain ⟨⟨u,k1,k2⟩,_⟩:=h2
  subst k2
  refine ⟨n::xs,by simp [g1],fun i hi=>?_,by simp [g3]⟩
  cases i with
  | zero=>exact k1
  | succ i=>
   have:=g2 i (by simpa using hi)
   rw [show o+(i+1)=o+1+i by omega]
   simpa using this
theorem bytesA_run {x:A}{bs:ByteArray}{G:Gh}{w:World}{u:Value}{s d e:TypeId} (h:bytesA x=some bs) (hr:RepA G x u) (hok:Cok G.C w) (hs:P.underlying s=some (.slice e)) (he:P.underlying e=some (.int .u8)) (hd:P.underlying d=some .string):(convert s d u).run P w=.ok (.string bs) w:=by
 unfold bytesA at h
 split at h
 ·rename_i es hes
  simp only [Option.map_eq_some_iff] at h
  obtain ⟨l,hl,rfl⟩:=h
  obtain ⟨a0,cap,rfl,_,_,h4⟩:=elemsOf_rep hes hr
  rcases h4 with rfl|⟨b,o,rfl,h4⟩
  ·simp only [bytesV,Option.some.injEq] at hl
   subst hl
   cases a0 with
   | none=>exact run_convert_bytes_nil w s e hs he 0 cap d hd
   | some ad=>
    simp only [List.length_nil]
    rw [run_convert_bytes_string w s d e _ 0 cap hs he hd,run_bytesToString w _ 0 cap [] (by simpa using run_loadCells_list (P:=P) w ad [] (fun j v hj=>by simp at hj))]
    rfl
  ·obtain ⟨xs,g1,g2,rfl⟩:=bytesV_rep hl h4
   have:=run_convert_bytes_arg (P:=P) w s e hs he b o es.length cap xs g1 (fun i hi=>(hok.cell _ _ _ (g2 i (by omega))).1) d hd
   simpa [strOfNums] using this
 ·cases h
theorem y_conv {s d:TypeId}{x:Operand} (h:o.op=.convert s d x) (hV:convV P s d (ρ x) K):∃ v,K v∧Yields P o ρ bx v:=by
 unfold convV at hV
 split at hV
 ·rename_i k n hx
  obtain ⟨k',hd,hs,hK⟩:=hV
  obtain ⟨sd,hs⟩:=Option.isSome_iff_exists.1 hs
  refine ⟨_,hK,flat_yield fun G w a hr=>?_⟩
  have e1:=v_rep hx hr
  unfold execOp
  rw [h]
  simp only [e1,Sem.run_bind,Go.convert,run_underlying hd,run_underlying hs,Result.andThen_ok,Conv.intToInt,Sem.run_pure]
 ·rename_i b hx
  obtain ⟨hd,hs,hK⟩:=hV
  obtain ⟨sd,hs⟩:=Option.isSome_iff_exists.1 hs
  refine ⟨_,hK,flat_yield fun G w a hr=>?_⟩
  have e1:=v_rep hx hr
  unfold execOp
  rw [h]
  simp only [e1,Sem.run_bind,Go.convert,run_underlying hd,run_underlying hs,Result.andThen_ok,Sem.run_pure]
 ·rename_i hx
  obtain ⟨hd,hs,hK⟩:=hV
  obtain ⟨e,hs,he⟩:=bytesT_run hs
  refine ⟨_,hK,flat_yield fun G w a hr=>?_⟩
  have e1:=v_rep hx hr
  unfold execOp
  rw [h]
  simp only [e1,Sem.run_bind,run_convert_bytes_nil w s e hs he 0 0 d hd,Result.andThen_ok,Sem.run_pure]
 ·split at hV
  ·rename_i b hb
   obtain ⟨hd,hs,hK⟩:=hV
   obtain ⟨e,hs,he⟩:=bytesT_run hs
   refine ⟨_,hK,fun G w m a hok _ hr=>⟨.string b,?_,by unfold RepA RepD;rfl⟩,fun n hn _=>by unfold A.lt;trivial⟩
   have hc:=bytesA_run hb (hr x) hok.cok hs he hd
   unfold execOp
   rw [h]
   simp only [Sem.run_bind,hc,Result.andThen_ok,Sem.run_pure]
  ·exact hV.elim

theorem y_mkI {t:TypeId}{x:Operand} (h:o.op=.makeInterface t x) (hV:mkIV P t (ρ x) K):∃ v,K v∧Yields P o ρ bx v:=by
 unfold mkIV at hV
 split at hV
 ·rename_i y hx
  obtain ⟨⟨k,hk,ht⟩,hK⟩:=hV
  refine ⟨_,hK,fun G w m a _ _ hr=>⟨.iface t (a.eval x),?_,?_⟩,fun n hn _=>by unfold A.lt;trivial⟩
  ·unfold tyK at hk
   split at hk
   ·rename_i dd i hd hi
    unfold execOp
    rw [h]
    simp only [Instr.makeInterface,Sem.run_bind,run_underlying hd,Result.andThen_ok]
    rw [hd] at ht
    cases dd<;>simp at ht ⊢
   ·cases hk
  ·have:=hr x
   rw [hx] at this
   unfold RepA at this ⊢
   unfold RepD
   exact ⟨_,rfl,this⟩
 ·rename_i k' o' hx
  obtain ⟨⟨k,hk,ht⟩,hK⟩:=hV
  refine ⟨_,hK,fun G w m a _ _ hr=>⟨.iface t (a.eval x),?_,?_⟩,fun n hn _=>?_⟩
  ·unfold tyK at hk
   split at hk
   ·rename_i dd i hd hi
    unfold execOp
    rw [h]
    simp only [Instr.makeInterface,Sem.run_bind,run_underlying hd,Result.andThen_ok]
    rw [hd] at ht
    cases dd<;>simp at ht ⊢
   ·cases hk
  ·have:=hr x
   rw [hx] at this
   unfold RepA
   exact ⟨_,rfl,this⟩
  ·have:=hn x
   rw [hx] at this
   unfold A.lt
   exact this
 ·exact hV.elim

theorem lenA_rep {G:Gh}{x:A}{n:Nat}{u:Value} (h:lenA x=some n) (hr:RepA G x u):(∃ a cap,u=.slice a n cap)∧(∀ s,x≠.d (.v (.string s)))∨∃ s,x=.d (.v (.string s))∧u=.string s∧n=s.size:=by
 unfold lenA at h
 split at h
 ·have:=Option.some.inj h;subst this
  unfold RepA RepD at hr
  obtain ⟨a,cap,h1,_⟩:=hr
  exact .inl ⟨⟨a,cap,h1⟩,fun s=>by simp⟩
 ·rename_i k e z es
  have:=Option.some.inj h;subst this
  obtain ⟨a,cap,h1,_⟩:=elemsOf_rep (x:=.own k e z es) rfl hr
  exact .inl ⟨⟨a,cap,h1⟩,fun s=>by simp⟩
 ·have:=Option.some.inj h;subst this
  unfold RepA at hr
  obtain ⟨b,cap,_,h1,_⟩:=hr
  exact .inl ⟨⟨_,_,h1⟩,fun s=>by simp⟩
 ·have:=Option.some.inj h;subst this
  unfold RepA RepD at hr
  exact .inl ⟨⟨none,0,hr⟩,fun s=>by simp⟩
 ·rename_i s
  have:=Option.some.inj h;subst this
  unfold RepA RepD at hr
  exact .inr ⟨s,rfl,hr,rfl⟩
 ·have:=Option.some.inj h;subst this
  unfold RepA at hr
  unfold RepD at hr
  unfold RepD at hr
  obtain ⟨a,cap,h1,_⟩:=hr
  exact .inl ⟨⟨a,cap,h1⟩,fun s=>by simp⟩
 ·have:=Option.some.inj h;subst this
  unfold RepA at hr
  obtain ⟨b,_,h1,_⟩:=hr
  exact .inl ⟨⟨_,_,h1⟩,fun s=>by simp⟩
 ·have:=Option.some.inj h;subst this
  unfold RepA at hr
  rcases hr with ⟨_,rfl,rfl⟩|⟨_,b,_,h1,_⟩
  ·exact .inl ⟨⟨none,0,rfl⟩,fun s=>by simp⟩
  ·exact .inl ⟨⟨_,_,h1⟩,fun s=>by simp⟩
 ·cases h

theorem y_len {t:TypeId}{x:Operand}{ats args:Array _} (h:o.op=.call { callee:=.builtin .len,args:=args,argTypes:=ats }) (ha:args.toList=[x]) (hat:ats.toList=[t]) (hV:lenV P t (ρ x) K):∃ v,K v∧Yields P o ρ bx v:=by
 unfold lenV at hV
 split at hV
 ·rename_i n hl
  obtain ⟨hm,hK⟩:=hV
  refine ⟨_,hK,flat_yield fun G w a hr=>?_⟩
  have ha':args=#[x]:=by apply Array.toList_inj.1;simpa using ha
  have hat':ats=#[t]:=by apply Array.toList_inj.1;simpa using hat
  subst ha' hat'
  unfold execOp
  rw [h]
  rcases lenA_rep hl (hr x) with ⟨⟨ad,cap,hu⟩,hne⟩|⟨s,hx,hu,rfl⟩
  ·split at hm
   ·cases hm
   ·rename_i e hd _
    simp [resolve,invoke,builtin,Builtin.len_,hu,run_underlying hd,goInt]
   ·rename_i s hd hx
    exact absurd hx (hne s)
   ·cases hm
  ·split at hm
   ·cases hm
   ·rename_i e hd hxx
    exact absurd hx (hxx s)
   ·rename_i s' hd hx'
    simp [resolve,invoke,builtin,Builtin.len_,hu,run_underlying hd,goInt]
   ·cases hm
 ·exact hV.elim

theorem y_build {t:TypeId}{parts:Array (Nat × Operand)} (h:o.op=.build t parts) (hV:buildV P t (parts.toList.map fun p=>(p.1,ρ p.2)) K):∃ v,K v∧Yields P o ρ bx v:=by
 obtain ⟨zs,pl,cs,h1,h2,h3,hK⟩:=hV
 refine ⟨_,hK,fun G w m a _ _ hr=>?_,fun n hn _=>mkAgg_lt (buildGo_lt hn h3 (ltL_v zs))⟩
 obtain ⟨z,z1,z2,z3⟩:=tyZero_run h1 w
 obtain ⟨us,u1,u2,u3⟩:=buildGo_run hr h3 (RepAL_v zs) z3
 refine ⟨_,?_,mkAgg_rep u2 u3⟩
 unfold execOp
 rw [h]
 have hparts:(parts.map fun x=>match x with|(i,x)=>(i,a.eval x)).toList=parts.toList.map fun p=>(p.1,a.eval p.2):=by simp
 rcases tyPlaces_run h2 w with ⟨fs,p1,p2⟩|⟨n,e,i,p1,p2,rfl⟩
 rotate_left
 ·have u1':=fill_mono (g:=fun j=>some (j*i.size,i.size)) (fun j x hj=>by
   simp only [List.getElem?_toArray,List.getElem?_map,Option.map_eq_some_iff] at hj
   obtain ⟨y,hy,rfl⟩:=hj
   rw [List.getElem?_range (by
    have:=(List.getElem?_eq_some_iff.1 hy).1
    simpa using this)] at hy
   rw [←Option.some.inj hy]) _ _ _ u1
  simp only [Instr.build,Sem.run_bind,z1,Result.andThen_ok,run_underlying p1,sizeOf,typeInfo,run_program,p2,Sem.run_pure,z2,hparts,u1']
 simp only [Instr.build,Sem.run_bind,z1,Result.andThen_ok,run_underlying p1,p2,z2,hparts,u1,Sem.run_pure]

theorem mapA_rep {G:Gh}{a:Act} (hr:∀ x,RepA G (ρ x) (a.eval x)):∀ (xs:List Operand),RepAL G (xs.map ρ) (xs.map a.eval)
 | []=>by unfold RepAL;rfl
 | x::xs=>by simp only [List.map_cons];unfold RepAL;exact ⟨_,_,rfl,hr x,mapA_rep hr xs⟩
theorem mapA_lt {n:Nat→Prop} (h:∀ x,(ρ x).lt n):∀ (xs:List Operand),A.ltL n (xs.map ρ)
 | []=>by simp only [List.map_nil];unfold A.ltL;trivial
 | x::xs=>by simp only [List.map_cons];unfold A.ltL;exact ⟨h x,mapA_lt h xs⟩
theorem y_mkF {f:Fn}{fs cs:Array Operand} (h:o.op=.makeFunc f fs cs) (hV:mkFV f (fs.toList.map ρ) (cs.toList.map ρ) K):∃ v,K v∧Yields P o ρ bx v:=by
 unfold mkFV at hV
 split at hV
 ·rename_i f
  refine ⟨_,hV,fun G w m a _ _ hr=>⟨.func (.func f) ⟨fs.toList.map a.eval⟩ ⟨cs.toList.map a.eval⟩,?_,?_⟩,fun n hn _=>by unfold A.lt;exact ⟨mapA_lt hn _,mapA_lt hn _⟩⟩
  ·unfold execOp
   rw [h]
   have e:∀ xs:Array Operand,(⟨xs.toList.map a.eval⟩:Array Value)=xs.map a.eval:=fun xs=>by apply Array.toList_inj.1;simp
   simp [Instr.makeFunc,e]
  ·unfold RepA
   exact ⟨_,_,rfl,mapA_rep hr _,mapA_rep hr _⟩
 ·exact hV.elim
theorem vstep_sound (h:VStep P ρ bx o.op K):∃ v,K v∧Yields P o ρ bx v:=by
 generalize ho:o.op=op at h
 unfold VStep at h
 split at h
 ·exact ⟨_,h,y_val (.inl ho)⟩
 ·exact ⟨_,h,y_val (.inr ho)⟩
 ·exact y_pick ho h
 ·exact y_nil ho h
 ·exact y_ext ho h
 ·exact y_field ho h
 ·exact y_faddr ho h
 ·exact h.elim (y_iaddr ho) (y_arr ho)
 ·exact y_index ho h
 ·exact y_load ho h
 ·exact y_slice ho h
 ·rename_i op' t x y yt
  unfold binV at h
  split at h
  ·rename_i k a k' b hx hy
   split at h
   ·exact y_binSh ho hx hy h
   ·rename_i hs
    obtain ⟨rfl,h⟩:=h
    exact y_binI ho hx hy hs h
  ·rename_i a b hx hy
   split at h
   ·exact y_binB ho hx hy h.1 (.inl ⟨rfl,h.2⟩)
   ·exact y_binB ho hx hy h.1 (.inr ⟨rfl,h.2⟩)
   ·exact h.elim
  ·rename_i a b hx hy
   exact y_binS ho hx hy h
  ·rename_i xs ys hx hy
   exact y_binG ho hx hy h
  ·exact y_binN ho h
 ·exact y_un ho h
 ·exact y_conv ho h
 ·exact y_mkI ho h
 ·exact y_mkF ho h
 ·rename_i c
  unfold callV at h
  split at h
  ·rename_i hc
   split at h
   ·rename_i x t ha hat
    obtain ⟨callee,args,ats⟩:=c
    simp only at hc ha hat
    subst hc
    exact y_len ho ha hat h
   ·exact h.elim
  ·exact h.elim
 ·exact y_build ho h
 ·exact h.elim

end
end Go.Proofs.YtaammoodcgfhpaaDoor.Eng
namespace Go.Proofs.YtaammoodcgfhpaaDoor.Eng
open Go Go.RowKit

def bump (us:Nat→Prop) (κ:Nat):Nat→Prop:=fun k=>us k∨(κ≤k∧k<κ+16)
def Mem.bump (m:Mem) (κ:Nat):Mem:={ m with us:=Eng.bump m.us κ }
def Mem.fresh (m:Mem) (κ:Nat):Prop:=∀ k,κ≤k→k<κ+16→¬m.us k

theorem MemOk.lt_size {G:Gh}{w:World}{m:Mem} (h:MemOk G w m) {b o:Nat}{u:Value} (hc:G.C b o u):b<w.heap.size:=cell_lt (h.cell b o u hc).1
theorem heap_lt {w:World}{b:Nat}{x:Obj} (h:w.heap[b]?=some x):b<w.heap.size:=(Array.getElem?_eq_some_iff.1 h).1
theorem MemOk.mine_lt {G:Gh}{w:World}{m:Mem} (h:MemOk G w m) {k b:Nat}{cs:List A} (hb:m.bx k=some cs) (hE:G.E k=some b):b<w.heap.size:=by
 obtain ⟨b',h1,⟨vs,ty,h2,_⟩,_⟩:=h.box k cs hb
 rw [h1] at hE
 have:=Option.some.inj hE;subst this
 exact heap_lt h2
theorem Mine.lt {G:Gh}{w:World}{m:Mem} (h:MemOk G w m) {b:Nat} (hb:Mine G m b):b<w.heap.size:=by
 obtain ⟨k,hk,hE⟩:=hb
 rcases hk with hk|hk
 ·obtain ⟨cs,hcs⟩:=Option.isSome_iff_exists.1 hk
  exact h.mine_lt hcs hE
 ·obtain ⟨⟨n,e,z⟩,hx⟩:=Option.isSome_iff_exists.1 hk
  obtain ⟨cur,h1,_⟩:=h.row k n e z hx b hE
  exact heap_lt h1

theorem MemOk.grow {G G':Gh}{w w':World}{m:Mem}{us':Nat→Prop} (h:MemOk G w m) (hle:G.Le m.us G') (hw:∀ b,b<w.heap.size→w'.heap[b]?=w.heap[b]?)
  (hC:∀ b o u,G'.C b o u→G.C b o u∨w.heap.size≤b) (hC':∀ b o u,G'.C b o u→w.heap.size≤b→(w'.cell? ⟨b,o,none⟩=some u∧u.oneCell'=true)∧w'.frozen? ⟨b,o,none⟩=false) (hus:∀ k,m.us k→us' k):MemOk G' w' { m with us:=us' }:=by
 have hnc:∀ b,b<w.heap.size→∀ j u,¬G.C b j u→¬G'.C b j u:=fun b hb j u hn hc=>by
  rcases hC b j u hc with h1|h1
  ·exact hn h1
  ·omega
 refine ⟨⟨fun b o u hc=>?_,fun b o u hc hb=>?_,h.cok.gl.mono hle.C,h.cok.tb.keep h.cok.gl fun b _ _ _ h1 _ _=>hw b (heap_lt h1)⟩,fun k cs hk=>?_,fun k n e z hk b hE=>?_,fun k k' b hk hk' hE hE'=>?_,fun k hk=>hus k (h.lt k hk),h.sep⟩
 ·rcases hC b o u hc with h1|h1
  ·have h2:=h.cell b o u h1
   exact ⟨(World.cell?_of_block (w:=w) (a:=⟨b,o,none⟩) (hw b (h.lt_size h1))).trans h2.1,h2.2⟩
  ·exact (hC' b o u hc h1).1
 ·rcases hC b o u hc with h1|h1
  ·rw [frz_of_block (hw b (h.lt_size h1))]
   exact h.cok.nf b o u h1 hb
  ·exact (hC' b o u hc h1).2
 ·obtain ⟨b,hE,⟨vs,ty,h1,h2,h3,h4⟩,hl⟩:=h.box k cs hk
  have hk':=h.lt k (.inl (by rw [show m.bx k=some cs from hk];rfl))
  exact ⟨b,(hle.E k hk').trans hE,⟨vs,ty,(hw b (heap_lt h1)).trans h1,RepAL.mono hle _ _ hl h2,h3,fun j u=>hnc b (heap_lt h1) j u (h4 j u)⟩,A.ltL.mono hus _ hl⟩
 ·have hk':=h.lt k (.inr (by rw [show m.al k=some (n,e,z) from hk];rfl))
  rw [hle.E k hk'] at hE
  obtain ⟨cur,h1,h2,h3,h4⟩:=h.row k n e z hk b hE
  rw [hle.cp k hk']
  exact ⟨cur,(hw b (heap_lt h1)).trans h1,h2,h3,fun j u hj=>hnc b (heap_lt h1) j u (h4 j u hj)⟩
 ·rw [hle.E k (h.lt k hk)] at hE
  rw [hle.E k' (h.lt k' hk')] at hE'
  exact h.inj k k' b hk hk' hE hE'

theorem MemOk.addBox {G:Gh}{w:World}{m:Mem} (h:MemOk G w m) {κ b:Nat}{cs:List A} (hE:G.E κ=some b) (hb:BoxOk G w b cs) (hl:A.ltL m.us cs) (hn:¬m.live κ) (hm:¬Mine G m b) (hu:m.us κ):MemOk G w { m with bx:=upd m.bx κ (some cs) }:=by
 have hlv:∀ k,Mem.live { m with bx:=upd m.bx κ (some cs) } k→k=κ∨m.live k:=fun k hk=>by
  by_cases e:k=κ
  ·exact .inl e
  ·right
   rcases hk with hk|hk
   ·left;simpa [upd_ne _ _ e] using hk
   ·exact .inr hk
 refine ⟨h.cok,fun k cs' hk=>?_,h.row,fun k k' b' hk hk' h1 h2=>?_,fun k hk=>?_,fun k hk=>?_⟩
 ·by_cases e:k=κ
  ·subst e
   simp only [upd_same,Option.some.injEq] at hk
   subst hk
   exact ⟨b,hE,hb,hl⟩
  ·simp only [upd_ne _ _ e] at hk
   exact h.box k cs' hk
 ·have key:∀ k b',m.live k→G.E k=some b'→G.E κ=some b'→False:=fun k b' hk h1 h2=>by
   rw [hE] at h2
   have:=Option.some.inj h2;subst this
   exact hm ⟨k,hk,h1⟩
  rcases hlv k hk with e1|q1<;>rcases hlv k' hk' with e2|q2
  ·rw [e1,e2]
  ·exact (key k' b' q2 h2 (e1▸h1)).elim
  ·exact (key k b' q1 h1 (e2▸h2)).elim
  ·exact h.inj k k' b' q1 q2 h1 h2
 ·rcases hlv k hk with e1|q1
  ·rw [e1];exact hu
  ·exact h.lt k q1
 ·by_cases e:k=κ
  ·subst e
   cases hq:m.al k with
   | none=>rfl
   | some x=>exact absurd (.inr (by rw [hq];rfl)) hn
  ·simp only [upd_ne _ _ e] at hk
   exact h.sep k hk

theorem MemOk.addRow {G:Gh}{w:World}{m:Mem} (h:MemOk G w m) {κ n z:Nat}{e:TypeId} (hb:∀ b,G.E κ=some b→RowOk G.C w b (G.cp κ) n e z∧¬Mine G m b) (hn:m.bx κ=none) (hu:m.us κ):MemOk G w { m with al:=upd m.al κ (some (n,e,z)) }:=by
 have hlv:∀ k,Mem.live { m with al:=upd m.al κ (some (n,e,z)) } k→k=κ∨m.live k:=fun k hk=>by
  by_cases e':k=κ
  ·exact .inl e'
  ·right
   rcases hk with hk|hk
   ·exact .inl hk
   ·right;simpa [upd_ne _ _ e'] using hk
 refine ⟨h.cok,h.box,fun k n' e' z' hk b hE=>?_,fun k k' b' hk hk' h1 h2=>?_,fun k hk=>?_,fun k hk=>?_⟩
 ·by_cases e'':k=κ
  ·subst e''
   simp only [upd_same,Option.some.injEq,Prod.mk.injEq] at hk
   obtain ⟨rfl,rfl,rfl⟩:=hk
   exact (hb b hE).1
  ·simp only [upd_ne _ _ e''] at hk
   exact h.row k n' e' z' hk b hE
 ·have key:∀ k b',m.live k→G.E k=some b'→G.E κ=some b'→False:=fun k b' hk h1 h2=>(hb b' h2).2 ⟨k,hk,h1⟩
  rcases hlv k hk with e1|q1<;>rcases hlv k' hk' with e2|q2
  ·rw [e1,e2]
  ·exact (key k' b' q2 h2 (e1▸h1)).elim
  ·exact (key k b' q1 h1 (e2▸h2)).elim
  ·exact h.inj k k' b' q1 q2 h1 h2
 ·rcases hlv k hk with e1|q1
  ·rw [e1];exact hu
  ·exact h.lt k q1
 ·by_cases e':k=κ
  ·subst e'
   simp only [hn] at hk
   cases hk
  ·simp only [upd_ne _ _ e']
   exact h.sep k hk

theorem MemOk.dropRow {G:Gh}{w:World}{m:Mem} (h:MemOk G w m) (κ:Nat):MemOk G w { m with al:=upd m.al κ none }:=by
 have hlv:∀ k,Mem.live { m with al:=upd m.al κ none } k→m.live k:=fun k hk=>by
  rcases hk with hk|hk
  ·exact .inl hk
  ·right
   by_cases e':k=κ
   ·subst e';simp at hk
   ·simpa [upd_ne _ _ e'] using hk
 refine ⟨h.cok,h.box,fun k n' e' z' hk b hE=>?_,fun k k' b' hk hk' h1 h2=>h.inj k k' b' (hlv k hk) (hlv k' hk') h1 h2,fun k hk=>h.lt k (hlv k hk),fun k hk=>?_⟩
 case refine_2=>
  by_cases e:k=κ
  ·subst e;simp
  ·simp only [upd_ne _ _ e];exact h.sep k hk
 by_cases e'':k=κ
 ·subst e''
  simp at hk
 ·simp only [upd_ne _ _ e''] at hk
  exact h.row k n' e' z' hk b hE

def Does (P:Program) (o:Oper) (ρ:Operand→A) (m:Mem) (v:A) (m':Mem):Prop:=
 ∀ (G:Gh) (w:World) (a:Act),MemOk G w m→(∀ x,RepA G (ρ x) (a.eval x))→(∀ x,(ρ x).lt m.us)→∀ (Kc:Act→World→Prop) (Q:Exit→Act→World→Prop),
  (∀ u w' G',Evo G w m G' w' m'→MemOk G' w' m'→RepA G' v u→v.lt m'.us→Kc (a.put o.dst u) w')→o.wp P a w Kc Q

theorem MemOk.bump {G:Gh}{w:World}{m:Mem} (h:MemOk G w m) (κ:Nat):MemOk G w (m.bump κ):=
 h.grow (Gh.Le.refl _ _) (fun _ _=>rfl) (fun _ _ _ hc=>.inl hc) (fun b o u hc hb=>absurd (h.lt_size hc) (by omega)) fun _ hk=>.inl hk
theorem Evo.bump {G:Gh}{w:World}{m:Mem} (κ:Nat):Evo G w m G w (m.bump κ):=
 ⟨Gh.Le.refl _ _,BelowX.refl _ _ _,fun _ _ _ hc=>.inl hc,fun _ hb=>.inr hb,fun _ hk=>.inl hk⟩

theorem wp_of_value {P:Program}{o:Oper}{a:Act}{w w':World}{u:Value}{Kc:Act→World→Prop}{Q:Exit→Act→World→Prop} (h:(execOp a.eval o).run P w=.ok (.value u) w') (hK:Kc (a.put o.dst u) w'):o.wp P a w Kc Q:=by
 unfold Oper.wp
 rw [h]
 exact hK
theorem wp_of_skip {P:Program}{o:Oper}{a:Act}{w w':World}{Kc:Act→World→Prop}{Q:Exit→Act→World→Prop} (h:(execOp a.eval o).run P w=.ok .skip w') (hK:Kc (a.put o.dst undef) w'):o.wp P a w Kc Q:=by
 unfold Oper.wp
 rw [h]
 exact hK

theorem does_yields {P:Program}{o:Oper}{ρ:Operand→A}{m:Mem}{v:A} (h:Yields P o ρ m.bx v) (κ:Nat):Does P o ρ m v (m.bump κ):=fun G w a hok hr hl Kc Q hK=>by
 obtain ⟨u,h1,h2⟩:=h.1 G w m a hok rfl hr
 refine wp_of_value h1 (hK u w G (Evo.bump κ) (hok.bump κ) h2 (A.lt.mono (fun _ hk=>.inl hk) _ (h.2 m.us hl fun k cs hb=>?_)))
 obtain ⟨_,_,_,hl'⟩:=hok.box k cs hb
 exact hl'

/-! ### A new variable -/
def Mem.box (m:Mem) (κ:Nat) (cs:List A):Mem:={ m with bx:=upd m.bx κ (some cs),us:=Eng.bump m.us κ }

theorem newBox {G:Gh}{w:World}{m:Mem}{κ:Nat}{cs:List A}{us:List Value}{t:TypeId} (hok:MemOk G w m) (hf:m.fresh κ) (hr:RepAL G cs us) (h1:∀ x∈us,x.oneCell'=true) (hl:A.ltL m.us cs) :
  ∃ G',Evo G w m G' (w.alloc (.cells ⟨us⟩ t)) (m.box κ cs)∧MemOk G' (w.alloc (.cells ⟨us⟩ t)) (m.box κ cs)∧RepA G' (.ptr κ 0) (.pointer (some ⟨w.heap.size,0,none⟩)):=by
 have hne:∀ k,m.us k→k≠κ:=fun k hk e=>hf κ (Nat.le_refl _) (by omega) (e▸hk)
 have hle:G.Le m.us { G with E:=upd G.E κ (some w.heap.size) }:=⟨fun k hk=>upd_ne _ _ (hne k hk),fun _ _=>rfl,fun _ _ _ hc=>hc⟩
 have hmine:∀ b,Mine { G with E:=upd G.E κ (some w.heap.size) } m b→Mine G m b:=fun b ⟨k,hk,hE⟩=>⟨k,hk,by rw [←hle.E k (hok.lt k hk)];exact hE⟩
 have hg:=hok.grow (w':=w.alloc (.cells ⟨us⟩ t)) (us':=Eng.bump m.us κ) hle (fun b hb=>Below.heap_alloc w _ b hb) (fun _ _ _ hc=>.inl hc) (fun b o u hc hb=>by have:=hok.lt_size hc;omega) (fun _ hk=>.inl hk)
 have hl':A.ltL (Eng.bump m.us κ) cs:=A.ltL.mono (fun _ hk=>.inl hk) _ hl
 have hb:=hg.addBox (κ:=κ) (b:=w.heap.size) (cs:=cs) (upd_same _ _ _) ⟨us,t,heap_alloc_new w _,RepAL.mono hle _ _ hl hr,h1,fun j u hc=>by have:=hok.lt_size hc;omega⟩ hl' (fun hk=>hne κ (hok.lt κ hk) rfl)
  (fun hm=>by have:=Mine.lt hok (hmine _ hm);omega) (.inr ⟨Nat.le_refl _,by omega⟩)
 refine ⟨_,⟨hle,⟨rfl,rfl,rfl,by simp,fun k hk _=>Below.heap_alloc w _ k hk⟩,fun _ _ _ hc=>.inl hc,fun b hm=>?_,fun _ hk=>.inl hk⟩,hb,by unfold RepA;exact ⟨_,upd_same _ _ _,rfl⟩⟩
 obtain ⟨k,hk,hE⟩:=hm
 by_cases e:k=κ
 ·subst e
  simp only [upd_same,Option.some.injEq] at hE
  omega
 ·right
  refine ⟨k,?_,by simpa [upd_ne _ _ e] using hE⟩
  rcases hk with hk|hk
  ·left;simpa [Mem.box,upd_ne _ _ e] using hk
  ·exact .inr hk

theorem lt_ptr {n:Nat→Prop}{κ o:Nat} (h:n κ):(A.ptr κ o).lt n:=by unfold A.lt;exact h

section
variable {P:Program}{o:Oper}{ρ:Operand→A}{m:Mem}{κ:Nat}

theorem does_box {t:TypeId}{x:Operand}{cs:List A} (h:o.op=.box t x) (hx:cells1 (ρ x)=some cs) (hf:m.fresh κ):Does P o ρ m (.ptr κ 0) (m.box κ cs):=fun G w a hok hr hl Kc Q hK=>by
 obtain ⟨us,h1,h2,h3⟩:=cells1_rep hx (hr x)
 obtain ⟨G',e1,e2,e3⟩:=newBox (t:=t) hok hf h2 h3 (cells1_lt hx (hl x))
 refine wp_of_value ?_ (hK _ _ G' e1 e2 e3 (lt_ptr (.inr ⟨Nat.le_refl _,by omega⟩)))
 unfold execOp
 rw [h]
 simp only [Instr.box,newVar,newRow,h1,Sem.run_bind,run_newObj,Result.andThen_ok,Sem.run_pure]
 rfl

theorem does_alloc {t:TypeId}{zs:List Value} (h:o.op=.alloc t) (hz:tyZero P t=some zs) (hf:m.fresh κ):Does P o ρ m (.ptr κ 0) (m.box κ (zs.map fun x=>.d (.v x))):=fun G w a hok hr hl Kc Q hK=>by
 obtain ⟨z,h1,h2,h3⟩:=tyZero_run hz w
 obtain ⟨G',e1,e2,e3⟩:=newBox (t:=t) hok hf (RepAL_v zs) h3 (ltL_v zs)
 refine wp_of_value ?_ (hK _ _ G' e1 e2 e3 (lt_ptr (.inr ⟨Nat.le_refl _,by omega⟩)))
 unfold execOp
 rw [h]
 simp only [Instr.alloc,newVar,newRow,h1,h2,Sem.run_bind,run_newObj,Result.andThen_ok,Sem.run_pure]
 rfl

end
end Go.Proofs.YtaammoodcgfhpaaDoor.Eng
namespace Go.Proofs.YtaammoodcgfhpaaDoor.Eng
open Go Go.RowKit

/-! ### Storing -/
def Mem.put (m:Mem) (k:Nat) (cs:List A):Mem:={ m with bx:=upd m.bx k (some cs) }

theorem does_store {P:Program}{o:Oper}{ρ:Operand→A}{m:Mem}{t:TypeId}{ad x:Operand}{k off:Nat}{cs xs:List A}{g:Bool} (h:o.op=.store t ad x) (ha:ρ ad=.ptr k off) (hb:m.bx k=some cs) (hx:cells1 (ρ x)=some xs)
  (ht:tyK P t=some (g,xs.length)) (hl:off+xs.length≤cs.length):Does P o ρ m .top (m.put k (splice cs xs off)):=fun G w a hok hr hlt Kc Q hK=>by
 obtain ⟨b,hE,⟨vs,ty,h1,h2,h3,h4⟩,h5⟩:=hok.box k cs hb
 have hra:=hr ad
 rw [ha] at hra
 unfold RepA at hra
 obtain ⟨b',hE',hav⟩:=hra
 rw [hE] at hE'
 have:=Option.some.inj hE';subst this
 obtain ⟨us,hu1,hu2,hu3⟩:=cells1_rep hx (hr x)
 have hlen:=hu2.get.1
 have hlen2:=h2.get.1
 have hst:=run_storeCells_at (P:=P) b off ty us 0 ⟨vs⟩ w h1 (by simp;omega) hu3
 simp only [Nat.add_zero] at hst
 have hmine:Mine G m b:=⟨k,.inl (by rw [hb];rfl),hE⟩
 have hlive:∀ j,Mem.live (m.put k (splice cs xs off)) j→m.live j:=fun j hj=>by
  rcases hj with hj|hj
  ·by_cases e:j=k
   ·subst e;exact .inl (by rw [hb];rfl)
   ·left;simpa [Mem.put,upd_ne _ _ e] using hj
  ·exact .inr hj
 have hother:∀ j,j≠b→(w.setRow b (vs.take off++us++vs.drop (off+us.length)).toArray).heap[j]?=w.heap[j]?:=fun j hj=>setRow_other w b j _ hj
 have hnb:∀ {j b'':Nat},m.live j→j≠k→G.E j=some b''→b''≠b:=fun hj hne hE'' e=>hne (hok.inj _ _ b hj (.inl (by rw [hb];rfl)) (e▸hE'') hE)
 have hev:Evo G w m G (w.setRow b (vs.take off++us++vs.drop (off+us.length)).toArray) (m.put k (splice cs xs off)):=
  ⟨Gh.Le.refl _ _,⟨rfl,rfl,rfl,by simp,fun j _ hj=>hother j fun e=>hj (e▸hmine)⟩,fun _ _ _ hc=>.inl hc,fun b'' ⟨j,hj,hE''⟩=>.inr ⟨j,hlive j hj,hE''⟩,fun _ hk=>hk⟩
 have hmk:MemOk G (w.setRow b (vs.take off++us++vs.drop (off+us.length)).toArray) (m.put k (splice cs xs off)):=by
  refine ⟨⟨fun b'' o' u hc=>?_,fun b'' o' u hc hb2=>?_,hok.cok.gl,hok.cok.tb.keep hok.cok.gl fun b3 _ _ _ _ h0' hC'=>hother b3 fun e3=>(hC' 0 h0').elim fun u3 hu3=>h4 0 u3 (e3▸hu3)⟩,fun j cs' hj=>?_,fun j n e z hj b'' hE''=>?_,fun j j' b'' hj hj' hE1 hE2=>hok.inj j j' b'' (hlive j hj) (hlive j' hj') hE1 hE2,fun j hj=>hok.lt j (hlive j hj),fun j hj=>?_⟩
  ·have hne:b''≠b:=fun e=>h4 o' u (e▸hc)
   have hc':=hok.cell b'' o' u hc
   exact ⟨(World.cell?_of_block (w:=w) (a:=⟨b'',o',none⟩) (hother b'' hne)).trans hc'.1,hc'.2⟩
  ·have hne:b''≠b:=fun e=>h4 o' u (e▸hc)
   rw [frz_of_block (hother b'' hne)]
   exact hok.cok.nf _ _ _ hc hb2
  ·by_cases e:j=k
   ·subst e
    simp only [Mem.put,upd_same,Option.some.injEq] at hj
    subst hj
    refine ⟨b,hE,⟨_,ty,setRow_heap w b _ _ ty _ h1,?_,?_,h4⟩,ltL_append (ltL_append (ltL_take _ h5) (cells1_lt hx (hlt x))) (ltL_drop _ h5)⟩
    ·unfold splice
     rw [hlen]
     exact RepAL.append (RepAL.append (RepAL.take _ h2) hu2) (RepAL.drop _ h2)
    ·intro y hy
     rcases List.mem_append.1 hy with hy|hy
     ·rcases List.mem_append.1 hy with hy|hy
      ·exact h3 y (List.mem_of_mem_take hy)
      ·exact hu3 y hy
     ·exact h3 y (List.mem_of_mem_drop hy)
   ·have hj0:m.bx j=some cs':=by simpa [Mem.put,upd_ne _ _ e] using hj
    obtain ⟨b'',g1,⟨vs',ty',g2,g3,g4,g5⟩,g6⟩:=hok.box j cs' hj0
    have hne:=hnb (.inl (by rw [hj0];rfl)) e g1
    exact ⟨b'',g1,⟨vs',ty',(hother b'' hne).trans g2,g3,g4,g5⟩,g6⟩
  ·obtain ⟨cur,g1,g2,g3,g4⟩:=hok.row j n e z hj b'' hE''
   have hne:b''≠b:=fun e'=>by
    subst e'
    have:j=k:=hok.inj j k b'' (.inr (by rw [show m.al j=some (n,e,z) from hj];rfl)) (.inl (by rw [hb];rfl)) hE'' hE
    subst this
    have hs:=hok.sep j (by rw [hb];rfl)
    rw [show m.al j=some (n,e,z) from hj] at hs
    cases hs
   exact ⟨cur,(hother b'' hne).trans g1,g2,g3,g4⟩
  ·by_cases e:j=k
   ·subst e;exact hok.sep j (by rw [hb];rfl)
   ·exact hok.sep j (by simpa [Mem.put,upd_ne _ _ e] using hj)
 refine wp_of_skip ?_ (hK undef _ G hev hmk (by unfold RepA;trivial) (by unfold A.lt;trivial))
 obtain ⟨r1,r2⟩:=tyK_run ht w
 unfold execOp
 rw [h]
 simp only [Instr.storeAt,hav,Instr.sureAddr,storeVar,Sem.run_bind,Sem.run_pure,Result.andThen_ok,r1,hu1,List.size_toArray,hlen,ne_eq,not_true_eq_false,if_false,hst]

/-! ### Rows -/
theorem RepEs.list {C:CellR}{z:Nat}:∀ {es:List (List D)}{b o:Nat},RepEs C z es b o→∃ us,RepL C es.flatten us∧us.length=es.length*z∧∀ (i:Nat) u,us[i]?=some u→C b (o+i) u
 | [],b,o,h=>⟨[],by simp [RepL],by simp,fun i u h=>by simp at h⟩
 | e::es,b,o,h=>by
  unfold RepEs at h
  obtain ⟨h1,h2,h3⟩:=h
  obtain ⟨us,g1,g2⟩:=h2.list
  obtain ⟨vs,k1,k2,k3⟩:=h3.list
  have hl:=g1.get.1
  refine ⟨us++vs,?_,by simp only [List.length_append,List.length_cons,k2,Nat.add_mul];omega,fun i u hu=>?_⟩
  ·simp only [List.flatten_cons]
   clear h2 h3 g2 k2 k3 h1 hl
   induction e generalizing us with
   | nil=>unfold RepL at g1;subst g1;exact k1
   | cons c cs ih=>
    unfold RepL at g1
    obtain ⟨u,us',rfl,q1,q2⟩:=g1
    simp only [List.cons_append]
    unfold RepL
    exact ⟨u,_,rfl,q1,ih us' q2⟩
  ·rcases Nat.lt_or_ge i us.length with hi|hi
   ·rw [List.getElem?_append_left hi] at hu
    exact g2 i u hu
   ·rw [List.getElem?_append_right hi] at hu
    have:=k3 (i - us.length) u hu
    rw [show o+i=o+z+(i - us.length) by omega]
    exact this
theorem RepCs.ofList {C:CellR}:∀ {cs:List D}{us:List Value}{b o:Nat},RepL C cs us→(∀ (i:Nat) u,us[i]?=some u→C b (o+i) u)→RepCs C cs b o
 | [],us,b,o,h,_=>by unfold RepCs;trivial
 | c::cs,us,b,o,h,k=>by
  unfold RepL at h
  obtain ⟨u,us',rfl,h1,h2⟩:=h
  unfold RepCs
  exact ⟨⟨u,k 0 u rfl,h1⟩,RepCs.ofList h2 fun i v hv=>by rw [show o+1+i=o+(i+1) by omega];exact k (i+1) v hv⟩
theorem RepL.split {C:CellR}:∀ {xs ys:List D}{us:List Value},RepL C (xs++ys) us→RepL C xs (us.take xs.length)∧RepL C ys (us.drop xs.length)
 | [],ys,us,h=>⟨by simp [RepL],h⟩
 | x::xs,ys,us,h=>by
  simp only [List.cons_append] at h
  unfold RepL at h
  obtain ⟨u,us',rfl,h1,h2⟩:=h
  obtain ⟨h3,h4⟩:=h2.split
  refine ⟨?_,h4⟩
  simp only [List.length_cons,List.take_succ_cons]
  unfold RepL
  exact ⟨u,_,rfl,h1,h3⟩
theorem RepL.append {C:CellR}:∀ {xs ys:List D}{us vs:List Value},RepL C xs us→RepL C ys vs→RepL C (xs++ys) (us++vs)
 | [],ys,us,vs,h,k=>by
  unfold RepL at h
  subst h
  exact k
 | x::xs,ys,us,vs,h,k=>by
  unfold RepL at h
  obtain ⟨u,us',rfl,h1,h2⟩:=h
  simp only [List.cons_append]
  unfold RepL
  exact ⟨u,_,rfl,h1,RepL.append h2 k⟩
theorem RepEs.ofList {C:CellR}{z:Nat}:∀ {es:List (List D)}{us:List Value}{b o:Nat},(∀ e∈es,e.length=z)→RepL C es.flatten us→(∀ (i:Nat) u,us[i]?=some u→C b (o+i) u)→RepEs C z es b o
 | [],us,b,o,_,_,_=>by unfold RepEs;trivial
 | e::es,us,b,o,hz,h,k=>by
  simp only [List.flatten_cons] at h
  obtain ⟨h1,h2⟩:=h.split
  have he:=hz e (by simp)
  unfold RepEs
  refine ⟨he,RepCs.ofList h1 fun i u hu=>k i u ?_,RepEs.ofList (fun e' he'=>hz e' (by simp [he'])) h2 fun i u hu=>?_⟩
  ·rw [List.getElem?_take] at hu
   split at hu
   ·exact hu
   ·cases hu
  ·rw [List.getElem?_drop] at hu
   rw [show o+z+i=o+(e.length+i) by omega]
   exact k _ u hu
theorem RepEs.len {C:CellR}{z:Nat}:∀ {es:List (List D)}{b o:Nat},RepEs C z es b o→∀ e∈es,e.length=z
 | [],b,o,_,e,he=>by cases he
 | e0::es,b,o,h,e,he=>by
  unfold RepEs at h
  rcases List.mem_cons.1 he with rfl|he
  ·exact h.1
  ·exact h.2.2.len e he
theorem flatten_len {z:Nat}:∀ {es:List (List D)},(∀ e∈es,e.length=z)→es.flatten.length=es.length*z
 | [],_=>by simp
 | e::es,h=>by
  have ih:=flatten_len (z:=z) (es:=es) fun e' he'=>h e' (List.mem_cons_of_mem _ he')
  have h0:=h e (List.mem_cons_self ..)
  simp only [List.flatten_cons,List.length_append,List.length_cons,Nat.add_mul]
  omega

def Mem.row (m:Mem) (κ n:Nat) (e:TypeId) (z:Nat):Mem:={ m with al:=upd m.al κ (some (n,e,z)),us:=Eng.bump m.us κ }

theorem newRowOk {G:Gh}{w w':World}{m:Mem}{κ:Nat}{es:List (List D)}{us:List Value}{cur:Array Value}{e:TypeId}{z cp:Nat} (hok:MemOk G w m) (hf:m.fresh κ) (hz:∀ e∈es,e.length=z) (hr:RepL G.C es.flatten us) (h1:∀ x∈us,x.oneCell'=true)
  (hh:w'.heap=w.heap.push (.cells cur e)) (hos:w'.os=w.os∧w'.tape=w.tape∧w'.output=w.output) (hcur:cur.toList.take (es.length*z)=us) (hsz:cur.size=cp*z) (hn:es.length≤cp) (hm:cp≤maxLen) (hone:∀ x∈cur.toList,x.oneCell'=true) :
  ∃ G',Evo G w m G' w' (m.row κ es.length e z)∧MemOk G' w' (m.row κ es.length e z)∧RepA G' (.own κ e z es) (.slice (some ⟨w.heap.size,0,none⟩) es.length cp):=by
 have hne:∀ k,m.us k→k≠κ:=fun k hk e=>hf κ (Nat.le_refl _) (by omega) (e▸hk)
 let G':Gh:={ E:=upd G.E κ (some w.heap.size),cp:=upd G.cp κ cp,C:=fun b o u=>G.C b o u∨(b=w.heap.size∧us[o]?=some u) }
 have hle:G.Le m.us G':=⟨fun k hk=>upd_ne _ _ (hne k hk),fun k hk=>upd_ne _ _ (hne k hk),fun _ _ _ hc=>.inl hc⟩
 have hmine:∀ b,Mine G' m b→Mine G m b:=fun b ⟨k,hk,hE⟩=>⟨k,hk,by rw [←hle.E k (hok.lt k hk)];exact hE⟩
 have hold:∀ b,b<w.heap.size→w'.heap[b]?=w.heap[b]?:=fun b hb=>by rw [hh];simp [Array.getElem?_push,Nat.ne_of_lt hb]
 have hnew:w'.heap[w.heap.size]?=some (.cells cur e):=by rw [hh];simp
 have hlen:us.length=es.length*z:=by rw [←hr.get.1];exact flatten_len hz
 have hcl:∀ o u,us[o]?=some u→w'.cell? ⟨w.heap.size,o,none⟩=some u∧u.oneCell'=true:=fun o u hu=>by
  refine ⟨?_,h1 u (List.mem_of_getElem? hu)⟩
  rw [cell_of_row w' _ o cur e (0,0) hnew]
  rw [←hcur,List.getElem?_take] at hu
  split at hu
  ·simpa using hu
  ·cases hu
 have hg:=hok.grow (G':=G') (w':=w') (us':=Eng.bump m.us κ) hle hold (fun b o u hc=>hc.imp id fun h=>by omega) (fun b o u hc hb=>by
  rcases hc with hc|⟨rfl,hu⟩
  ·have:=hok.lt_size hc;omega
  ·exact ⟨hcl o u hu,frz_of_cells hnew⟩) (fun _ hk=>.inl hk)
 have hbn:m.bx κ=none:=by
  cases hq:m.bx κ with
  | none=>rfl
  | some x=>exact absurd rfl (hne κ (hok.lt κ (.inl (by rw [hq];rfl))))
 have hb:=hg.addRow (κ:=κ) (n:=es.length) (e:=e) (z:=z) (fun b hE=>by
  have:w.heap.size=b:=by simpa [G'] using hE
  subst this
  refine ⟨⟨cur,hnew,by simpa [G'] using hsz,⟨by simpa [G'] using hn,hone⟩,fun j u hj hc=>?_⟩,fun hm=>by have:=Mine.lt hok (hmine _ hm);omega⟩
  rcases hc with hc|⟨_,hu⟩
  ·have:=hok.lt_size hc;omega
  ·have:=(List.getElem?_eq_some_iff.1 hu).1
   omega) hbn (.inr ⟨Nat.le_refl _,by omega⟩)
 refine ⟨G',⟨hle,⟨hos.1,hos.2.1,hos.2.2,by rw [hh];simp,fun k hk _=>hold k hk⟩,fun b o u hc=>hc.imp id fun h=>.inl (by omega),fun b hm=>?_,fun _ hk=>.inl hk⟩,hb,?_⟩
 ·obtain ⟨k,hk,hE⟩:=hm
  by_cases e':k=κ
  ·subst e'
   have:w.heap.size=b:=by simpa [G'] using hE
   omega
  ·right
   refine ⟨k,?_,by simpa [G',upd_ne _ _ e'] using hE⟩
   rcases hk with hk|hk
   ·exact .inl hk
   ·right;simpa [Mem.row,upd_ne _ _ e'] using hk
 ·unfold RepA RepOwn
  right
  refine ⟨w.heap.size,upd_same _ _ _,by simp [G'],by simpa [G'] using hn,by simpa [G'] using hm,RepEs.ofList (us:=us) hz (RepL.mono hle.C _ _ hr) fun i u hu=>?_⟩
  exact .inr ⟨rfl,by simpa using hu⟩
theorem lt_own {n:Nat→Prop}{κ z:Nat}{e:TypeId}{es:List (List D)} (h:n κ):(A.own κ e z es).lt n:=by unfold A.lt;exact h

end Go.Proofs.YtaammoodcgfhpaaDoor.Eng
namespace Go.Proofs.YtaammoodcgfhpaaDoor.Eng
open Go Go.RowKit

mutual
def frz:A→Option D
 | .d x=>some x
 | .own _ _ z es=>some (.sl z es)
 | .agg cs=>(frzL cs).map .agg
 | .dec _ _ z es _=>some (.sl z es)
 | _=>none
def frzL:List A→Option (List D)
 | []=>some []
 | c::cs=>match frz c,frzL cs with
  | some x,some xs=>some (x::xs)
  | _,_=>none
end
theorem own_rep {G:Gh}{k z:Nat}{e:TypeId}{es:List (List D)}{u:Value} (h:RepA G (.own k e z es) u):RepD G.C (.sl z es) u:=by
 have:=elemsOf_rep (x:=.own k e z es) rfl h
 unfold RepD
 exact this
mutual
theorem frz_rep {G:Gh}:∀ {x:A}{y:D}{u:Value},frz x=some y→RepA G x u→RepD G.C y u
 | .d x,y,u,h,hr=>by
  simp only [frz,Option.some.injEq] at h
  subst h
  unfold RepA at hr
  exact hr
 | .own k e z es,y,u,h,hr=>by
  simp only [frz,Option.some.injEq] at h
  subst h
  exact own_rep hr
 | .agg cs,y,u,h,hr=>by
  simp only [frz,Option.map_eq_some_iff] at h
  obtain ⟨ds,h1,rfl⟩:=h
  unfold RepA at hr
  obtain ⟨us,rfl,h2,h3⟩:=hr
  unfold RepD
  exact ⟨us,rfl,frzL_rep h1 h2,h3⟩
 | .top,y,u,h,_=>by simp [frz] at h
 | .ptr _ _,y,u,h,_=>by simp [frz] at h
 | .arr _ _ _,y,u,h,_=>by simp [frz] at h
 | .clo _ _ _,y,u,h,_=>by simp [frz] at h
 | .ifc _ _,y,u,h,_=>by simp [frz] at h
 | .tup _,y,u,h,_=>by simp [frz] at h
 | .sow _ _ _ _ _,y,u,h,_=>by simp [frz] at h
 | .dec k e z es ks,y,u,h,hr=>by
  simp only [frz,Option.some.injEq] at h
  subst h
  refine own_rep (k:=k) (e:=e) ?_
  unfold RepA at hr ⊢
  exact hr.own
theorem frzL_rep {G:Gh}:∀ {xs:List A}{ys:List D}{us:List Value},frzL xs=some ys→RepAL G xs us→RepL G.C ys us
 | [],ys,us,h,hr=>by
  simp only [frzL,Option.some.injEq] at h
  subst h
  unfold RepAL at hr
  unfold RepL
  exact hr
 | c::cs,ys,us,h,hr=>by
  simp only [frzL] at h
  split at h
  ·rename_i x xs h1 h2
   simp only [Option.some.injEq] at h
   subst h
   unfold RepAL at hr
   obtain ⟨u,us',rfl,h3,h4⟩:=hr
   unfold RepL
   exact ⟨u,us',rfl,frz_rep h1 h3,frzL_rep h2 h4⟩
  ·cases h
end
def cellsD (x:A):Option (List D):=match cells1 x with
 | some cs=>frzL cs
 | none=>none
theorem cellsD_rep {G:Gh}{x:A}{cs:List D}{u:Value} (h:cellsD x=some cs) (hr:RepA G x u):∃ us,u.cells=⟨us⟩∧RepL G.C cs us∧∀ x∈us,x.oneCell'=true:=by
 unfold cellsD at h
 split at h
 ·rename_i cs' hc
  obtain ⟨us,h1,h2,h3⟩:=cells1_rep hc hr
  exact ⟨us,h1,frzL_rep h h2,h3⟩
 ·cases h
def cellsDs:List A→Option (List (List D))
 | []=>some []
 | c::cs=>match cellsD c,cellsDs cs with
  | some x,some xs=>some (x::xs)
  | _,_=>none

theorem fill_all (size:Nat):∀ (vs:List Value) (i:Nat) (cells:Array Value),(∀ v∈vs,v.cells.size=size)→(i+vs.length)*size≤cells.size→
  Instr.fill (fun i=>some (i*size,size)) cells (vs.zipIdx i |>.map fun (v,j)=>(j,v))=some (cells.toList.take (i*size)++(vs.map (·.cells.toList)).flatten++cells.toList.drop ((i+vs.length)*size)).toArray
 | [],i,cells,_,_=>by simp [Instr.fill]
 | v::vs,i,cells,hv,hl=>by
  have h0:=hv v (by simp)
  have hl':i*size+size+vs.length*size≤cells.size:=by
   simp only [List.length_cons] at hl
   have:(i+(vs.length+1))*size=i*size+size+vs.length*size:=by rw [Nat.add_mul,Nat.add_mul];omega
   omega
  simp only [List.zipIdx_cons,List.map_cons,Instr.fill,h0]
  rw [if_neg (by simp;omega)]
  have hf:∀ (l:List Value) (j:Nat) (cs:Array Value),i*size+j+l.length≤cs.size→(l.zipIdx j).foldl (fun cs (x:Value × Nat)=>cs.setIfInBounds (i*size+x.2) x.1) cs=(cs.toList.take (i*size+j)++l++cs.toList.drop (i*size+j+l.length)).toArray:=by
   intro l
   induction l with
   | nil=>intro j cs _;simp
   | cons x l ih=>
    intro j cs hc
    simp only [List.zipIdx_cons,List.foldl_cons]
    rw [ih (j+1) _ (by simp at hc ⊢;omega)]
    congr 1
    simp only [Array.toList_setIfInBounds]
    simp only [List.length_cons] at hc
    have:=list_seg_step cs.toList (i*size+j) x l (by simp;omega)
    rw [show i*size+(j+1)=i*size+j+1 by omega,this]
    rfl
  have hz:v.cells.zipIdx.foldl (fun cs (x:Value × Nat)=>cs.setIfInBounds (i*size+x.2) x.1) cells=(cells.toList.take (i*size)++v.cells.toList++cells.toList.drop (i*size+size)).toArray:=by
   have:=hf v.cells.toList 0 cells (by simp;omega)
   rw [←Array.foldl_toList,Array.toList_zipIdx]
   simpa [h0] using this
  have hz':Array.foldl (fun cs x=>match x with|(c,j)=>cs.setIfInBounds (i*size+j) c) cells v.cells.zipIdx=(cells.toList.take (i*size)++v.cells.toList++cells.toList.drop (i*size+size)).toArray:=hz
  rw [hz']
  have hsum:(i+1+vs.length)*size=i*size+size+vs.length*size:=by rw [Nat.add_mul,Nat.add_mul,Nat.one_mul]
  rw [fill_all size vs (i+1) _ (fun y hy=>hv y (by simp [hy])) (by simp [h0];omega)]
  congr 2
  have hlen:(cells.toList.take (i*size)++v.cells.toList).length=(i+1)*size:=by simp [h0,Nat.add_mul];omega
  have e1:(cells.toList.take (i*size)++v.cells.toList++cells.toList.drop (i*size+size)).take ((i+1)*size)=cells.toList.take (i*size)++v.cells.toList:=by rw [←hlen];exact List.take_left
  have e2:(cells.toList.take (i*size)++v.cells.toList++cells.toList.drop (i*size+size)).drop ((i+1+vs.length)*size)=cells.toList.drop ((i+(v::vs).length)*size):=by
   have:(i+1+vs.length)*size=(i+1)*size+vs.length*size:=Nat.add_mul ..
   rw [this,←List.drop_drop,←hlen,List.drop_left,List.drop_drop]
   congr 1
   simp only [List.length_cons]
   rw [Nat.add_mul,Nat.add_mul];omega
  show List.take ((i+1)*size) _++_++List.drop ((i+1+vs.length)*size) _=_
  rw [e1,e2,List.flatten_cons]
  simp only [List.append_assoc]

theorem cellsDs_rep {G:Gh}:∀ {xs:List A}{es:List (List D)}{us:List Value},cellsDs xs=some es→RepAL G xs us→RepL G.C es.flatten (us.map (·.cells.toList)).flatten∧(∀ x∈(us.map (·.cells.toList)).flatten,x.oneCell'=true)∧us.map (·.cells.size)=es.map List.length∧es.length=xs.length
 | [],es,us,h,hr=>by
  simp only [cellsDs,Option.some.injEq] at h
  subst h
  unfold RepAL at hr
  subst hr
  simp [RepL]
 | c::cs,es,us,h,hr=>by
  simp only [cellsDs] at h
  split at h
  ·rename_i x xs h1 h2
   simp only [Option.some.injEq] at h
   subst h
   unfold RepAL at hr
   obtain ⟨u,us',rfl,h3,h4⟩:=hr
   obtain ⟨vs,g1,g2,g3⟩:=cellsD_rep h1 h3
   obtain ⟨k1,k2,k3,k4⟩:=cellsDs_rep h2 h4
   simp only [List.map_cons,List.flatten_cons,g1,List.size_toArray,List.length_cons,k3,g2.get.1,k4]
   refine ⟨RepL.append g2 k1,fun y hy=>?_,trivial,trivial⟩
   rcases List.mem_append.1 hy with hy|hy
   ·exact g3 y hy
   ·exact k2 y hy
  ·cases h

def tyRow (P:Program) (e:TypeId):Option Nat:=(P.info? e).bind fun i=>i.zero.bind fun z=>match decide (z.cells.size=i.size∧0<i.size∧i.bytes≤4096∧z.cells.toList.all Value.oneCell'=true) with
 | true=>some i.size
 | false=>none
theorem tyRow_spec {P:Program}{e:TypeId}{z:Nat} (h:tyRow P e=some z):∃ i zv,P.info? e=some i∧i.zero=some zv∧i.size=z∧zv.cells.size=z∧0<z∧i.bytes≤4096:=by
 unfold tyRow at h
 cases hi:P.info? e with
 | none=>rw [hi] at h;cases h
 | some i=>
  rw [hi] at h
  simp only [Option.bind_some] at h
  cases hz:i.zero with
  | none=>rw [hz] at h;cases h
  | some zv=>
   rw [hz] at h
   simp only [Option.bind_some] at h
   split at h
   ·rename_i hd
    have:=of_decide_eq_true hd
    have e2:=Option.some.inj h
    exact ⟨i,zv,rfl,hz,e2,by omega,by omega,this.2.2.1⟩
   ·cases h
theorem tyRow_one {P:Program}{e:TypeId}{z:Nat} (h:tyRow P e=some z) {i:TypeInfo}{zv:Value} (hi:P.info? e=some i) (hz:i.zero=some zv):∀ v∈zv.cells.toList,v.oneCell'=true:=by
 unfold tyRow at h
 rw [hi] at h
 simp only [Option.bind_some,hz] at h
 split at h
 ·rename_i hd
  have:=(of_decide_eq_true hd).2.2.2
  rw [List.all_eq_true] at this
  exact this
 ·cases h

theorem map_len_all {z:Nat}{us:List Value}{es:List (List D)} (h:us.map (·.cells.size)=es.map List.length) (hz:∀ e∈es,e.length=z):∀ v∈us,v.cells.size=z:=by
 intro v hv
 have:v.cells.size∈us.map (·.cells.size):=List.mem_map.2 ⟨v,hv,rfl⟩
 rw [h] at this
 obtain ⟨e,he,h2⟩:=List.mem_map.1 this
 rw [←h2]
 exact hz e he
theorem RepAL_map {G:Gh}{a:Act}{ρ:Operand→A} (hr:∀ x,RepA G (ρ x) (a.eval x)):∀ (xs:List Operand),RepAL G (xs.map ρ) (xs.map a.eval)
 | []=>by simp [RepAL]
 | x::xs=>by
  simp only [List.map_cons]
  unfold RepAL
  exact ⟨_,_,rfl,hr x,RepAL_map hr xs⟩

theorem does_buildSlice {P:Program}{o:Oper}{ρ:Operand→A}{m:Mem}{κ:Nat}{t e:TypeId}{len z:Nat}{parts:Array (Nat × Operand)}{xs:List Operand}{es:List (List D)} (h:o.op=.buildSlice t len parts) (hp:parts=((xs.zipIdx).map fun (x,j)=>(j,x)).toArray) (hlen:len=xs.length)
  (ht:tyElem P t=some e) (he:tyRow P e=some z) (hx:cellsDs (xs.map ρ)=some es) (hz:∀ e∈es,e.length=z) (hl:len*z≤16777216) (hf:m.fresh κ):Does P o ρ m (.own κ e z es) (m.row κ es.length e z):=fun G w a hok hr hlt Kc Q hK=>by
 obtain ⟨k1,k2,k3,k4⟩:=cellsDs_rep hx (RepAL_map hr xs)
 have hel:es.length=xs.length:=by simpa using k4
 obtain ⟨i,zv,hi,hzv,hsz,hzc,hpos,hby⟩:=tyRow_spec he
 have hall:=map_len_all k3 hz
 have hflat:((xs.map a.eval).map (·.cells.toList)).flatten.length=es.length*z:=by rw [←k1.get.1];exact flatten_len hz
 have hm:es.length≤maxLen:=by
  have:len≤len*z:=Nat.le_mul_of_pos_right _ hpos
  unfold maxLen
  omega
 obtain ⟨G',e1,e2,e3⟩:=newRowOk (w':={ w with heap:=w.heap.push (.cells ((xs.map a.eval).map (·.cells.toList)).flatten.toArray e) }) (cp:=es.length) hok hf hz k1 k2 rfl ⟨rfl,rfl,rfl⟩ (by rw [List.take_of_length_le (by rw [←hflat];simp)]) (by simpa using hflat) (Nat.le_refl _) hm (by simpa using k2)
 refine wp_of_value ?_ (hK _ _ G' e1 e2 e3 (lt_own (.inr ⟨Nat.le_refl _,by omega⟩)))
 have hfill:∀ (cells:Array Value),cells.size=len*z→Instr.fill (fun i=>some (i*z,z)) cells (parts.map fun x=>(x.1,a.eval x.2)).toList=some ((xs.map a.eval).map (·.cells.toList)).flatten.toArray:=fun cells hc=>by
  have:=fill_all z (xs.map a.eval) 0 cells hall (by simp [hc,hlen])
  have e4:(parts.map fun x=>(x.1,a.eval x.2)).toList=((xs.map a.eval).zipIdx 0).map fun (v,j)=>(j,v):=by
   rw [hp]
   simp [List.zipIdx_map,Function.comp_def]
  rw [e4,this]
  simp [hlen] at hc
  simp [hc]
 unfold execOp
 rw [h]
 have hps:(parts.map fun (i,x)=>(i,a.eval x))=parts.map fun x=>(x.1,a.eval x.2):=rfl
 simp only [Instr.buildSlice,hps,Sem.run_bind,run_underlying (tyElem_run ht),Result.andThen_ok,sizeOf,typeInfo,run_program,hi,Sem.run_pure,hsz]
 have h24:¬len*z>2 ^ 24:=by omega
 simp only [h24,if_false,Sem.run_pure,Result.andThen_ok,Sem.run_ite]
 by_cases h0:len*z=0
 ·simp only [h0,if_true,Sem.run_bind,Sem.run_pure,Result.andThen_ok]
  rw [hfill _ (by simp [h0])]
  simp [newRow,hel,hlen]
 ·simp only [h0,if_false,zeroValue,typeInfo,Sem.run_bind,run_program,Result.andThen_ok,hi,Sem.run_pure,hzv]
  rw [hfill _ (by simp)]
  simp [newRow,hel,hlen]

end Go.Proofs.YtaammoodcgfhpaaDoor.Eng
namespace Go.Proofs.YtaammoodcgfhpaaDoor.Eng
open Go Go.RowKit

theorem Evo.trans {G G1 G2:Gh}{w w1 w2:World}{m m1 m2:Mem} (h:Evo G w m G1 w1 m1) (k:Evo G1 w1 m1 G2 w2 m2):Evo G w m G2 w2 m2:=by
 have hl:∀ b,Mine G1 m1 b→w.heap.size≤b∨Mine G m b:=h.lv
 refine ⟨⟨fun i hi=>(k.le.E i (h.us i hi)).trans (h.le.E i hi),fun i hi=>(k.le.cp i (h.us i hi)).trans (h.le.cp i hi),fun b o u c=>k.le.C b o u (h.le.C b o u c)⟩,
  ⟨k.fw.os.trans h.fw.os,k.fw.tape.trans h.fw.tape,k.fw.output.trans h.fw.output,Nat.le_trans h.fw.size k.fw.size,fun b hb hx=>?_⟩,fun b o u hc=>?_,fun b hb=>?_,fun i hi=>k.us i (h.us i hi)⟩
 ·refine (k.fw.block b (Nat.lt_of_lt_of_le hb h.fw.size) fun hm=>?_).trans (h.fw.block b hb hx)
  rcases hl b hm with h1|h1
  ·omega
  ·exact hx h1
 ·rcases k.cn b o u hc with h1|h1|h1
  ·exact h.cn b o u h1
  ·exact .inr (.inl (Nat.le_trans h.fw.size h1))
  ·exact .inr (hl b h1)
 ·rcases k.lv b hb with h1|h1
  ·exact .inl (Nat.le_trans h.fw.size h1)
  ·exact hl b h1

def Mem.drop (m:Mem) (k:Nat):Mem:={ m with al:=upd m.al k none }
theorem Evo.drop {G:Gh}{w:World}{m:Mem} (k:Nat):Evo G w m G w (m.drop k):=by
 refine ⟨Gh.Le.refl _ _,BelowX.refl _ _ _,fun _ _ _ hc=>.inl hc,fun b ⟨j,hj,hE⟩=>.inr ⟨j,?_,hE⟩,fun _ hk=>hk⟩
 rcases hj with hj|hj
 ·exact .inl hj
 ·right
  by_cases e:j=k
  ·subst e;simp [Mem.drop] at hj
  ·simpa [Mem.drop,upd_ne _ _ e] using hj

theorem roomOk {G:Gh}{w:World}{m:Mem}{k κ g cap z n mm:Nat}{e:TypeId}{es es2:List (List D)}{cur:Array Value}{news:List Value} (hok:MemOk G w m) (hf:m.fresh κ) (hal:m.al k=some (n,e,z)) (hn:n=es.length) (hE:G.E k=some g) (hcp:G.cp k=cap)
  (hg:w.heap[g]?=some (.cells cur e (0,0))) (hsz:cur.size=cap*z) (hes:RepEs G.C z es g 0) (hnc:∀ j u,n*z≤j→¬G.C g j u) (hm:cap≤maxLen)
  (hl:news.length=mm*z) (hmm:mm=es2.length) (hr:RepL G.C es2.flatten news) (h1:∀ u∈news,u.oneCell'=true) (hz2:∀ e∈es2,e.length=z) (hroom:n+mm≤cap) (hco:∀ x∈cur.toList,x.oneCell'=true) :
  ∃ G',Evo G w m G' (w.setRow g (cur.toList.take (n*z)++news++cur.toList.drop (n*z+news.length)).toArray) ((m.drop k).row κ (es++es2).length e z)∧MemOk G' (w.setRow g (cur.toList.take (n*z)++news++cur.toList.drop (n*z+news.length)).toArray) ((m.drop k).row κ (es++es2).length e z)∧
   RepA G' (.own κ e z (es++es2)) (.slice (some ⟨g,0,none⟩) (n+mm) cap):=by
 subst hn hmm
 have hne:∀ k,m.us k→k≠κ:=fun k hk e=>hf κ (Nat.le_refl _) (by omega) (e▸hk)
 have hklive:m.live k:=.inr (by rw [hal];rfl)
 have hkus:=hok.lt k hklive
 have hkκ:=hne k hkus
 obtain ⟨xs,g1,g2,g3⟩:=hes.list
 have hxs:cur.toList.take (es.length*z)=xs:=by
  apply List.ext_getElem?
  intro i
  rw [List.getElem?_take]
  split
  ·rename_i hi
   have hx:xs[i]?=some xs[i]:=List.getElem?_eq_getElem (by omega)
   have:=(hok.cell _ _ _ (g3 i _ hx)).1
   rw [Nat.zero_add,cell_of_row w g i cur e (0,0) hg] at this
   rw [hx]
   simpa using this
  ·rw [List.getElem?_eq_none (by omega)]
 have hfit:es.length*z+es2.length*z≤cur.size:=by rw [hsz,←Nat.add_mul];exact Nat.mul_le_mul_right _ hroom
 let G':Gh:={ E:=upd G.E κ (some g),cp:=upd G.cp κ cap,C:=fun b o u=>G.C b o u∨(b=g∧(xs++news)[o]?=some u) }
 have hle:G.Le m.us G':=⟨fun k hk=>upd_ne _ _ (hne k hk),fun k hk=>upd_ne _ _ (hne k hk),fun _ _ _ hc=>.inl hc⟩
 have hw:∀ j,j≠g→(w.setRow g (cur.toList.take (es.length*z)++news++cur.toList.drop (es.length*z+news.length)).toArray).heap[j]?=w.heap[j]?:=fun j hj=>setRow_other w g j _ hj
 have hwg:=setRow_heap w g cur (cur.toList.take (es.length*z)++news++cur.toList.drop (es.length*z+news.length)).toArray e (0,0) hg
 have hcells:∀ o u,(xs++news)[o]?=some u→(w.setRow g (cur.toList.take (es.length*z)++news++cur.toList.drop (es.length*z+news.length)).toArray).cell? ⟨g,o,none⟩=some u:=fun o u hu=>by
  rw [cell_of_row _ g o _ e (0,0) hwg,hxs]
  simp only [List.getElem?_toArray]
  rw [List.getElem?_append_left (List.getElem?_eq_some_iff.1 hu).1]
  exact hu
 have hone:∀ (o:Nat) (u:Value),(xs++news)[o]?=some u→u.oneCell'=true:=fun o u hu=>by
  rcases List.mem_append.1 (List.mem_of_getElem? hu) with hm'|hm'
  ·obtain ⟨i,hi⟩:=List.getElem?_of_mem hm'
   exact (hok.cell _ _ _ (g3 i u hi)).2
  ·exact h1 u hm'
 have hgc:∀ o u,G.C g o u→xs[o]?=some u:=fun o u hc=>by
  have ho:o<es.length*z:=by
   rcases Nat.lt_or_ge o (es.length*z) with h|h
   ·exact h
   ·exact (hnc o u h hc).elim
  have hx:xs[o]?=some xs[o]:=List.getElem?_eq_getElem (by omega)
  have c1:=(hok.cell _ _ _ (g3 o _ hx)).1
  have c2:=(hok.cell _ _ _ hc).1
  rw [Nat.zero_add,c2] at c1
  rw [hx,←Option.some.inj c1]
 have hlvk:∀ j,Mem.live (m.drop k) j→m.live j∧j≠k:=fun j hj=>by
  rcases hj with hj|hj
  ·refine ⟨.inl hj,fun e'=>?_⟩
   subst e'
   have:=hok.sep j hj
   rw [hal] at this
   cases this
  ·by_cases e':j=k
   ·subst e';simp [Mem.drop] at hj
   ·exact ⟨.inr (by simpa [Mem.drop,upd_ne _ _ e'] using hj),e'⟩
 have hnb:∀ {j b:Nat},m.live j→j≠k→G.E j=some b→b≠g:=fun hj hne' hE' e'=>hne' (hok.inj _ _ g hj hklive (e'▸hE') hE)
 have hC'ne:∀ b,b≠g→∀ o u,G'.C b o u→G.C b o u:=fun b hb o u hc=>hc.elim id fun h=>absurd h.1 hb
 have htb:GLw (w.setRow g (cur.toList.take (es.length*z)++news++cur.toList.drop (es.length*z+news.length)).toArray):=hok.cok.tb.keep hok.cok.gl fun b vs ty fr k1 k2 k3=>by
  by_cases hb:b=g
  ·subst hb
   rw [hg] at k1
   cases k1
   by_cases hn0:news=[]
   ·rw [hwg,hg,hn0]
    simp
   ·exfalso
    have hp:=List.length_pos_iff.2 hn0
    obtain ⟨u,hu⟩:=k3 (es.length*z) (by omega)
    exact hnc _ u (Nat.le_refl _) hu
  ·exact hw b hb
 have base:MemOk G' (w.setRow g (cur.toList.take (es.length*z)++news++cur.toList.drop (es.length*z+news.length)).toArray) ((m.drop k).bump κ):=by
  refine ⟨⟨fun b o u hc=>?_,fun b o u hc hb2=>?_,hok.cok.gl.mono hle.C,htb⟩,fun j cs hj=>?_,fun j n' e' z' hj b hE'=>?_,fun j j' b hj hj' hE1 hE2=>?_,fun j hj=>.inl (hok.lt j (hlvk j hj).1),fun j hj=>?_⟩
  ·rcases hc with hc|⟨rfl,hu⟩
   ·by_cases hb:b=g
    ·subst hb
     have hx:=hgc o u hc
     have hxn:(xs++news)[o]?=some u:=by rw [List.getElem?_append_left (List.getElem?_eq_some_iff.1 hx).1];exact hx
     exact ⟨hcells o u hxn,hone o u hxn⟩
    ·have hc':=hok.cell b o u hc
     exact ⟨(World.cell?_of_block (w:=w) (a:=⟨b,o,none⟩) (hw b hb)).trans hc'.1,hc'.2⟩
   ·exact ⟨hcells o u hu,hone o u hu⟩
  ·by_cases hb:b=g
   ·subst hb
    exact frz_of_cells hwg
   ·rw [frz_of_block (hw b hb)]
    exact hok.cok.nf _ _ _ (hC'ne b hb o u hc) hb2
  ·obtain ⟨b,q1,⟨vs,ty,q2,q3,q4,q5⟩,q6⟩:=hok.box j cs hj
   have hjl:m.live j:=.inl (by rw [show m.bx j=some cs from hj];rfl)
   have hjk:=(hlvk j (.inl (by rw [show (m.drop k).bx j=some cs from hj];rfl))).2
   have hb:=hnb hjl hjk q1
   exact ⟨b,(hle.E j (hok.lt j hjl)).trans q1,⟨vs,ty,(hw b hb).trans q2,RepAL.mono hle _ _ q6 q3,q4,fun o u hc=>q5 o u (hC'ne b hb o u hc)⟩,A.ltL.mono (fun _ hk=>.inl hk) _ q6⟩
  ·have hjl:=hlvk j (.inr (by rw [show (m.drop k).al j=some (n',e',z') from hj];rfl))
   have hj0:m.al j=some (n',e',z'):=by simpa [Mem.bump,Mem.drop,upd_ne _ _ hjl.2] using hj
   rw [hle.E j (hok.lt j hjl.1)] at hE'
   obtain ⟨cur',q1,q2,q3,q4⟩:=hok.row j n' e' z' hj0 b hE'
   have hb:=hnb hjl.1 hjl.2 hE'
   rw [hle.cp j (hok.lt j hjl.1)]
   exact ⟨cur',(hw b hb).trans q1,q2,q3,fun o u ho hc=>q4 o u ho (hC'ne b hb o u hc)⟩
  ·have l1:=(hlvk j hj).1
   have l2:=(hlvk j' hj').1
   rw [hle.E j (hok.lt j l1)] at hE1
   rw [hle.E j' (hok.lt j' l2)] at hE2
   exact hok.inj j j' b l1 l2 hE1 hE2
  ·have:=hok.sep j hj
   by_cases e':j=k
   ·subst e';simp [Mem.bump,Mem.drop]
   ·simpa [Mem.bump,Mem.drop,upd_ne _ _ e'] using this
 have hmine:∀ b,Mine G' ((m.drop k).bump κ) b→Mine G m b∧b≠g:=fun b ⟨j,hj,hE'⟩=>by
  have hjl:=hlvk j hj
  rw [hle.E j (hok.lt j hjl.1)] at hE'
  exact ⟨⟨j,hjl.1,hE'⟩,hnb hjl.1 hjl.2 hE'⟩
 have hbn:m.bx κ=none:=by
  cases hq:m.bx κ with
  | none=>rfl
  | some x=>exact absurd rfl (hne κ (hok.lt κ (.inl (by rw [hq];rfl))))
 have hlen:(es++es2).length=es.length+es2.length:=List.length_append
 have hadd:=base.addRow (κ:=κ) (n:=(es++es2).length) (e:=e) (z:=z) (fun b hEκ=>by
  have:g=b:=by simpa [G'] using hEκ
  subst this
  refine ⟨⟨_,hwg,?_,⟨by simp [G',hlen];exact hroom,fun x hx=>?_⟩,fun j u hj hc=>?_⟩,fun hm'=>(hmine _ hm').2 rfl⟩
  ·simp only [G',upd_same,List.size_toArray,List.length_append,List.length_take,List.length_drop,Array.length_toList]
   omega
  ·simp only [List.mem_append] at hx
   rcases hx with (hx|hx)|hx
   ·exact hco x (List.mem_of_mem_take hx)
   ·exact h1 x hx
   ·exact hco x (List.mem_of_mem_drop hx)
  ·rw [hlen,Nat.add_mul] at hj
   rcases hc with hc|⟨_,hu⟩
   ·exact hnc j u (by omega) hc
   ·have:=(List.getElem?_eq_some_iff.1 hu).1
    rw [List.length_append] at this
    omega) hbn (.inr ⟨Nat.le_refl _,by omega⟩)
 refine ⟨G',⟨hle,⟨rfl,rfl,rfl,by simp,fun b _ hx=>hw b fun e'=>hx (e'▸⟨k,hklive,hE⟩)⟩,fun b o u hc=>?_,fun b hb=>?_,fun _ hk=>.inl hk⟩,hadd,?_⟩
 ·rcases hc with hc|⟨rfl,_⟩
  ·exact .inl hc
  ·exact .inr (.inr ⟨k,hklive,hE⟩)
 ·right
  obtain ⟨j,hj,hE'⟩:=hb
  by_cases e':j=κ
  ·subst e'
   have:g=b:=by simpa [G'] using hE'
   subst this
   exact ⟨k,hklive,hE⟩
  ·refine (hmine b ⟨j,?_,hE'⟩).1
   rcases hj with hj|hj
   ·exact .inl hj
   ·right;simpa [Mem.row,Mem.bump,upd_ne _ _ e'] using hj
 ·unfold RepA RepOwn
  right
  refine ⟨g,upd_same _ _ _,by simp [G'],by simp [G'];exact hroom,by simpa [G'] using hm,RepEs.ofList (us:=xs++news) (fun y hy=>?_) ?_ fun i u hu=>?_⟩
  ·rcases List.mem_append.1 hy with hy|hy
   ·exact hes.len y hy
   ·exact hz2 y hy
  ·rw [List.flatten_append]
   exact RepL.append (RepL.mono hle.C _ _ g1) (RepL.mono hle.C _ _ hr)
  ·exact .inr ⟨rfl,by simpa using hu⟩

end Go.Proofs.YtaammoodcgfhpaaDoor.Eng
namespace Go.Proofs.YtaammoodcgfhpaaDoor.Eng
open Go Go.RowKit

theorem nilRowOk {G:Gh}{w:World}{m:Mem}{κ:Nat} (hok:MemOk G w m) (hf:m.fresh κ) (e:TypeId) (z:Nat):∃ G',Evo G w m G' w (m.row κ 0 e z)∧MemOk G' w (m.row κ 0 e z)∧RepA G' (.own κ e z []) (.slice none 0 0):=by
 have hne:∀ k,m.us k→k≠κ:=fun k hk e=>hf κ (Nat.le_refl _) (by omega) (e▸hk)
 let G':Gh:={ G with E:=upd G.E κ none }
 have hle:G.Le m.us G':=⟨fun k hk=>upd_ne _ _ (hne k hk),fun k hk=>rfl,fun _ _ _ hc=>hc⟩
 have hg:=hok.grow (G':=G') (w':=w) (us':=Eng.bump m.us κ) hle (fun _ _=>rfl) (fun _ _ _ hc=>.inl hc) (fun b o u hc hb=>absurd (hok.lt_size hc) (by omega)) (fun _ hk=>.inl hk)
 have hbn:m.bx κ=none:=by
  cases hq:m.bx κ with
  | none=>rfl
  | some x=>exact absurd rfl (hne κ (hok.lt κ (.inl (by rw [hq];rfl))))
 refine ⟨G',⟨hle,BelowX.refl _ _ _,fun _ _ _ hc=>.inl hc,fun b ⟨k,hk,hE⟩=>?_,fun _ hk=>.inl hk⟩,hg.addRow (κ:=κ) (n:=0) (e:=e) (z:=z) (fun b hE=>by simp [G'] at hE) hbn (.inr ⟨Nat.le_refl _,by omega⟩),by unfold RepA RepOwn;exact .inl ⟨upd_same _ _ _,rfl,rfl⟩⟩
 by_cases e':k=κ
 ·subst e';simp [G'] at hE
 ·right
  refine ⟨k,?_,by simpa [G',upd_ne _ _ e'] using hE⟩
  rcases hk with hk|hk
  ·exact .inl hk
  ·right;simpa [Mem.row,upd_ne _ _ e'] using hk

def elemsN (z:Nat):A→Option (List (List D))
 | .d (.v (.slice none 0 0))=>some []
 | .d (.sl z' es)=>if z'=z then some es else none
 | .own _ _ z' es=>if z'=z then some es else none
 | _=>none
theorem elemsN_rep {G:Gh}{w:World}{m:Mem} (hok:MemOk G w m) {z:Nat}{x:A}{es:List (List D)}{u:Value} (h:elemsN z x=some es) (hr:RepA G x u) :
  (es=[]∧∃ c,u=.slice none 0 c)∨∃ ad c news,u=.slice (some ad) es.length c∧news.length=es.length*z∧RepL G.C es.flatten news∧(∀ j v,news[j]?=some v→w.cell? (ad.add j)=some v)∧(∀ v∈news,v.oneCell'=true)∧(∀ e∈es,e.length=z):=by
 have key:∀ {x:A}{es:List (List D)},elemsOf x=some (z,es)→RepA G x u→(es=[]∧∃ c,u=.slice none 0 c)∨∃ ad c news,u=.slice (some ad) es.length c∧news.length=es.length*z∧RepL G.C es.flatten news∧(∀ j v,news[j]?=some v→w.cell? (ad.add j)=some v)∧(∀ v∈news,v.oneCell'=true)∧(∀ e∈es,e.length=z):=fun {x es} hx hr=>by
  obtain ⟨a,cap,h1,h2,h3,h4⟩:=elemsOf_rep hx hr
  rcases h4 with rfl|⟨b,o,rfl,hes⟩
  ·cases a with
   | none=>exact .inl ⟨rfl,cap,h1⟩
   | some ad=>exact .inr ⟨ad,cap,[],h1,by simp,by simp [RepL],fun j v hj=>(by simp at hj),(fun v hv=>(by simp at hv)),(fun e he=>(by simp at he))⟩
  ·obtain ⟨us,g1,g2,g3⟩:=hes.list
   refine .inr ⟨_,cap,us,h1,g2,g1,fun j v hj=>?_,fun v hv=>?_,hes.len⟩
   ·rw [addr_add]
    exact (hok.cell _ _ _ (g3 j v hj)).1
   ·obtain ⟨j,hj⟩:=List.getElem?_of_mem hv
    exact (hok.cell _ _ _ (g3 j v hj)).2
 unfold elemsN at h
 split at h
 ·have:=Option.some.inj h;subst this
  unfold RepA RepD at hr
  exact .inl ⟨rfl,0,hr⟩
 ·split at h
  ·rename_i hz;subst hz
   have:=Option.some.inj h;subst this
   exact key rfl hr
  ·cases h
 ·split at h
  ·rename_i hz;subst hz
   have:=Option.some.inj h;subst this
   exact key rfl hr
  ·cases h
 ·cases h

theorem run_append_nilarg {P:Program}{t ty e:TypeId}{i:TypeInfo} (ht:P.underlying t=some (.slice e)) (hi:P.info? e=some i) (base:Option Addr) (n cap c:Nat) (hn:n≤cap) (w:World) :
  (Builtin.append_ #[t,t] ty #[.slice base n cap,.slice none 0 c]).run P w=.ok (.slice base n cap) w:=by
 cases base<;>simp [Builtin.append_,run_underlying ht,sizeOf,typeInfo,hi,Builtin.lenOf,hn,Builtin.firstCells,storeCells]

theorem zero_one {zs:Array Value}{n:Nat} (h:∀ v∈zs.toList,v.oneCell'=true):∀ v∈(Builtin.zeroCells zs n).toList,v.oneCell'=true:=fun v hv=>by
 unfold Builtin.zeroCells at hv
 simp only [Array.toList_map,List.mem_map] at hv
 obtain ⟨j,hj,rfl⟩:=hv
 by_cases h0:zs.size=0
 ·simp [h0] at hj
 ·have hj:j % zs.size<zs.size:=Nat.mod_lt _ (by omega)
  rw [getElem!_pos zs (j % zs.size) hj]
  exact h _ (by simp)
theorem grownPost {G:Gh}{w:World}{m:Mem}{κ:Nat}{e:TypeId}{z old:Nat}{zv:Value}{es es2:List (List D)}{xs news:List Value} (hok:MemOk G w m) (hf:m.fresh κ) (hzc:zv.cells.size=z) (hx:RepL G.C es.flatten xs) (hx1:∀ v∈xs,v.oneCell'=true) (hxl:xs.length=es.length*z) (hxz:∀ e∈es,e.length=z)
  (hr:RepL G.C es2.flatten news) (h1:∀ v∈news,v.oneCell'=true) (hl:news.length=es2.length*z) (hz2:∀ e∈es2,e.length=z) (hm:es.length+es2.length≤268435456) (hzo:∀ v∈zv.cells.toList,v.oneCell'=true) :
  ∃ G',Evo G w m G' (w.drew.alloc (.cells (xs.toArray++news.toArray++Builtin.zeroCells zv.cells (grownCap w (es.length+es2.length) old e - (es.length+es2.length))) e)) (m.row κ (es++es2).length e z)∧
   MemOk G' (w.drew.alloc (.cells (xs.toArray++news.toArray++Builtin.zeroCells zv.cells (grownCap w (es.length+es2.length) old e - (es.length+es2.length))) e)) (m.row κ (es++es2).length e z)∧
   RepA G' (.own κ e z (es++es2)) (.slice (some ⟨w.heap.size,0,none⟩) (es.length+es2.length) (grownCap w (es.length+es2.length) old e)):=by
 have hlen:(es++es2).length=es.length+es2.length:=List.length_append
 have hge:=grownCap_ge w (es.length+es2.length) old e
 have hcm:=grownCap_le_maxLen w (es.length+es2.length) old e (by unfold maxLen;omega)
 have:=newRowOk (es:=es++es2) (us:=xs++news) (e:=e) (z:=z) (cp:=grownCap w (es.length+es2.length) old e) (cur:=xs.toArray++news.toArray++Builtin.zeroCells zv.cells (grownCap w (es.length+es2.length) old e - (es.length+es2.length)))
  (w':=w.drew.alloc (.cells (xs.toArray++news.toArray++Builtin.zeroCells zv.cells (grownCap w (es.length+es2.length) old e - (es.length+es2.length))) e)) hok hf (fun y hy=>(List.mem_append.1 hy).elim (hxz y) (hz2 y)) (by rw [List.flatten_append];exact RepL.append hx hr) (fun y hy=>(List.mem_append.1 hy).elim (hx1 y) (h1 y)) rfl ⟨rfl,rfl,rfl⟩
  (by
   simp only [Array.toList_append]
   rw [hlen,Nat.add_mul,←hxl,←hl,←List.length_append]
   exact List.take_left) (by
   simp only [Array.size_append,List.size_toArray,size_zeroCells,hzc,hxl,hl,←Nat.add_mul]
   congr 1
   omega) (by rw [hlen];exact hge) hcm (fun v hv=>by
   simp only [Array.toList_append,List.mem_append] at hv
   rcases hv with (hv|hv)|hv
   ·exact hx1 v hv
   ·exact h1 v hv
   ·exact zero_one hzo v hv)
 rw [hlen] at this ⊢
 exact this

section
variable {P:Program}{o:Oper}{ρ:Operand→A}{m:Mem}{κ:Nat}{t e:TypeId}{s x:Operand}{z:Nat}{es es2:List (List D)}

theorem wp_append {a:Act}{w w':World}{u:Value}{Kc:Act→World→Prop}{Q:Exit→Act→World→Prop} (h:o.op=.call { callee:=.builtin .append,args:=#[s,x],argTypes:=#[t,t] }) (hr:(Builtin.append_ #[t,t] o.type #[a.eval s,a.eval x]).run P w=.ok u w') (hK:Kc (a.put o.dst u) w'):o.wp P a w Kc Q:=by
 refine wp_of_value ?_ hK
 unfold execOp
 rw [h]
 simp only [resolve,invoke,builtin,Sem.run_bind,Sem.run_pure,Result.andThen_ok,List.map_toArray,List.map_cons,List.map_nil,hr]

theorem does_append_nil (h:o.op=.call { callee:=.builtin .append,args:=#[s,x],argTypes:=#[t,t] }) (ht:tyElem P t=some e) (he:tyRow P e=some z) (hs:ρ s=.d (.v (.slice none 0 0))) (hx:elemsN z (ρ x)=some es2) (hm:es2.length≤268435456) (hf:m.fresh κ) :
  Does P o ρ m (.own κ e z es2) (m.row κ es2.length e z):=fun G w a hok hr hlt Kc Q hK=>by
 have hsv:=v_rep hs hr
 obtain ⟨i,zv,hi,hzv,hsz,hzc,hpos,hby⟩:=tyRow_spec he
 have htu:=tyElem_run ht
 have hlo:(A.own κ e z es2).lt (m.row κ es2.length e z).us:=lt_own (.inr ⟨Nat.le_refl _,by omega⟩)
 rcases elemsN_rep hok hx (hr x) with ⟨rfl,c,hu⟩|⟨ad,c,news,hu,hl,hrl,hc,h1,hz2⟩
 ·obtain ⟨G',e1,e2,e3⟩:=nilRowOk hok hf e z
  refine wp_append h ?_ (hK _ _ G' e1 e2 e3 hlo)
  rw [hsv,hu]
  exact run_append_nilarg htu hi none 0 0 c (Nat.le_refl _) w
 ·rcases Nat.eq_zero_or_pos es2.length with h0|h0
  ·have:=List.eq_nil_of_length_eq_zero h0
   subst this
   obtain ⟨G',e1,e2,e3⟩:=nilRowOk hok hf e z
   refine wp_append h ?_ (hK _ _ G' e1 e2 e3 hlo)
   rw [hsv,hu]
   simp [Builtin.append_,run_underlying htu,sizeOf,typeInfo,hi,Builtin.lenOf,Builtin.firstCells,loadCells,loadCellsFrom]
  ·have hg:=grownPost (es:=[]) (xs:=[]) (old:=0) (e:=e) hok hf hzc (by simp [RepL]) (by simp) (by simp) (by simp) hrl h1 hl hz2 (by simpa using hm) (tyRow_one he hi hzv)
   simp only [List.nil_append,List.length_nil,Nat.zero_add,Array.empty_append] at hg
   obtain ⟨G',e1,e2,e3⟩:=hg
   refine wp_append h ?_ (hK _ _ G' e1 e2 e3 hlo)
   rw [hsv,hu]
   exact run_append_nil (P:=P) w t o.type e i zv htu hi hzv ad es2.length c news (by rw [hsz];exact hl) hc h0 (by omega) (by
    have:es2.length*i.bytes≤268435456*4096:=Nat.mul_le_mul hm hby
    omega)

theorem does_append_own {k:Nat} (h:o.op=.call { callee:=.builtin .append,args:=#[s,x],argTypes:=#[t,t] }) (ht:tyElem P t=some e) (he:tyRow P e=some z) (hs:ρ s=.own k e z es) (hal:m.al k=some (es.length,e,z)) (hx:elemsN z (ρ x)=some es2) (hm:es.length+es2.length≤268435456) (hf:m.fresh κ) :
  Does P o ρ m (.own κ e z (es++es2)) ((m.drop k).row κ (es++es2).length e z):=fun G w a hok hr hlt Kc Q hK=>by
 have hsr:=hr s
 rw [hs] at hsr
 unfold RepA at hsr
 obtain ⟨i,zv,hi,hzv,hsz,hzc,hpos,hby⟩:=tyRow_spec he
 have htu:=tyElem_run ht
 have hlen:(es++es2).length=es.length+es2.length:=List.length_append
 have hlo:(A.own κ e z (es++es2)).lt ((m.drop k).row κ (es++es2).length e z).us:=lt_own (.inr ⟨Nat.le_refl _,by omega⟩)
 have hok':MemOk G w (m.drop k):=hok.dropRow k
 have hf':(m.drop k).fresh κ:=hf
 have hbytes:(es.length+es2.length)*i.bytes≤140737488355328:=by
  have:(es.length+es2.length)*i.bytes≤268435456*4096:=Nat.mul_le_mul hm hby
  omega
 rcases hsr with ⟨hE,rfl,hsv⟩|⟨g,hE,hsv,hncap,hcm,hes⟩
 ·rcases elemsN_rep hok hx (hr x) with ⟨rfl,c,hu⟩|⟨ad,c,news,hu,hl,hrl,hc,h1,hz2⟩
  ·obtain ⟨G',e1,e2,e3⟩:=nilRowOk hok' hf' e z
   refine wp_append h ?_ (hK _ _ G' ((Evo.drop k).trans e1) e2 e3 hlo)
   rw [hsv,hu]
   exact run_append_nilarg htu hi none 0 0 c (Nat.le_refl _) w
  ·rcases Nat.eq_zero_or_pos es2.length with h0|h0
   ·have:=List.eq_nil_of_length_eq_zero h0
    subst this
    obtain ⟨G',e1,e2,e3⟩:=nilRowOk hok' hf' e z
    refine wp_append h ?_ (hK _ _ G' ((Evo.drop k).trans e1) e2 e3 hlo)
    rw [hsv,hu]
    simp [Builtin.append_,run_underlying htu,sizeOf,typeInfo,hi,Builtin.lenOf,Builtin.firstCells,loadCells,loadCellsFrom]
   ·have hg:=grownPost (es:=[]) (xs:=[]) (old:=0) (e:=e) hok' hf' hzc (by simp [RepL]) (by simp) (by simp) (by simp) hrl h1 hl hz2 (by simpa using hm) (tyRow_one he hi hzv)
    simp only [List.nil_append,List.length_nil,Nat.zero_add,Array.empty_append] at hg
    obtain ⟨G',e1,e2,e3⟩:=hg
    refine wp_append h ?_ (hK _ _ G' ((Evo.drop k).trans e1) e2 e3 hlo)
    rw [hsv,hu]
    exact run_append_nil (P:=P) w t o.type e i zv htu hi hzv ad es2.length c news (by rw [hsz];exact hl) hc h0 (by omega) (by simp only [List.length_nil,Nat.zero_add] at hbytes;omega)
 ·obtain ⟨cur,hg,hcs,⟨_,hco⟩,hnc⟩:=hok.row k es.length e z hal g hE
  rcases elemsN_rep hok hx (hr x) with ⟨rfl,c,hu⟩|⟨ad,c,news,hu,hl,hrl,hc,h1,hz2⟩
  ·have hro:=roomOk (news:=[]) (mm:=0) (es2:=[]) hok hf hal rfl hE rfl hg hcs hes hnc hcm (by simp) rfl (by simp [RepL]) (by simp) (by simp) (by simpa using hncap) hco
   simp only [List.append_nil,List.length_nil,Nat.add_zero,List.take_append_drop,Array.toArray_toList] at hro hlo hK ⊢
   rw [setRow_self w g cur e (0,0) hg] at hro
   obtain ⟨G',e1,e2,e3⟩:=hro
   refine wp_append h ?_ (hK _ _ G' e1 e2 e3 hlo)
   rw [hsv,hu]
   exact run_append_nilarg htu hi _ _ _ c hncap w
  ·by_cases hroom:es.length+es2.length≤G.cp k
   ·have hro:=roomOk hok hf hal rfl hE rfl hg hcs hes hnc hcm hl rfl hrl h1 hz2 hroom hco
    obtain ⟨G',e1,e2,e3⟩:=hro
    refine wp_append h ?_ (hK _ _ G' e1 e2 e3 hlo)
    rw [hsv,hu]
    have:=run_append_room (P:=P) w t o.type e i htu hi g es.length (G.cp k) cur hg ad es2.length c news (by rw [hsz];exact hl) hc h1 hroom (by rw [hsz,hl,hcs,←Nat.add_mul];exact Nat.mul_le_mul_right _ hroom)
    rw [hsz] at this
    exact this
   ·obtain ⟨xs,g1,g2,g3⟩:=hes.list
    have hx1:∀ v∈xs,v.oneCell'=true:=fun v hv=>by
     obtain ⟨j,hj⟩:=List.getElem?_of_mem hv
     exact (hok.cell _ _ _ (g3 j v hj)).2
    have hg':=grownPost (old:=G.cp k) (e:=e) hok' hf' hzc g1 hx1 g2 hes.len hrl h1 hl hz2 hm (tyRow_one he hi hzv)
    obtain ⟨G',e1,e2,e3⟩:=hg'
    refine wp_append h ?_ (hK _ _ G' ((Evo.drop k).trans e1) e2 e3 hlo)
    rw [hsv,hu]
    exact run_append_grow (P:=P) w t o.type e i zv htu hi hzv ⟨g,0,none⟩ es.length (G.cp k) xs (by rw [hsz];exact g2) (fun j v hj=>by rw [addr_add];exact (hok.cell _ _ _ (g3 j v hj)).1) ad es2.length c news (by rw [hsz];exact hl) hc (by omega) (by omega) (growslice_fits (by omega) hbytes)
end
end Go.Proofs.YtaammoodcgfhpaaDoor.Eng
