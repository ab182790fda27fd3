/-
 The engine, part 10: what a call hands back, without keys.

 The engine, part 11: contracts and calls.

 The engine, part 12: code.

 The engine, part 13: one operation in a written state; bodies.

 The engine, part 13a: data that says less.

 The engine, part 14: what a body hands back.

 The engine, part 15: calls that work on one variable of ours.

 The engine, part 16: what an operation reads and writes of our memory.

 The engine, part 17: operations in another order.

 The engine, part 18: regions that draw their order.

 The engine, part 19: regions that draw their order, in written states.
-/
import Derived.Test.YtaammoodcgfhpaaDoorKE1
import Derived.Tactics
import Derived.Orders
set_option linter.unusedSimpArgs false
set_option linter.unusedVariables false
set_option linter.defProp false
set_option maxRecDepth 100000
set_option maxHeartbeats 4000000
namespace Go.Proofs.YtaammoodcgfhpaaDoor.Eng
open Go Go.RowKit

inductive Rz where
 | d (x:D)
 | own (e:TypeId) (z:Nat) (es:List (List D))
 | box (cs:List D)
 | arr (z n:Nat) (cs:List D)
 | agg (zs:List Rz)
 | tup (zs:List Rz)

def RepB (C:CellR) (w:World) (b:Nat) (cs:List D):Prop:=∃ vs ty,w.heap[b]?=some (.cells ⟨vs⟩ ty (0,0))∧RepL C cs vs∧(∀ x∈vs,x.oneCell'=true)∧∀ j u,¬C b j u
mutual
def RepZ (C:CellR) (w:World):Rz→Value→List Nat→Prop
 | .d x,u,F=>F=[]∧RepD C x u
 | .own e z es,u,F=>(es=[]∧u=.slice none 0 0∧F=[])∨∃ b cp,F=[b]∧RepOwn C (some b) cp z es u∧RowOk C w b cp es.length e z
 | .box cs,u,F=>∃ b,F=[b]∧u=.pointer (some ⟨b,0,none⟩)∧RepB C w b cs
 | .arr _ n cs,u,F=>∃ b cap,F=[b]∧u=.slice (some ⟨b,0,none⟩) n cap∧n≤cap∧cap≤maxLen∧RepB C w b cs
 | .agg zs,u,F=>∃ us,u=.agg ⟨us⟩∧RepZL C w zs us F∧∀ x∈us,x.oneCell'=true
 | .tup zs,u,F=>∃ us,u=.tuple ⟨us⟩∧RepZL C w zs us F
def RepZL (C:CellR) (w:World):List Rz→List Value→List Nat→Prop
 | [],us,F=>us=[]∧F=[]
 | z::zs,us,F=>∃ u us' F1 F2,us=u::us'∧F=F1++F2∧RepZ C w z u F1∧RepZL C w zs us' F2
end

mutual
def Rz.nk:Rz→Nat
 | .d _=>0
 | .own _ _ _=>1
 | .box _=>1
 | .arr _ _ _=>1
 | .agg zs=>Rz.nkL zs
 | .tup zs=>Rz.nkL zs
def Rz.nkL:List Rz→Nat
 | []=>0
 | z::zs=>Rz.nk z+Rz.nkL zs
end
mutual
def Rz.toA:Rz→Nat→A
 | .d x,_=>.d x
 | .own e z es,κ=>.own κ e z es
 | .box _,κ=>.ptr κ 0
 | .arr z n _,κ=>.arr κ z n
 | .agg zs,κ=>mkAgg (Rz.toAL zs κ)
 | .tup zs,κ=>mkTup (Rz.toAL zs κ)
def Rz.toAL:List Rz→Nat→List A
 | [],_=>[]
 | z::zs,κ=>Rz.toA z κ::Rz.toAL zs (κ+Rz.nk z)
end
mutual
def Rz.add:Rz→Nat→Mem→Mem
 | .d _,_,m=>m
 | .own e z es,κ,m=>{ m with al:=upd m.al κ (some (es.length,e,z)),us:=fun k=>m.us k∨k=κ }
 | .box cs,κ,m=>{ m with bx:=upd m.bx κ (some (cs.map .d)),us:=fun k=>m.us k∨k=κ }
 | .arr _ _ cs,κ,m=>{ m with bx:=upd m.bx κ (some (cs.map .d)),us:=fun k=>m.us k∨k=κ }
 | .agg zs,κ,m=>Rz.addL zs κ m
 | .tup zs,κ,m=>Rz.addL zs κ m
def Rz.addL:List Rz→Nat→Mem→Mem
 | [],_,m=>m
 | z::zs,κ,m=>Rz.addL zs (κ+Rz.nk z) (Rz.add z κ m)
end

theorem Gh.Le.mono {n n':Nat→Prop}{G G':Gh} (h:G.Le n' G') (k:∀ i,n i→n' i):G.Le n G':=⟨fun i hi=>h.E i (k i hi),fun i hi=>h.cp i (k i hi),h.C⟩

structure Added (G:Gh) (w:World) (m:Mem) (κ nk:Nat) (F:List Nat) (G':Gh) (m':Mem):Prop where
 ok:MemOk G' w m'
 le:G.Le m.us G'
 C:G'.C=G.C
 us:∀ k,m'.us k↔m.us k∨(κ≤k∧k<κ+nk)
 mine:∀ b,Mine G' m' b→Mine G m b∨b∈F
 bxo:∀ k,m.us k→m'.bx k=m.bx k∧m'.al k=m.al k

theorem Added.refl {G:Gh}{w:World}{m:Mem} (h:MemOk G w m) (κ:Nat):Added G w m κ 0 [] G m:=
 ⟨h,Gh.Le.refl _ _,rfl,fun k=>⟨.inl,fun h=>h.elim id fun h=>by omega⟩,fun _ hb=>.inl hb,fun _ _=>⟨rfl,rfl⟩⟩
theorem Added.trans {G G1 G2:Gh}{w:World}{m m1 m2:Mem}{κ n1 n2:Nat}{F1 F2:List Nat} (h:Added G w m κ n1 F1 G1 m1) (k:Added G1 w m1 (κ+n1) n2 F2 G2 m2):Added G w m κ (n1+n2) (F1++F2) G2 m2:=by
 have hu:∀ i,m.us i→m1.us i:=fun i hi=>(h.us i).2 (.inl hi)
 refine ⟨k.ok,h.le.trans (k.le.mono hu),k.C.trans h.C,fun i=>?_,fun b hb=>?_,fun i hi=>?_⟩
 ·rw [k.us,h.us]
  constructor
  ·rintro ((h|h)|h)
   ·exact .inl h
   ·exact .inr (by omega)
   ·exact .inr (by omega)
  ·rintro (h|h)
   ·exact .inl (.inl h)
   ·by_cases i<κ+n1
    ·exact .inl (.inr (by omega))
    ·exact .inr (by omega)
 ·rcases k.mine b hb with h1|h1
  ·rcases h.mine b h1 with h2|h2
   ·exact .inl h2
   ·exact .inr (List.mem_append_left _ h2)
  ·exact .inr (List.mem_append_right _ h1)
 ·obtain ⟨a1,a2⟩:=k.bxo i (hu i hi)
  obtain ⟨b1,b2⟩:=h.bxo i hi
  exact ⟨a1.trans b1,a2.trans b2⟩

theorem noBox {G:Gh}{w:World}{m:Mem}{κ:Nat} (hok:MemOk G w m) (hκ:¬m.us κ):¬m.live κ∧m.bx κ=none∧m.al κ=none:=by
 have hl:¬m.live κ:=fun h=>hκ (hok.lt κ h)
 refine ⟨hl,?_,?_⟩
 ·cases hq:m.bx κ with
  | none=>rfl
  | some x=>exact absurd (.inl (by rw [hq];rfl)) hl
 ·cases hq:m.al κ with
  | none=>rfl
  | some x=>exact absurd (.inr (by rw [hq];rfl)) hl

theorem oneKey {G:Gh}{w:World}{m:Mem}{κ:Nat} (hok:MemOk G w m) (hκ:¬m.us κ) (eb:Option Nat) (cp:Nat) :
  MemOk { E:=upd G.E κ eb,cp:=upd G.cp κ cp,C:=G.C } w { m with us:=fun k=>m.us k∨k=κ }∧G.Le m.us { E:=upd G.E κ eb,cp:=upd G.cp κ cp,C:=G.C }∧
  ∀ b,Mine { E:=upd G.E κ eb,cp:=upd G.cp κ cp,C:=G.C } m b↔Mine G m b:=by
 have hne:∀ k,m.us k→k≠κ:=fun k hk e=>hκ (e▸hk)
 have hle:G.Le m.us { E:=upd G.E κ eb,cp:=upd G.cp κ cp,C:=G.C }:=⟨fun k hk=>upd_ne _ _ (hne k hk),fun k hk=>upd_ne _ _ (hne k hk),fun _ _ _ h=>h⟩
 refine ⟨hok.grow (w':=w) hle (fun _ _=>rfl) (fun _ _ _ h=>.inl h) (fun b o u h hb=>absurd (hok.lt_size h) (by omega)) fun _ h=>.inl h,hle,fun b=>⟨fun ⟨k,hk,hE⟩=>⟨k,hk,?_⟩,fun ⟨k,hk,hE⟩=>⟨k,hk,?_⟩⟩⟩
 ·rw [←hle.E k (hok.lt k hk)];exact hE
 ·rw [hle.E k (hok.lt k hk)];exact hE

mutual
theorem Rz.added {w:World}:∀ (z:Rz) {G:Gh}{m:Mem}{κ:Nat}{v:Value}{F:List Nat},MemOk G w m→RepZ G.C w z v F→F.Nodup→(∀ b∈F,¬Mine G m b)→(∀ k,κ≤k→k<κ+z.nk→¬m.us k)→
  ∃ G',Added G w m κ z.nk F G' (z.add κ m)∧RepA G' (z.toA κ) v∧(z.toA κ).lt (z.add κ m).us
 | .d x,G,m,κ,v,F,hok,hr,_,_,_=>by
  unfold RepZ at hr
  obtain ⟨rfl,hr⟩:=hr
  exact ⟨G,Added.refl hok κ,by unfold Rz.toA RepA;exact hr,by unfold Rz.toA A.lt;trivial⟩
 | .own e z es,G,m,κ,v,F,hok,hr,_,hm,hκ=>by
  have hκ0:¬m.us κ:=hκ κ (Nat.le_refl _) (by simp [Rz.nk])
  obtain ⟨hl,hbn,han⟩:=noBox hok hκ0
  unfold RepZ at hr
  have fin:∀ (eb:Option Nat) (cp:Nat),(∀ b,eb=some b→RowOk G.C w b cp es.length e z∧¬Mine G m b)→(∀ b,eb=some b→b∈F)→RepOwn G.C eb cp z es v→∃ G',Added G w m κ 1 F G' (Rz.add (.own e z es) κ m)∧RepA G' (.own κ e z es) v∧(A.own κ e z es).lt (Rz.add (.own e z es) κ m).us:=fun eb cp h1 h2 h3=>by
   obtain ⟨g1,g2,g3⟩:=oneKey hok hκ0 eb cp
   have:=g1.addRow (κ:=κ) (n:=es.length) (e:=e) (z:=z) (fun b hE=>by
    have hE:eb=some b:=by simpa using hE
    obtain ⟨q1,q2⟩:=h1 b hE
    exact ⟨by simpa using q1,fun hm'=>q2 ((g3 b).1 hm')⟩) hbn (.inr rfl)
   refine ⟨_,⟨this,g2,rfl,fun k=>?_,fun b ⟨k,hk,hE⟩=>?_,fun k hk=>⟨rfl,?_⟩⟩,by unfold RepA;simpa using h3,by unfold A.lt Rz.add;exact .inr rfl⟩
   ·unfold Rz.add
    constructor
    ·rintro (h|h)
     ·exact .inl h
     ·exact .inr (by omega)
    ·rintro (h|h)
     ·exact .inl h
     ·exact .inr (by omega)
   ·by_cases e':k=κ
    ·subst e'
     exact .inr (h2 b (by simpa using hE))
    ·left
     refine ⟨k,?_,by simpa [upd_ne _ _ e'] using hE⟩
     rcases hk with hk|hk
     ·exact .inl hk
     ·right;simpa [Rz.add,upd_ne _ _ e'] using hk
   ·have e':k≠κ:=fun e'=>hκ0 (e'▸hk)
    simp [Rz.add,upd_ne _ _ e']
  unfold Rz.toA Rz.nk
  rcases hr with ⟨rfl,rfl,rfl⟩|⟨b,cp,rfl,h1,h2⟩
  ·exact fin none 0 (fun b h=>by cases h) (fun b h=>by cases h) (.inl ⟨rfl,rfl,rfl⟩)
  ·exact fin (some b) cp (fun b' h=>by have:=Option.some.inj h;subst this;exact ⟨h2,hm b (by simp)⟩) (fun b' h=>by have:=Option.some.inj h;subst this;simp) h1
 | .box cs,G,m,κ,v,F,hok,hr,_,hm,hκ=>by
  have hκ0:¬m.us κ:=hκ κ (Nat.le_refl _) (by simp [Rz.nk])
  obtain ⟨hl,hbn,han⟩:=noBox hok hκ0
  unfold RepZ at hr
  obtain ⟨b,rfl,rfl,vs,ty,h1,h2,h3,h4⟩:=hr
  obtain ⟨g1,g2,g3⟩:=oneKey hok hκ0 (some b) 0
  have:=g1.addBox (κ:=κ) (b:=b) (cs:=cs.map .d) (by simp) ⟨vs,ty,h1,RepL_map h2,h3,h4⟩ (ltL_map cs) hl (fun hm'=>hm b (by simp) ((g3 b).1 hm')) (.inr rfl)
  unfold Rz.toA Rz.nk
  refine ⟨_,⟨this,g2,rfl,fun k=>?_,fun b' ⟨k,hk,hE⟩=>?_,fun k hk=>⟨?_,rfl⟩⟩,by unfold RepA;exact ⟨b,by simp,rfl⟩,by unfold A.lt Rz.add;exact .inr rfl⟩
  ·unfold Rz.add
   constructor
   ·rintro (h|h)
    ·exact .inl h
    ·exact .inr (by omega)
   ·rintro (h|h)
    ·exact .inl h
    ·exact .inr (by omega)
  ·by_cases e':k=κ
   ·subst e'
    right
    have:b=b':=by simpa using hE
    simp [this]
   ·left
    refine ⟨k,?_,by simpa [upd_ne _ _ e'] using hE⟩
    rcases hk with hk|hk
    ·left;simpa [Rz.add,upd_ne _ _ e'] using hk
    ·exact .inr hk
  ·have e':k≠κ:=fun e'=>hκ0 (e'▸hk)
   simp [Rz.add,upd_ne _ _ e']
 | .arr z0 n0 cs,G,m,κ,v,F,hok,hr,_,hm,hκ=>by
  have hκ0:¬m.us κ:=hκ κ (Nat.le_refl _) (by simp [Rz.nk])
  obtain ⟨hl,hbn,han⟩:=noBox hok hκ0
  unfold RepZ at hr
  obtain ⟨b,cap,rfl,rfl,hc1,hc2,vs,ty,h1,h2,h3,h4⟩:=hr
  obtain ⟨g1,g2,g3⟩:=oneKey hok hκ0 (some b) 0
  have:=g1.addBox (κ:=κ) (b:=b) (cs:=cs.map .d) (by simp) ⟨vs,ty,h1,RepL_map h2,h3,h4⟩ (ltL_map cs) hl (fun hm'=>hm b (by simp) ((g3 b).1 hm')) (.inr rfl)
  unfold Rz.toA Rz.nk
  refine ⟨_,⟨this,g2,rfl,fun k=>?_,fun b' ⟨k,hk,hE⟩=>?_,fun k hk=>⟨?_,rfl⟩⟩,by unfold RepA;exact ⟨b,cap,by simp,rfl,hc1,hc2⟩,by unfold A.lt Rz.add;exact .inr rfl⟩
  ·unfold Rz.add
   constructor
   ·rintro (h|h)
    ·exact .inl h
    ·exact .inr (by omega)
   ·rintro (h|h)
    ·exact .inl h
    ·exact .inr (by omega)
  ·by_cases e':k=κ
   ·subst e'
    right
    have:b=b':=by simpa using hE
    simp [this]
   ·left
    refine ⟨k,?_,by simpa [upd_ne _ _ e'] using hE⟩
    rcases hk with hk|hk
    ·left;simpa [Rz.add,upd_ne _ _ e'] using hk
    ·exact .inr hk
  ·have e':k≠κ:=fun e'=>hκ0 (e'▸hk)
   simp [Rz.add,upd_ne _ _ e']
 | .agg zs,G,m,κ,v,F,hok,hr,hn,hm,hκ=>by
  unfold RepZ at hr
  obtain ⟨us,rfl,h1,h2⟩:=hr
  unfold Rz.nk at hκ
  obtain ⟨G',g1,g2,g3⟩:=Rz.addedL zs hok h1 hn hm hκ
  unfold Rz.toA Rz.add Rz.nk
  exact ⟨G',g1,mkAgg_rep g2 h2,mkAgg_lt g3⟩
 | .tup zs,G,m,κ,v,F,hok,hr,hn,hm,hκ=>by
  unfold RepZ at hr
  obtain ⟨us,rfl,h1⟩:=hr
  unfold Rz.nk at hκ
  obtain ⟨G',g1,g2,g3⟩:=Rz.addedL zs hok h1 hn hm hκ
  unfold Rz.toA Rz.add Rz.nk
  exact ⟨G',g1,mkTup_rep g2,mkTup_lt g3⟩
theorem Rz.addedL {w:World}:∀ (zs:List Rz) {G:Gh}{m:Mem}{κ:Nat}{vs:List Value}{F:List Nat},MemOk G w m→RepZL G.C w zs vs F→F.Nodup→(∀ b∈F,¬Mine G m b)→(∀ k,κ≤k→k<κ+Rz.nkL zs→¬m.us k)→
  ∃ G',Added G w m κ (Rz.nkL zs) F G' (Rz.addL zs κ m)∧RepAL G' (Rz.toAL zs κ) vs∧A.ltL (Rz.addL zs κ m).us (Rz.toAL zs κ)
 | [],G,m,κ,vs,F,hok,hr,_,_,_=>by
  unfold RepZL at hr
  obtain ⟨rfl,rfl⟩:=hr
  exact ⟨G,Added.refl hok κ,by unfold Rz.toAL RepAL;rfl,by unfold Rz.toAL A.ltL;trivial⟩
 | z::zs,G,m,κ,vs,F,hok,hr,hn,hm,hκ=>by
  unfold RepZL at hr
  obtain ⟨u,us',F1,F2,rfl,rfl,h1,h2⟩:=hr
  rw [List.nodup_append] at hn
  unfold Rz.nkL at hκ
  obtain ⟨G1,g1,g2,g3⟩:=Rz.added z (κ:=κ) hok h1 hn.1 (fun b hb=>hm b (List.mem_append_left _ hb)) (fun k hk hk'=>hκ k hk (by omega))
  obtain ⟨G2,k1,k2,k3⟩:=Rz.addedL zs (κ:=κ+z.nk) g1.ok (by rw [g1.C];exact h2) hn.2.1 (fun b hb hm'=>by
   rcases g1.mine b hm' with h|h
   ·exact hm b (List.mem_append_right _ hb) h
   ·exact hn.2.2 b h b hb rfl) (fun k hk hk' hu=>by
   rcases (g1.us k).1 hu with h|h
   ·exact hκ k (by omega) (by omega) h
   ·omega)
  refine ⟨G2,by unfold Rz.nkL Rz.addL;exact g1.trans k1,?_,?_⟩
  ·unfold Rz.toAL RepAL
   exact ⟨u,us',rfl,RepA.mono k1.le _ _ g3 g2,k2⟩
  ·unfold Rz.toAL A.ltL Rz.addL
   exact ⟨A.lt.mono (fun k hk=>(k1.us k).2 (.inl hk)) _ g3,k3⟩
end

mutual
def ToZ (m:Mem):A→Rz→List Nat→Prop
 | .d x,z,ks=>z=.d x∧ks=[]
 | .own k e s es,z,ks=>z=.own e s es∧ks=[k]∧m.al k=some (es.length,e,s)
 | .ptr k o,z,ks=>∃ ds,o=0∧m.bx k=some (ds.map .d)∧z=.box ds∧ks=[k]
 | .agg cs,z,ks=>∃ zs,z=.agg zs∧ToZL m cs zs ks
 | .tup cs,z,ks=>∃ zs,z=.tup zs∧ToZL m cs zs ks
 | .top,_,_=>False
 | .arr k z n,r,ks=>∃ ds,m.bx k=some (ds.map .d)∧r=.arr z n ds∧ks=[k]
 | .clo _ _ _,_,_=>False
 | .ifc _ _,_,_=>False
 | .dec _ _ _ _ _,_,_=>False
 | .sow _ _ _ _ _,_,_=>False
def ToZL (m:Mem):List A→List Rz→List Nat→Prop
 | [],zs,ks=>zs=[]∧ks=[]
 | c::cs,zs,ks=>∃ z zs' k1 k2,zs=z::zs'∧ks=k1++k2∧ToZ m c z k1∧ToZL m cs zs' k2
end
theorem RepAL_unmap {G:Gh}:∀ {cs:List D}{us:List Value},RepAL G (cs.map .d) us→RepL G.C cs us
 | [],us,h=>by simp only [List.map_nil] at h;unfold RepAL at h;unfold RepL;exact h
 | c::cs,us,h=>by
  simp only [List.map_cons] at h
  unfold RepAL at h
  obtain ⟨u,us',h1,h2,h3⟩:=h
  unfold RepL
  exact ⟨u,us',h1,by unfold RepA at h2;exact h2,RepAL_unmap h3⟩
mutual
theorem toZ_rep {G:Gh}{w:World}{m:Mem} (hok:MemOk G w m):∀ (x:A) {z:Rz}{ks:List Nat}{u:Value},ToZ m x z ks→RepA G x u→RepZ G.C w z u (ks.filterMap G.E)∧∀ k∈ks,m.live k
 | .d x,z,ks,u,h,hr=>by
  unfold ToZ at h
  obtain ⟨rfl,rfl⟩:=h
  unfold RepA at hr
  unfold RepZ
  exact ⟨⟨rfl,hr⟩,fun k hk=>by cases hk⟩
 | .own k e s es,z,ks,u,h,hr=>by
  unfold ToZ at h
  obtain ⟨rfl,rfl,hal⟩:=h
  unfold RepA at hr
  refine ⟨?_,fun k' hk=>by rw [List.mem_singleton] at hk;subst hk;exact .inr (by rw [hal];rfl)⟩
  unfold RepZ
  rcases hr with ⟨h1,h2,h3⟩|⟨b,h1,hrest⟩
  ·left
   exact ⟨h2,h3,by simp [h1]⟩
  ·right
   exact ⟨b,G.cp k,by simp [h1],.inr ⟨b,rfl,hrest⟩,hok.row k _ _ _ hal b h1⟩
 | .ptr k o,z,ks,u,h,hr=>by
  unfold ToZ at h
  obtain ⟨ds,rfl,hb,rfl,rfl⟩:=h
  obtain ⟨b,h1,⟨vs,ty,h2,h3,h4,h5⟩,_⟩:=hok.box k _ hb
  unfold RepA at hr
  obtain ⟨b',h1',rfl⟩:=hr
  rw [h1] at h1'
  have:=Option.some.inj h1';subst this
  refine ⟨?_,fun k' hk=>by rw [List.mem_singleton] at hk;subst hk;exact .inl (by rw [hb];rfl)⟩
  unfold RepZ
  exact ⟨b,by simp [h1],rfl,vs,ty,h2,RepAL_unmap h3,h4,h5⟩
 | .arr k z0 n0,z,ks,u,h,hr=>by
  unfold ToZ at h
  obtain ⟨ds,hb,rfl,rfl⟩:=h
  obtain ⟨b,h1,⟨vs,ty,h2,h3,h4,h5⟩,_⟩:=hok.box k _ hb
  unfold RepA at hr
  obtain ⟨b',cap,h1',rfl,hc1,hc2⟩:=hr
  rw [h1] at h1'
  have:=Option.some.inj h1';subst this
  refine ⟨?_,fun k' hk=>by rw [List.mem_singleton] at hk;subst hk;exact .inl (by rw [hb];rfl)⟩
  unfold RepZ
  exact ⟨b,cap,by simp [h1],rfl,hc1,hc2,vs,ty,h2,RepAL_unmap h3,h4,h5⟩
 | .agg cs,z,ks,u,h,hr=>by
  unfold ToZ at h
  obtain ⟨zs,rfl,hz⟩:=h
  unfold RepA at hr
  obtain ⟨us,rfl,h1,h2⟩:=hr
  obtain ⟨g1,g2⟩:=toZL_rep hok cs hz h1
  refine ⟨?_,g2⟩
  unfold RepZ
  exact ⟨us,rfl,g1,h2⟩
 | .tup cs,z,ks,u,h,hr=>by
  unfold ToZ at h
  obtain ⟨zs,rfl,hz⟩:=h
  unfold RepA at hr
  obtain ⟨us,rfl,h1⟩:=hr
  obtain ⟨g1,g2⟩:=toZL_rep hok cs hz h1
  refine ⟨?_,g2⟩
  unfold RepZ
  exact ⟨us,rfl,g1⟩
 | .top,z,ks,u,h,hr=>by unfold ToZ at h;exact h.elim
 | .clo _ _ _,z,ks,u,h,hr=>by unfold ToZ at h;exact h.elim
 | .ifc _ _,z,ks,u,h,hr=>by unfold ToZ at h;exact h.elim
 | .dec _ _ _ _ _,z,ks,u,h,hr=>by unfold ToZ at h;exact h.elim
 | .sow _ _ _ _ _,z,ks,u,h,hr=>by unfold ToZ at h;exact h.elim
theorem toZL_rep {G:Gh}{w:World}{m:Mem} (hok:MemOk G w m):∀ (xs:List A) {zs:List Rz}{ks:List Nat}{us:List Value},ToZL m xs zs ks→RepAL G xs us→RepZL G.C w zs us (ks.filterMap G.E)∧∀ k∈ks,m.live k
 | [],zs,ks,us,h,hr=>by
  unfold ToZL at h
  obtain ⟨rfl,rfl⟩:=h
  unfold RepAL at hr
  unfold RepZL
  exact ⟨⟨hr,rfl⟩,fun k hk=>by cases hk⟩
 | c::cs,zs,ks,us,h,hr=>by
  unfold ToZL at h
  obtain ⟨z,zs',k1,k2,rfl,rfl,h1,h2⟩:=h
  unfold RepAL at hr
  obtain ⟨u,us',rfl,h3,h4⟩:=hr
  obtain ⟨g1,g2⟩:=toZ_rep hok c h1 h3
  obtain ⟨g3,g4⟩:=toZL_rep hok cs h2 h4
  refine ⟨?_,fun k hk=>(List.mem_append.1 hk).elim (g2 k) (g4 k)⟩
  unfold RepZL
  exact ⟨u,us',_,_,rfl,by rw [List.filterMap_append],g1,g3⟩
end
theorem keys_nodup {G:Gh}{w:World}{m:Mem} (hok:MemOk G w m):∀ {ks:List Nat},ks.Nodup→(∀ k∈ks,m.live k)→(ks.filterMap G.E).Nodup
 | [],_,_=>by simp
 | k::ks,hn,hl=>by
  rw [List.nodup_cons] at hn
  have ih:=keys_nodup hok hn.2 fun j hj=>hl j (List.mem_cons_of_mem _ hj)
  rw [List.filterMap_cons]
  split
  ·exact ih
  ·rename_i b hb
   rw [List.nodup_cons]
   refine ⟨fun hm=>?_,ih⟩
   obtain ⟨j,hj,hE⟩:=List.mem_filterMap.1 hm
   have:=hok.inj j k b (hl j (List.mem_cons_of_mem _ hj)) (hl k (List.mem_cons_self ..)) hE hb
   subst this
   exact hn.1 hj

end Go.Proofs.YtaammoodcgfhpaaDoor.Eng
namespace Go.Proofs.YtaammoodcgfhpaaDoor.Eng
open Go Go.RowKit

def BoxO (C:CellR) (w:World):Option (List Rz)→Nat→List Nat→Prop
 | none,_,F=>F=[]
 | some zs,β,F=>∃ vs ty,w.heap[β]?=some (.cells ⟨vs⟩ ty (0,0))∧RepZL C w zs vs F∧(∀ x∈vs,x.oneCell'=true)∧∀ j u,¬C β j u
def XO:Option (List Rz)→Nat→List Nat→List Nat
 | none,_,_=>[]
 | some _,β,F=>β::F
def argG (C:CellR) (bx:Option (List Rz)) (β:Nat):Gh:=⟨fun k=>if k=0 then (if bx.isSome then some β else none) else none,fun _=>0,C⟩

def AC (P:Program) (f:FuncId) (args:List A) (bx:Option (List Rz)) (Q:Rz→Option (List Rz)→Prop):Prop:=
 (∀ vs w,(callFunc f vs).run P w=.ok (.enter f vs) w)∧
 ∀ (w:World) (C:CellR) (β:Nat) (F0:List Nat) (vs:List Value),Cok C w→RepAL (argG C bx β) args vs→BoxO C w bx β F0→(XO bx β F0).Nodup→
  Calls P f ⟨vs⟩ w fun e w'=>∃ v r bx' C' F F',e=.returned v∧Q r bx'∧bx'.isSome=bx.isSome∧(∀ b o u,C b o u→C' b o u)∧Cok C' w'∧BelowX (·∈XO bx β F0) w.heap.size w w'∧
   (∀ b o u,C' b o u→C b o u∨w.heap.size≤b∨b∈XO bx β F0)∧RepZ C' w' r v F∧BoxO C' w' bx' β F'∧(XO bx' β F'++F).Nodup∧∀ b,b∈F'++F→w.heap.size≤b∨b∈XO bx β F0

def ACW (P:Program) (f:FuncId) (args:List A) (bx:Option (List Rz)) (Q:World→Rz→Option (List Rz)→Prop):Prop:=
 (∀ vs w,(callFunc f vs).run P w=.ok (.enter f vs) w)∧
 ∀ (w:World) (C:CellR) (β:Nat) (F0:List Nat) (vs:List Value),Cok C w→RepAL (argG C bx β) args vs→BoxO C w bx β F0→(XO bx β F0).Nodup→
  Calls P f ⟨vs⟩ w fun e w'=>∃ v r bx' C' F F',e=.returned v∧Q w r bx'∧bx'.isSome=bx.isSome∧(∀ b o u,C b o u→C' b o u)∧Cok C' w'∧BelowX (·∈XO bx β F0) w.heap.size w w'∧
   (∀ b o u,C' b o u→C b o u∨w.heap.size≤b∨b∈XO bx β F0)∧RepZ C' w' r v F∧BoxO C' w' bx' β F'∧(XO bx' β F'++F).Nodup∧∀ b,b∈F'++F→w.heap.size≤b∨b∈XO bx β F0

theorem AC.mono {P:Program}{f:FuncId}{args:List A}{bx:Option (List Rz)}{Q Q':Rz→Option (List Rz)→Prop} (h:AC P f args bx Q) (k:∀ r b,Q r b→Q' r b):AC P f args bx Q':=
 ⟨h.1,fun w C β F0 vs h1 h2 h3 h4=>(h.2 w C β F0 vs h1 h2 h3 h4).mono fun e w' ⟨v,r,bx',C',F,F',g1,g2,g3⟩=>⟨v,r,bx',C',F,F',g1,k _ _ g2,g3⟩⟩

def DoesR (P:Program) (o:Oper) (ρ:Operand→A) (m:Mem) (R:A→Mem→Prop):Prop:=
 ∀ (G:Gh) (w:World) (a:Act),MemOk G w m→(∀ x,RepA G (ρ x) (a.eval x))→(∀ x,(ρ x).lt m.us)→∀ (Kc:Act→World→Prop) (Q:Exit→Act→World→Prop),
  (∀ v m' u w' G',R v m'→Evo G w m G' w' m'→MemOk G' w' m'→RepA G' v u→v.lt m'.us→Kc (a.put o.dst u) w')→o.wp P a w Kc Q
theorem Does.r {P:Program}{o:Oper}{ρ:Operand→A}{m m':Mem}{v:A}{R:A→Mem→Prop} (h:Does P o ρ m v m') (hR:R v m'):DoesR P o ρ m R:=
 fun G w a h1 h2 h3 Kc Q hK=>h G w a h1 h2 h3 Kc Q fun u w' G' e1 e2 e3 e4=>hK v m' u w' G' hR e1 e2 e3 e4

theorem MemOk.after {G:Gh}{w w':World}{m m1:Mem}{C':CellR}{X:Nat→Prop} (hok:MemOk G w m) (hC:∀ b o u,G.C b o u→C' b o u) (hC':Cok C' w') (hfw:BelowX X w.heap.size w w') (hcn:∀ b o u,C' b o u→G.C b o u∨w.heap.size≤b∨X b)
  (hbx:∀ k cs,m1.bx k=some cs→m.bx k=some cs) (hal:∀ k x,m1.al k=some x→m.al k=some x) (hus:m1.us=m.us) (hX:∀ k b,m1.live k→G.E k=some b→¬X b):MemOk { G with C:=C' } w' m1:=by
 have hlv:∀ k,m1.live k→m.live k:=fun k hk=>by
  rcases hk with hk|hk
  ·obtain ⟨cs,h⟩:=Option.isSome_iff_exists.1 hk
   exact .inl (by rw [hbx k cs h];rfl)
  ·obtain ⟨x,h⟩:=Option.isSome_iff_exists.1 hk
   exact .inr (by rw [hal k x h];rfl)
 have hle:G.Le m.us { G with C:=C' }:=⟨fun _ _=>rfl,fun _ _=>rfl,hC⟩
 have hnc:∀ b,b<w.heap.size→¬X b→∀ j u,¬G.C b j u→¬C' b j u:=fun b hb hx j u hn hc=>by
  rcases hcn b j u hc with h|h|h
  ·exact hn h
  ·omega
  ·exact hx h
 refine ⟨hC',fun k cs hk=>?_,fun k n e z hk b hE=>?_,fun k k' b hk hk' h1 h2=>hok.inj k k' b (hlv k hk) (hlv k' hk') h1 h2,fun k hk=>by rw [hus];exact hok.lt k (hlv k hk),fun k hk=>?_⟩
 ·obtain ⟨b,h1,⟨vs,ty,h2,h3,h4,h5⟩,h6⟩:=hok.box k cs (hbx k cs hk)
  have hx:=hX k b (.inl (by rw [hk];rfl)) h1
  exact ⟨b,h1,⟨vs,ty,(hfw.block b (heap_lt h2) hx).trans h2,RepAL.mono hle _ _ h6 h3,h4,fun j u=>hnc b (heap_lt h2) hx j u (h5 j u)⟩,by rw [hus];exact h6⟩
 ·obtain ⟨cur,h1,h2,h3,h4⟩:=hok.row k n e z (hal k _ hk) b hE
  have hx:=hX k b (.inr (by rw [hk];rfl)) hE
  exact ⟨cur,(hfw.block b (heap_lt h1) hx).trans h1,h2,h3,fun j u hj=>hnc b (heap_lt h1) hx j u (h4 j u hj)⟩
 ·obtain ⟨cs,h⟩:=Option.isSome_iff_exists.1 hk
  have:=hok.sep k (by rw [hbx k cs h];rfl)
  cases hq:m1.al k with
  | none=>rfl
  | some x=>rw [hal k x hq] at this;cases this

def cloArg (k:Option Nat) (f:FuncId) (fs cs:List A):Option A:=
 match frzL fs,frzL cs with
 | some a,some b=>some (.clo f (a.map .d) (b.map .d))
 | _,_=>match fs,cs with
  | [],[.ptr j o]=>if some j=k∧o=0 then some (.clo f [] [.ptr 0 0]) else none
  | _,_=>none
def argOf (k:Option Nat):A→Option A
 | .ptr j o=>if some j=k∧o=0 then some (.ptr 0 0) else none
 | .ifc t (.ptr j o)=>if some j=k∧o=0 then some (.ifc t (.ptr 0 0)) else none
 | .clo f fs cs=>cloArg k f fs cs
 | x=>(frz x).map .d
def argsOf (k:Option Nat):List A→Option (List A)
 | []=>some []
 | x::xs=>match argOf k x,argsOf k xs with
  | some y,some ys=>some (y::ys)
  | _,_=>none
theorem argOf_rep {G:Gh}{k:Option Nat}{bx:Option (List Rz)}{β:Nat}{x y:A}{u:Value} (h:argOf k x=some y) (hk:∀ j,k=some j→bx.isSome=true∧G.E j=some β) (hr:RepA G x u):RepA (argG G.C bx β) y u:=by
 unfold argOf at h
 split at h
 ·rename_i j o
  split at h
  ·rename_i hj
   obtain ⟨hj,rfl⟩:=hj
   have:=Option.some.inj h;subst this
   obtain ⟨h1,h2⟩:=hk j hj.symm
   unfold RepA at hr ⊢
   obtain ⟨b,hE,rfl⟩:=hr
   rw [h2] at hE
   have:=Option.some.inj hE;subst this
   exact ⟨β,by simp [argG,h1],rfl⟩
  ·cases h
 ·rename_i t j o
  split at h
  ·rename_i hj
   obtain ⟨hj,rfl⟩:=hj
   have:=Option.some.inj h;subst this
   obtain ⟨h1,h2⟩:=hk j hj.symm
   unfold RepA RepA at hr ⊢
   obtain ⟨y,rfl,b,hE,rfl⟩:=hr
   rw [h2] at hE
   have:=Option.some.inj hE;subst this
   exact ⟨_,rfl,β,by simp [argG,h1],rfl⟩
  ·cases h
 ·rename_i f fs cs
  unfold cloArg at h
  split at h
  ·rename_i a b h1 h2
   have:=Option.some.inj h;subst this
   unfold RepA at hr ⊢
   obtain ⟨us,vs,rfl,h3,h4⟩:=hr
   exact ⟨us,vs,rfl,RepL_map (G:=argG G.C bx β) (frzL_rep (G:=G) h1 h3),RepL_map (G:=argG G.C bx β) (frzL_rep (G:=G) h2 h4)⟩
  ·split at h
   ·rename_i j o _
    split at h
    ·rename_i hj
     obtain ⟨hj,rfl⟩:=hj
     have:=Option.some.inj h;subst this
     obtain ⟨h1,h2⟩:=hk j hj.symm
     unfold RepA at hr ⊢
     obtain ⟨us,vs,rfl,h3,h4⟩:=hr
     refine ⟨us,vs,rfl,by unfold RepAL at h3 ⊢;exact h3,?_⟩
     unfold RepAL at h4 ⊢
     obtain ⟨v,vs',e1,e2,e3⟩:=h4
     unfold RepAL at e3 ⊢
     unfold RepA at e2 ⊢
     obtain ⟨b,hE,rfl⟩:=e2
     rw [h2] at hE
     have:=Option.some.inj hE;subst this
     exact ⟨_,vs',e1,⟨β,by simp [argG,h1],rfl⟩,e3⟩
    ·cases h
   ·cases h
 ·simp only [Option.map_eq_some_iff] at h
  obtain ⟨d,h1,rfl⟩:=h
  unfold RepA
  show RepD G.C d u
  exact frz_rep h1 hr
theorem argsOf_rep {G:Gh}{k:Option Nat}{bx:Option (List Rz)}{β:Nat}:∀ {xs ys:List A}{us:List Value},argsOf k xs=some ys→(∀ j,k=some j→bx.isSome=true∧G.E j=some β)→RepAL G xs us→RepAL (argG G.C bx β) ys us
 | [],ys,us,h,_,hr=>by
  simp only [argsOf,Option.some.injEq] at h
  subst h
  unfold RepAL at hr ⊢
  exact hr
 | x::xs,ys,us,h,hk,hr=>by
  simp only [argsOf] at h
  split at h
  ·rename_i y ys' h1 h2
   simp only [Option.some.injEq] at h
   subst h
   unfold RepAL at hr
   obtain ⟨u,us',rfl,h3,h4⟩:=hr
   unfold RepAL
   exact ⟨u,us',rfl,argOf_rep h1 hk h3,argsOf_rep h2 hk h4⟩
  ·cases h

theorem wp_call {P:Program}{o:Oper}{f:FuncId}{xs:Array Operand}{ats:Array TypeId}{a:Act}{w:World}{Kc:Act→World→Prop}{Q:Exit→Act→World→Prop} (h:o.op=.call { callee:=.value (.func f),args:=xs,argTypes:=ats })
  (hf:∀ vs w,(callFunc f vs).run P w=.ok (.enter f vs) w) (hc:Calls P f ⟨xs.toList.map a.eval⟩ w fun e w'=>∃ v,e=.returned v∧Kc (a.put o.dst v) w'):o.wp P a w Kc Q:=by
 unfold Oper.wp
 have:(execOp a.eval o).run P w=.ok (.enter f ⟨xs.toList.map a.eval⟩) w:=by
  unfold execOp
  rw [h]
  have e:(#[]++xs.map a.eval++#[]:Array Value)=⟨xs.toList.map a.eval⟩:=by
   apply Array.toList_inj.1
   simp
  have:=hf (#[]++xs.map a.eval++#[]) w
  rw [e] at this
  rw [←this,←e]
  rfl
 rw [this]
 unfold Oper.upon
 refine hc.mono fun e w' ⟨v,he,hK⟩=>?_
 subst he
 exact hK

theorem Evo.bumpTo {G:Gh}{w:World}{m m':Mem}{G':Gh}{w':World}{κ:Nat} (h:Evo G w m G' w' m'):Evo G w m G' w' (m'.bump κ):=⟨h.le,h.fw,h.cn,h.lv,fun k hk=>.inl (h.us k hk)⟩

theorem does_call0 {P:Program}{o:Oper}{ρ:Operand→A}{m:Mem}{κ:Nat}{f:FuncId}{xs:Array Operand}{ats:Array TypeId}{ys:List A}{Q:Rz→Option (List Rz)→Prop} (h:o.op=.call { callee:=.value (.func f),args:=xs,argTypes:=ats })
  (ha:argsOf none (xs.toList.map ρ)=some ys) (hc:AC P f ys none Q) (hf:m.fresh κ) (hq:∀ r,Q r none→r.nk≤16):DoesR P o ρ m fun v m'=>∃ r,Q r none∧v=r.toA κ∧m'=(r.add κ m).bump κ:=fun G w a hok hr hlt Kc Q' hK=>by
 refine wp_call h hc.1 ((hc.2 w G.C 0 [] _ hok.cok (argsOf_rep ha (fun j hj=>by cases hj) (RepAL_map hr xs.toList)) rfl (by simp [XO])).mono fun e w' hpost=>?_)
 obtain ⟨v,r,bx',C',F,F',he,hQ,hb,hC,hC',hfw,hcn,hrz,hbo,hnd,hloc⟩:=hpost
 cases bx' with
 | some zs=>simp at hb
 | none=>
  unfold BoxO at hbo
  subst hbo
  simp only [XO,List.nil_append,List.not_mem_nil,or_false] at hnd hloc hfw hcn
  have hok1:MemOk { G with C:=C' } w' m:=hok.after (X:=fun _=>False) hC hC' hfw (fun b o u hc'=>by rcases hcn b o u hc' with h|h<;>simp [h]) (fun _ _ h=>h) (fun _ _ h=>h) rfl (fun _ _ _ _ h=>h)
  have hnk:=hq r hQ
  have hmine:∀ b,Mine { G with C:=C' } m b↔Mine G m b:=fun b=>Iff.rfl
  obtain ⟨G2,g1,g2,g3⟩:=Rz.added r (κ:=κ) hok1 hrz hnd (fun b hbF hm=>by
   have h1:=Mine.lt hok hm
   have h2:=hloc b hbF
   omega) (fun k hk hk'=>hf k hk (by omega))
  refine ⟨v,he,hK (r.toA κ) ((r.add κ m).bump κ) v w' G2 ⟨r,hQ,rfl,rfl⟩ ?_ (g1.ok.bump κ) g2 (A.lt.mono (fun _ hk=>.inl hk) _ g3)⟩
  refine ⟨⟨fun k hk=>g1.le.E k hk,fun k hk=>g1.le.cp k hk,fun b o u hc'=>g1.le.C b o u (hC b o u hc')⟩,⟨hfw.os,hfw.tape,hfw.output,hfw.size,fun k hk _=>hfw.block k hk id⟩,fun b o u hc'=>?_,fun b hb'=>?_,fun k hk=>.inl ((g1.us k).2 (.inl hk))⟩
  ·rw [g1.C] at hc'
   rcases hcn b o u hc' with h|h
   ·exact .inl h
   ·exact .inr (.inl h)
  ·rcases g1.mine b hb' with h|h
   ·exact .inr ((hmine b).1 h)
   ·exact .inl (hloc b h)

def clA:A→Option (FuncId × List A × List A)
 | .d (.v (.func (.func f) ⟨[]⟩ ⟨[]⟩))=>some (f,[],[])
 | .clo f fs cs=>some (f,fs,cs)
 | _=>none
theorem clA_rep {G:Gh}{x:A}{f:FuncId}{fs cs:List A}{u:Value} (h:clA x=some (f,fs,cs)) (hr:RepA G x u):∃ us vs,u=.func (.func f) ⟨us⟩ ⟨vs⟩∧RepAL G fs us∧RepAL G cs vs:=by
 unfold clA at h
 split at h
 ·simp only [Option.some.injEq,Prod.mk.injEq] at h
  obtain ⟨rfl,rfl,rfl⟩:=h
  unfold RepA RepD at hr
  exact ⟨[],[],hr,by unfold RepAL;rfl,by unfold RepAL;rfl⟩
 ·simp only [Option.some.injEq,Prod.mk.injEq] at h
  obtain ⟨rfl,rfl,rfl⟩:=h
  unfold RepA at hr
  exact hr
 ·cases h
theorem wp_callC {P:Program}{o:Oper}{f:FuncId}{c:Operand}{xs:Array Operand}{ats:Array TypeId}{a:Act}{w:World}{us vs:List Value}{Kc:Act→World→Prop}{Q:Exit→Act→World→Prop} (h:o.op=.call { callee:=.value c,args:=xs,argTypes:=ats })
  (hv:a.eval c=.func (.func f) ⟨us⟩ ⟨vs⟩) (hf:∀ vs w,(callFunc f vs).run P w=.ok (.enter f vs) w) (hc:Calls P f ⟨us++xs.toList.map a.eval++vs⟩ w fun e w'=>∃ v,e=.returned v∧Kc (a.put o.dst v) w'):o.wp P a w Kc Q:=by
 unfold Oper.wp
 have:(execOp a.eval o).run P w=.ok (.enter f ⟨us++xs.toList.map a.eval++vs⟩) w:=by
  unfold execOp
  rw [h]
  have e:((⟨us⟩:Array Value)++xs.map a.eval++⟨vs⟩:Array Value)=⟨us++xs.toList.map a.eval++vs⟩:=by
   apply Array.toList_inj.1
   simp
  have:=hf ((⟨us⟩:Array Value)++xs.map a.eval++⟨vs⟩) w
  rw [e] at this
  rw [←this,←e]
  simp only [resolve,hv,Deferred.ofValue,Sem.run_bind,Sem.run_pure,Result.andThen_ok,invoke]
 rw [this]
 unfold Oper.upon
 refine hc.mono fun e w' ⟨v,he,hK⟩=>?_
 subst he
 exact hK
theorem does_callC {P:Program}{o:Oper}{ρ:Operand→A}{m:Mem}{κ:Nat}{f:FuncId}{c:Operand}{fs cs:List A}{xs:Array Operand}{ats:Array TypeId}{ys:List A}{Q:Rz→Option (List Rz)→Prop} (h:o.op=.call { callee:=.value c,args:=xs,argTypes:=ats })
  (hcl:clA (ρ c)=some (f,fs,cs)) (ha:argsOf none (fs++xs.toList.map ρ++cs)=some ys) (hc:AC P f ys none Q) (hf:m.fresh κ) (hq:∀ r,Q r none→r.nk≤16):DoesR P o ρ m fun v m'=>∃ r,Q r none∧v=r.toA κ∧m'=(r.add κ m).bump κ:=fun G w a hok hr hlt Kc Q' hK=>by
 obtain ⟨us0,vs0,hv0,hus0,hvs0⟩:=clA_rep hcl (hr c)
 refine wp_callC h hv0 hc.1 ((hc.2 w G.C 0 [] _ hok.cok (argsOf_rep ha (fun j hj=>by cases hj) ((hus0.append (RepAL_map hr xs.toList)).append hvs0)) rfl (by simp [XO])).mono fun e w' hpost=>?_)
 obtain ⟨v,r,bx',C',F,F',he,hQ,hb,hC,hC',hfw,hcn,hrz,hbo,hnd,hloc⟩:=hpost
 cases bx' with
 | some zs=>simp at hb
 | none=>
  unfold BoxO at hbo
  subst hbo
  simp only [XO,List.nil_append,List.not_mem_nil,or_false] at hnd hloc hfw hcn
  have hok1:MemOk { G with C:=C' } w' m:=hok.after (X:=fun _=>False) hC hC' hfw (fun b o u hc'=>by rcases hcn b o u hc' with h|h<;>simp [h]) (fun _ _ h=>h) (fun _ _ h=>h) rfl (fun _ _ _ _ h=>h)
  have hnk:=hq r hQ
  have hmine:∀ b,Mine { G with C:=C' } m b↔Mine G m b:=fun b=>Iff.rfl
  obtain ⟨G2,g1,g2,g3⟩:=Rz.added r (κ:=κ) hok1 hrz hnd (fun b hbF hm=>by
   have h1:=Mine.lt hok hm
   have h2:=hloc b hbF
   omega) (fun k hk hk'=>hf k hk (by omega))
  refine ⟨v,he,hK (r.toA κ) ((r.add κ m).bump κ) v w' G2 ⟨r,hQ,rfl,rfl⟩ ?_ (g1.ok.bump κ) g2 (A.lt.mono (fun _ hk=>.inl hk) _ g3)⟩
  refine ⟨⟨fun k hk=>g1.le.E k hk,fun k hk=>g1.le.cp k hk,fun b o u hc'=>g1.le.C b o u (hC b o u hc')⟩,⟨hfw.os,hfw.tape,hfw.output,hfw.size,fun k hk _=>hfw.block k hk id⟩,fun b o u hc'=>?_,fun b hb'=>?_,fun k hk=>.inl ((g1.us k).2 (.inl hk))⟩
  ·rw [g1.C] at hc'
   rcases hcn b o u hc' with h|h
   ·exact .inl h
   ·exact .inr (.inl h)
  ·rcases g1.mine b hb' with h|h
   ·exact .inr ((hmine b).1 h)
   ·exact .inl (hloc b h)

end Go.Proofs.YtaammoodcgfhpaaDoor.Eng
namespace Go.Proofs.YtaammoodcgfhpaaDoor.Eng
open Go Go.RowKit

def lk {α:Type} (d:α):List (Nat × α)→Nat→α
 | [],_=>d
 | (k,v)::l,j=>if k=j then v else lk d l j
structure St where
 fr:List (Nat × A)
 bx:List (Nat × Option (List A))
 al:List (Nat × Option (Nat × TypeId × Nat))
 nx:Nat
def St.mem (s:St):Mem:={ bx:=lk none s.bx,al:=lk none s.al,us:=fun k=>k<s.nx }
def St.f (s:St):Nat→A:=lk .top s.fr

def SimS (en:En) (s:St) (a:Act) (w:World):Prop:=∃ G,Sim en s.f s.mem a w G

theorem lk_cons {α:Type} (d:α) (l:List (Nat × α)) (k:Nat) (v:α):lk d ((k,v)::l)=upd (lk d l) k v:=by
 funext j
 simp only [lk,upd]
 by_cases h:j=k
 ·subst h;simp
 ·rw [if_neg h,if_neg fun e=>h e.symm]

def AWs (P:Program) (en:En) (c:Code) (K:Exit→St→Prop) (s:St):Prop:=
 ∀ a w,SimS en s a w→c.wp P (fun e a' w'=>∃ s',SimS en s' a' w'∧K e s') a w
def OWs (P:Program) (en:En) (ops:Array Oper) (l:List Oper) (K:St→Prop) (s:St):Prop:=
 ∀ a w,SimS en s a w→∀ Q:Exit→Act→World→Prop,(∀ s' a' w',SimS en s' a' w'→K s'→Q .normal a' w')→wpList P ops Q l a w

section
variable {P:Program}{en:En}{K:Exit→St→Prop}{s:St}

theorem aw_seq {x y:Code} (h:AWs P en x (fun e s'=>match e with|.normal=>AWs P en y K s'|e=>K e s') s):AWs P en (.seq x y) K s:=fun a w hs=>by
 refine wp_seq (wp_mono (h a w hs) fun e a' w' ⟨s',h1,h2⟩=>?_)
 cases e<;>first|exact h2 a' w' h1|exact ⟨s',h1,h2⟩
theorem aw_cond {c:Operand}{x y:Code}{b:Bool} (hc:ev s.f c=.d (.v (.bool b))) (ht:b=true→AWs P en x K s) (hf:b=false→AWs P en y K s):AWs P en (.cond c x y) K s:=fun a w hs=>by
 obtain ⟨G,hG⟩:=hs
 exact wp_cond_split (v_rep (ρ:=ev s.f) hc (ev_rep hG.ok.cok.gl hG.rep)) (fun h=>ht h a w ⟨G,hG⟩) (fun h=>hf h a w ⟨G,hG⟩)
theorem aw_block {id:Nat}{c:Code} (h:AWs P en c (fun e s'=>match e with|.exit j=>if j=id then K .normal s' else K (.exit j) s'|e=>K e s') s):AWs P en (.block id c) K s:=fun a w hs=>by
 refine wp_block (wp_mono (h a w hs) fun e a' w' ⟨s',h1,h2⟩=>?_)
 cases e with
 | exit j=>
  simp only [Exit.inBlock]
  simp only at h2
  split
  ·rename_i hj;rw [if_pos hj] at h2;exact ⟨s',h1,h2⟩
  ·rename_i hj;rw [if_neg hj] at h2;exact ⟨s',h1,h2⟩
 | _=>exact ⟨s',h1,h2⟩
theorem aw_exit {id:Nat} (h:K (.exit id) s):AWs P en (.exit id) K s:=fun a w hs=>wp_exit ⟨s,hs,h⟩
theorem aw_ret (h:K .ret s):AWs P en .ret K s:=fun a w hs=>wp_ret ⟨s,hs,h⟩
theorem aw_skip (h:K .normal s):AWs P en .skip K s:=fun a w hs=>wp_skip ⟨s,hs,h⟩
def St.le (s s':St):Prop:=(∀ t,s'.f t=.top∨s'.f t=s.f t)∧(∀ k cs,s'.mem.bx k=some cs→s.mem.bx k=some cs)∧(∀ k x,s'.mem.al k=some x→s.mem.al k=some x)∧
 (∀ t,(s'.f t).lt s'.mem.us)∧(∀ k cs,s'.mem.bx k=some cs→A.ltL s'.mem.us cs∧k<s'.nx)∧(∀ k x,s'.mem.al k=some x→k<s'.nx)
theorem exists_min {S:Nat→Prop}:∀ n,S n→∃ k,S k∧∀ j,S j→k≤j:=by
 intro n
 induction n using Nat.strongRecOn with
 | _ n ih=>
  intro hn
  by_cases h:∃ j,S j∧j<n
  ·obtain ⟨j,hj,hlt⟩:=h
   exact ih j hlt hj
  ·exact ⟨n,hn,fun j hj=>Nat.le_of_not_lt fun hlt=>h ⟨j,hj,hlt⟩⟩
open Classical in
noncomputable def leastOf (S:Nat→Prop):Nat:=if h:∃ k,S k∧∀ j,S j→k≤j then Classical.choose h else 0
theorem leastOf_spec {S:Nat→Prop}{n:Nat} (h:S n):S (leastOf S)∧∀ j,S j→leastOf S≤j:=by
 have h':=exists_min n h
 unfold leastOf
 rw [dif_pos h']
 exact Classical.choose_spec h'
/-! ### Operations -/
def St.set (s:St) (d:Option Nat) (v:A):St:=match d with
 | some d=>{ s with fr:=(d,v)::s.fr }
 | none=>s
theorem St.set_f (s:St) (d:Option Nat) (v:A):(s.set d v).f=updD s.f d v:=by
 cases d with
 | none=>rfl
 | some d=>exact lk_cons _ _ _ _
theorem St.set_mem (s:St) (d:Option Nat) (v:A):(s.set d v).mem=s.mem:=by cases d<;>rfl

theorem ow_nil {ops:Array Oper}{K:St→Prop}{s:St} (h:K s):OWs P en ops [] K s:=fun a w hs Q hQ=>hQ s a w hs h
def guardB (s:St) (ops:Array Oper) (g:Nat):Option Bool:=match (ops[g]?).bind (·.dst) with
 | some t=>match s.f t with
  | .d (.v (.bool b))=>some b
  | _=>none
 | none=>none
theorem guardB_yields {s:St}{ops:Array Oper}{g:Nat}{b:Bool}{G:Gh}{a:Act} (h:guardB s ops g=some b) (hr:∀ t,RepA G (s.f t) (a.tmps.getD t undef)):yielded ops a.tmps g=some b:=by
 unfold guardB at h
 split at h
 ·rename_i t ht
  split at h
  ·rename_i b' hb
   have:=Option.some.inj h;subst this
   have h1:=hr t
   rw [hb] at h1
   unfold RepA RepD at h1
   unfold yielded
   simp only [ht]
   have h2:a.tmps.getD t undef=.bool b':=h1
   cases hq:a.tmps[t]? with
   | none=>
    rw [Array.getD_eq_getD_getElem?,hq] at h2
    simp [undef] at h2
   | some x=>
    rw [Array.getD_eq_getD_getElem?,hq] at h2
    simp only [Option.getD_some] at h2
    subst h2
    simp [hq]
  ·cases h
 ·cases h

def guardV (s:St) (ops:Array Oper) (g:Nat):Option Value:=match (ops[g]?).bind (·.dst) with
 | some t=>match s.f t with
  | .d (.v u)=>some u
  | _=>none
 | none=>none
theorem guardV_at {s:St}{ops:Array Oper}{g:Nat}{u:Value} (h:guardV s ops g=some u):∃ t,(ops[g]?).bind (·.dst)=some t∧s.f t=.d (.v u):=by
 unfold guardV at h
 split at h
 ·rename_i t ht
  split at h
  ·rename_i u' hu
   have:=Option.some.inj h;subst this
   exact ⟨t,ht,hu⟩
  ·cases h
 ·cases h
theorem guardV_yields {s:St}{ops:Array Oper}{g:Nat}{u:Value}{want:Bool}{G:Gh}{a:Act} (h:guardV s ops g=some u) (hne:u≠.bool want) (hr:∀ t,RepA G (s.f t) (a.tmps.getD t undef)):yielded ops a.tmps g≠some want:=by
 obtain ⟨t,ht,hu⟩:=guardV_at h
 have:=hr t
 rw [hu] at this
 unfold RepA RepD at this
 unfold yielded
 rw [ht]
 simp only [Option.bind_some]
 intro he
 rw [Array.getD_eq_getD_getElem?] at this
 split at he
 ·rename_i b hb
  rw [hb] at this
  simp only [Option.getD_some] at this
  have:=Option.some.inj he
  subst this
  exact hne (by rw [←‹Value.bool _=u›])
 ·cases he
def Wanted (s:St) (ops:Array Oper) (o:Oper):Prop:=match o.guard with
 | none=>True
 | some (g,want)=>guardB s ops g=some want
theorem wanted_run {s:St}{ops:Array Oper}{o:Oper}{G:Gh}{a:Act} (h:Wanted s ops o) (hr:∀ t,RepA G (s.f t) (a.tmps.getD t undef)):Region.wanted o (yielded ops a.tmps)=true:=by
 unfold Wanted at h
 unfold Region.wanted
 split at h
 ·rename_i hg;rw [hg]
 ·rename_i g want hg
  rw [hg]
  simp only
  rw [guardB_yields h hr]
  simp
theorem ow_step {ops:Array Oper}{o:Oper}{l:List Oper}{K:St→Prop}{s:St}{R:A→Mem→Prop} (hg:Wanted s ops o) (hd:∀ x,o.dst=some x→x<en.sz) (hD:DoesR P o (ev s.f) s.mem R)
  (hR:∀ v m',R v m'→∃ s1:St,s1.mem=m'∧s1.fr=s.fr∧OWs P en ops l K (s1.set o.dst v)):OWs P en ops (o::l) K s:=fun a w hs Q hQ=>by
 obtain ⟨G,hG⟩:=hs
 refine wpList_step fun K' hK'=>?_
 rw [if_pos (wanted_run hg hG.rep)]
 refine hD G w a hG.ok (ev_rep hG.ok.cok.gl hG.rep) (ev_lt hG.kf) K' _ fun v m' u w' G' hRv he hok hv hl=>?_
 obtain ⟨s1,h1,h2,h3⟩:=hR v m' hRv
 refine hK' _ _ (h3 _ _ ⟨G',?_⟩ Q hQ)
 subst h1
 have:=hG.step he hok (d:=o.dst) hd hv hl
 rw [St.set_f,St.set_mem]
 have e:s1.f=s.f:=by unfold St.f;rw [h2]
 rw [e]
 exact this
theorem Evo.refl {G:Gh}{w:World}{m:Mem}:Evo G w m G w m:=⟨Gh.Le.refl _ _,BelowX.refl _ _ _,fun _ _ _ h=>.inl h,fun _ h=>.inr h,fun _ h=>h⟩
theorem ow_skip {ops:Array Oper}{o:Oper}{l:List Oper}{K:St→Prop}{s:St}{g:Nat}{want:Bool}{u:Value} (hg:o.guard=some (g,want)) (hb:guardV s ops g=some u) (hne:u≠.bool want) (hd:∀ x,o.dst=some x→x<en.sz)
  (h:OWs P en ops l K (s.set o.dst (.d (.v (.tuple #[]))))):OWs P en ops (o::l) K s:=fun a w hs Q hQ=>by
 obtain ⟨G,hG⟩:=hs
 refine wpList_step fun K' hK'=>?_
 have:Region.wanted o (yielded ops a.tmps)=false:=by
  unfold Region.wanted
  rw [hg]
  simp only
  have:=guardV_yields hb hne hG.rep
  simpa using this
 rw [if_neg (by rw [this];simp)]
 refine hK' _ _ (h _ _ ⟨G,?_⟩ Q hQ)
 have:=hG.step Evo.refl hG.ok (d:=o.dst) (v:=.d (.v (.tuple #[]))) (u:=undef) hd (by unfold RepA RepD;rfl) (by unfold A.lt;trivial)
 rw [St.set_f,St.set_mem]
 exact this
theorem aw_region {id:Nat}{ops:Array Oper} (h:OWs P en ops ops.toList (K .normal) s):AWs P en (.region id ops false) K s:=fun a w hs=>
 wp_region_list (h a w hs _ fun s' _ _ h1 h2=>⟨s',h1,h2⟩)

end
end Go.Proofs.YtaammoodcgfhpaaDoor.Eng
namespace Go.Proofs.YtaammoodcgfhpaaDoor.Eng
open Go Go.RowKit

theorem bump_us (n:Nat):Eng.bump (fun k=>k<n) n=fun k=>k<n+16:=by
 funext k
 apply propext
 unfold Eng.bump
 omega
theorem mem_fresh (s:St):s.mem.fresh s.nx:=fun k h1 _ h3=>by
 have:k<s.nx:=h3
 omega

mutual
def Rz.addS:Rz→Nat→St→St
 | .d _,_,s=>s
 | .own e z es,κ,s=>{ s with al:=(κ,some (es.length,e,z))::s.al }
 | .box cs,κ,s=>{ s with bx:=(κ,some (cs.map .d))::s.bx }
 | .arr _ _ cs,κ,s=>{ s with bx:=(κ,some (cs.map .d))::s.bx }
 | .agg zs,κ,s=>Rz.addSL zs κ s
 | .tup zs,κ,s=>Rz.addSL zs κ s
def Rz.addSL:List Rz→Nat→St→St
 | [],_,s=>s
 | z::zs,κ,s=>Rz.addSL zs (κ+Rz.nk z) (Rz.addS z κ s)
end
mutual
theorem Rz.addS_mem:∀ (z:Rz) (κ:Nat) (s:St) (m:Mem),m.bx=lk none s.bx→m.al=lk none s.al→(z.add κ m).bx=lk none (z.addS κ s).bx∧(z.add κ m).al=lk none (z.addS κ s).al∧(z.addS κ s).fr=s.fr∧(∀ k,(z.add κ m).us k↔m.us k∨(κ≤k∧k<κ+z.nk))
 | .d _,κ,s,m,h1,h2=>⟨h1,h2,rfl,fun k=>by unfold Rz.add Rz.nk;constructor<;>intro h<;>first|exact .inl h|exact h.elim id fun h=>by omega⟩
 | .own e z es,κ,s,m,h1,h2=>by
  unfold Rz.add Rz.addS Rz.nk
  refine ⟨h1,by rw [lk_cons,h2],rfl,fun k=>?_⟩
  constructor
  ·rintro (h|h)
   ·exact .inl h
   ·exact .inr (by omega)
  ·rintro (h|h)
   ·exact .inl h
   ·exact .inr (by omega)
 | .box cs,κ,s,m,h1,h2=>by
  unfold Rz.add Rz.addS Rz.nk
  refine ⟨by rw [lk_cons,h1],h2,rfl,fun k=>?_⟩
  constructor
  ·rintro (h|h)
   ·exact .inl h
   ·exact .inr (by omega)
  ·rintro (h|h)
   ·exact .inl h
   ·exact .inr (by omega)
 | .arr _ _ cs,κ,s,m,h1,h2=>by
  unfold Rz.add Rz.addS Rz.nk
  refine ⟨by rw [lk_cons,h1],h2,rfl,fun k=>?_⟩
  constructor
  ·rintro (h|h)
   ·exact .inl h
   ·exact .inr (by omega)
  ·rintro (h|h)
   ·exact .inl h
   ·exact .inr (by omega)
 | .agg zs,κ,s,m,h1,h2=>by unfold Rz.add Rz.addS Rz.nk;exact Rz.addSL_mem zs κ s m h1 h2
 | .tup zs,κ,s,m,h1,h2=>by unfold Rz.add Rz.addS Rz.nk;exact Rz.addSL_mem zs κ s m h1 h2
theorem Rz.addSL_mem:∀ (zs:List Rz) (κ:Nat) (s:St) (m:Mem),m.bx=lk none s.bx→m.al=lk none s.al→(Rz.addL zs κ m).bx=lk none (Rz.addSL zs κ s).bx∧(Rz.addL zs κ m).al=lk none (Rz.addSL zs κ s).al∧(Rz.addSL zs κ s).fr=s.fr∧(∀ k,(Rz.addL zs κ m).us k↔m.us k∨(κ≤k∧k<κ+Rz.nkL zs))
 | [],κ,s,m,h1,h2=>⟨h1,h2,rfl,fun k=>by unfold Rz.addL Rz.nkL;constructor<;>intro h<;>first|exact .inl h|exact h.elim id fun h=>by omega⟩
 | z::zs,κ,s,m,h1,h2=>by
  obtain ⟨a1,a2,a3,a4⟩:=Rz.addS_mem z κ s m h1 h2
  obtain ⟨b1,b2,b3,b4⟩:=Rz.addSL_mem zs (κ+z.nk) (z.addS κ s) (z.add κ m) a1 a2
  unfold Rz.addL Rz.addSL Rz.nkL
  refine ⟨b1,b2,b3.trans a3,fun k=>?_⟩
  rw [b4,a4]
  constructor
  ·rintro ((h|h)|h)
   ·exact .inl h
   ·exact .inr (by omega)
   ·exact .inr (by omega)
  ·rintro (h|h)
   ·exact .inl (.inl h)
   ·by_cases k<κ+z.nk
    ·exact .inl (.inr (by omega))
    ·exact .inr (by omega)
end
def St.got (s:St) (r:Rz) (d:Option Nat):St:={ r.addS s.nx s with nx:=s.nx+16 }.set d (r.toA s.nx)

def CallN (P:Program) (s:St) (f:FuncId) (xs:List A) (d:Option Nat) (K:St→Prop):Prop:=
 ∃ ys Q,argsOf none xs=some ys∧AC P f ys none Q∧∀ r,Q r none→r.nk≤16∧K (s.got r d)
def appN (s:St) (b:A) (e:TypeId) (z:Nat) (es2:List (List D)) (d:Option Nat) (K:St→Prop):Prop:=match b with
 | .d (.v (.slice none 0 0))=>es2.length≤268435456∧K ({ s with al:=(s.nx,some (es2.length,e,z))::s.al,nx:=s.nx+16 }.set d (.own s.nx e z es2))
 | .own k e' z' es=>e'=e∧z'=z∧lk none s.al k=some (es.length,e,z)∧es.length+es2.length≤268435456∧K ({ s with al:=(s.nx,some ((es++es2).length,e,z))::(k,none)::s.al,nx:=s.nx+16 }.set d (.own s.nx e z (es++es2)))
 | _=>False
def NCall (P:Program) (s:St) (c:Call) (d:Option Nat) (K:St→Prop):Prop:=match c with
 | ⟨.builtin .append,args,ats⟩=>match args.toList,ats.toList with
  | [b,x],[t,t']=>t=t'∧∃ e z es2,tyElem P t=some e∧tyRow P e=some z∧elemsN z (ev s.f x)=some es2∧appN s (ev s.f b) e z es2 d K
  | _,_=>False
 | ⟨.value (.func f),args,_⟩=>CallN P s f (args.toList.map (ev s.f)) d K
 | c=>callV P (ev s.f) c fun v=>K (s.set d v)
def storeN (P:Program) (s:St) (t:TypeId) (ad x:A) (d:Option Nat) (K:St→Prop):Prop:=match ad with
 | .ptr k off=>∃ cs xs g,lk none s.bx k=some cs∧cells1 x=some xs∧tyK P t=some (g,xs.length)∧off+xs.length≤cs.length∧K ({ s with bx:=(k,some (splice cs xs off))::s.bx }.set d .top)
 | _=>False
def NStep (P:Program) (s:St) (op:Op) (d:Option Nat) (K:St→Prop):Prop:=match op with
 | .box _ x=>∃ cs,cells1 (ev s.f x)=some cs∧K ({ s with bx:=(s.nx,some cs)::s.bx,nx:=s.nx+16 }.set d (.ptr s.nx 0))
 | .alloc t=>∃ zs,tyZero P t=some zs∧K ({ s with bx:=(s.nx,some (zs.map fun x=>.d (.v x)))::s.bx,nx:=s.nx+16 }.set d (.ptr s.nx 0))
 | .store t ad x=>storeN P s t (ev s.f ad) (ev s.f x) d K
 | .buildSlice t len parts=>∃ e z es,tyElem P t=some e∧tyRow P e=some z∧cellsDs (parts.toList.map fun x=>ev s.f x.2)=some es∧(∀ e∈es,e.length=z)∧len*z≤16777216∧
   (parts=(((parts.toList.map (·.2)).zipIdx).map fun (x,j)=>(j,x)).toArray∧len=(parts.toList.map (·.2)).length)∧K ({ s with al:=(s.nx,some (es.length,e,z))::s.al,nx:=s.nx+16 }.set d (.own s.nx e z es))
 | .call c=>NCall P s c d K
 | op=>VStep P (ev s.f) (lk none s.bx) op fun v=>K (s.set d v)

theorem does_yields0 {P:Program}{o:Oper}{ρ:Operand→A}{m:Mem}{v:A} (h:Yields P o ρ m.bx v):Does P o ρ m v m:=fun G w a hok hr hl Kc Q hK=>by
 obtain ⟨u,h1,h2⟩:=h.1 G w m a hok rfl hr
 refine wp_of_value h1 (hK u w G Evo.refl hok h2 (h.2 m.us hl fun k cs hb=>?_))
 obtain ⟨_,_,_,hl'⟩:=hok.box k cs hb
 exact hl'

section
variable {P:Program}{en:En}{ops:Array Oper}{o:Oper}{l:List Oper}{K:St→Prop}{s:St}

theorem ow_does {v:A}{m':Mem} (hg:Wanted s ops o) (hd:∀ x,o.dst=some x→x<en.sz) (hD:Does P o (ev s.f) s.mem v m') (s1:St) (h1:s1.mem=m') (h2:s1.fr=s.fr) (h3:OWs P en ops l K (s1.set o.dst v)):OWs P en ops (o::l) K s:=
 ow_step (R:=fun v' m''=>v'=v∧m''=m') hg hd (hD.r ⟨rfl,rfl⟩) fun v' m'' ⟨e1,e2⟩=>by subst e1;subst e2;exact ⟨s1,h1,h2,h3⟩

theorem ow_v (hg:Wanted s ops o) (hd:∀ x,o.dst=some x→x<en.sz) (h:VStep P (ev s.f) (lk none s.bx) o.op fun v=>OWs P en ops l K (s.set o.dst v)):OWs P en ops (o::l) K s:=by
 obtain ⟨v,h1,h2⟩:=vstep_sound h
 exact ow_does hg hd (does_yields0 (m:=s.mem) h2) s rfl rfl h1

theorem ow_callN {f:FuncId}{xs:Array Operand}{ats:Array TypeId} (hg:Wanted s ops o) (hd:∀ x,o.dst=some x→x<en.sz) (ho:o.op=.call { callee:=.value (.func f),args:=xs,argTypes:=ats }) (h:CallN P s f (xs.toList.map (ev s.f)) o.dst (OWs P en ops l K)):OWs P en ops (o::l) K s:=by
 obtain ⟨ys,Q,h1,h2,h3⟩:=h
 refine ow_step hg hd (does_call0 (κ:=s.nx) ho h1 h2 (mem_fresh s) fun r hr=>(h3 r hr).1) fun v m' ⟨r,hr,e1,e2⟩=>?_
 subst e1 e2
 obtain ⟨g1,g2⟩:=h3 r hr
 obtain ⟨a1,a2,a3,a4⟩:=Rz.addS_mem r s.nx s s.mem rfl rfl
 refine ⟨{ r.addS s.nx s with nx:=s.nx+16 },?_,a3,g2⟩
 unfold St.mem Mem.bump
 rw [←a1,←a2]
 congr 1
 funext k
 apply propext
 have h5:(r.add s.nx s.mem).us k↔k<s.nx∨(s.nx≤k∧k<s.nx+r.nk):=a4 k
 show k<s.nx+16↔(r.add s.nx s.mem).us k∨(s.nx≤k∧k<s.nx+16)
 rw [h5]
 omega

theorem ow_callV {f:FuncId}{c:Operand}{fs cs:List A}{xs:Array Operand}{ats:Array TypeId} (hg:Wanted s ops o) (hd:∀ x,o.dst=some x→x<en.sz) (ho:o.op=.call { callee:=.value c,args:=xs,argTypes:=ats }) (hcl:clA (ev s.f c)=some (f,fs,cs)) (h:CallN P s f (fs++xs.toList.map (ev s.f)++cs) o.dst (OWs P en ops l K)):OWs P en ops (o::l) K s:=by
 obtain ⟨ys,Q,h1,h2,h3⟩:=h
 refine ow_step hg hd (does_callC (κ:=s.nx) ho hcl h1 h2 (mem_fresh s) fun r hr=>(h3 r hr).1) fun v m' ⟨r,hr,e1,e2⟩=>?_
 subst e1 e2
 obtain ⟨g1,g2⟩:=h3 r hr
 obtain ⟨a1,a2,a3,a4⟩:=Rz.addS_mem r s.nx s s.mem rfl rfl
 refine ⟨{ r.addS s.nx s with nx:=s.nx+16 },?_,a3,g2⟩
 unfold St.mem Mem.bump
 rw [←a1,←a2]
 congr 1
 funext k
 apply propext
 have h5:(r.add s.nx s.mem).us k↔k<s.nx∨(s.nx≤k∧k<s.nx+r.nk):=a4 k
 show k<s.nx+16↔(r.add s.nx s.mem).us k∨(s.nx≤k∧k<s.nx+16)
 rw [h5]
 omega

theorem nstep_sound (hg:Wanted s ops o) (hd:∀ x,o.dst=some x→x<en.sz) (h:NStep P s o.op o.dst (OWs P en ops l K)):OWs P en ops (o::l) K s:=by
 have hbump:∀ (bx:List (Nat × Option (List A))) (al:List (Nat × Option (Nat × TypeId × Nat))),({ fr:=s.fr,bx:=bx,al:=al,nx:=s.nx+16 }:St).mem={ bx:=lk none bx,al:=lk none al,us:=Eng.bump s.mem.us s.nx }:=fun bx al=>by
  unfold St.mem
  simp only
  rw [bump_us]
 generalize ho:o.op=op at h
 unfold NStep at h
 split at h
 ·rename_i t x
  obtain ⟨cs,h1,h2⟩:=h
  exact ow_does hg hd (does_box ho h1 (mem_fresh s)) { s with bx:=(s.nx,some cs)::s.bx,nx:=s.nx+16 } (by rw [hbump];unfold Mem.box;rw [lk_cons];rfl) rfl h2
 ·rename_i t
  obtain ⟨zs,h1,h2⟩:=h
  exact ow_does hg hd (does_alloc ho h1 (mem_fresh s)) { s with bx:=(s.nx,some (zs.map fun x=>.d (.v x)))::s.bx,nx:=s.nx+16 } (by rw [hbump];unfold Mem.box;rw [lk_cons];rfl) rfl h2
 ·rename_i t ad x
  unfold storeN at h
  split at h
  ·rename_i k off ha
   obtain ⟨cs,xs,g,h1,h2,h3,h4,h5⟩:=h
   exact ow_does hg hd (does_store ho ha (m:=s.mem) h1 h2 h3 h4) { s with bx:=(k,some (splice cs xs off))::s.bx } (by unfold St.mem Mem.put;rw [lk_cons]) rfl h5
  ·exact h.elim
 ·rename_i t len parts
  obtain ⟨e,z,es,h1,h2,h3,h4,h5,⟨h6,h7⟩,h8⟩:=h
  have h3':cellsDs ((parts.toList.map (·.2)).map (ev s.f))=some es:=by rw [List.map_map];exact h3
  exact ow_does hg hd (does_buildSlice ho h6 h7 h1 h2 h3' h4 h5 (mem_fresh s)) { s with al:=(s.nx,some (es.length,e,z))::s.al,nx:=s.nx+16 } (by rw [hbump];unfold Mem.row;rw [lk_cons];rfl) rfl h8
 ·rename_i c
  unfold NCall at h
  split at h
  ·rename_i args ats
   split at h
   ·rename_i b x t t' ha hat
    obtain ⟨rfl,e,z,es2,h1,h2,h3,h4⟩:=h
    have ha':args=#[b,x]:=by apply Array.toList_inj.1;simpa using ha
    have hat':ats=#[t,t]:=by apply Array.toList_inj.1;simpa using hat
    subst ha' hat'
    unfold appN at h4
    split at h4
    ·rename_i hb
     exact ow_does hg hd (does_append_nil ho h1 h2 hb h3 h4.1 (mem_fresh s)) { s with al:=(s.nx,some (es2.length,e,z))::s.al,nx:=s.nx+16 } (by rw [hbump];unfold Mem.row;rw [lk_cons];rfl) rfl h4.2
    ·rename_i k e' z' es hb
     obtain ⟨rfl,rfl,h5,h6,h7⟩:=h4
     exact ow_does hg hd (does_append_own ho h1 h2 hb h5 h3 h6 (mem_fresh s)) { s with al:=(s.nx,some ((es++es2).length,e',z'))::(k,none)::s.al,nx:=s.nx+16 } (by rw [hbump];unfold Mem.row Mem.drop;rw [lk_cons,lk_cons];rfl) rfl h7
    ·exact h4.elim
   ·exact h.elim
  ·exact ow_callN hg hd ho h
  ·exact ow_v hg hd (by rw [ho];exact h)
 ·exact ow_v hg hd (by rw [ho];exact h)
end
end Go.Proofs.YtaammoodcgfhpaaDoor.Eng
namespace Go.Proofs.YtaammoodcgfhpaaDoor.Eng
open Go Go.RowKit

mutual
def dle:D→D→Prop
 | .v x,y=>y=.v x
 | .sl z es,y=>(es=[]∧y=.v (.slice none 0 0))∨∃ es',y=.sl z es'∧dleLL es es'
 | .rp cs,y=>∃ cs',y=.rp cs'∧dleL cs cs'
 | .agg cs,y=>∃ cs',y=.agg cs'∧dleL cs cs'
 | .tup cs,y=>∃ cs',y=.tup cs'∧dleL cs cs'
 | .ifc t x,y=>∃ y',y=.ifc t y'∧dle x y'
 | .iv p x,y=>∃ y',y=.iv p y'∧dle x y'
 | .gl g,y=>y=.gl g
 | .sp z es,y=>y=.sp z es
def dleL:List D→List D→Prop
 | [],ys=>ys=[]
 | c::cs,ys=>∃ c' cs',ys=c'::cs'∧dle c c'∧dleL cs cs'
def dleLL:List (List D)→List (List D)→Prop
 | [],ys=>ys=[]
 | c::cs,ys=>∃ c' cs',ys=c'::cs'∧dleL c c'∧dleLL cs cs'
end
mutual
theorem dle_refl:∀ x:D,dle x x
 | .v x=>by unfold dle;rfl
 | .sl z es=>by unfold dle;exact .inr ⟨es,rfl,dleLL_refl es⟩
 | .rp cs=>by unfold dle;exact ⟨cs,rfl,dleL_refl cs⟩
 | .agg cs=>by unfold dle;exact ⟨cs,rfl,dleL_refl cs⟩
 | .tup cs=>by unfold dle;exact ⟨cs,rfl,dleL_refl cs⟩
 | .ifc t x=>by unfold dle;exact ⟨x,rfl,dle_refl x⟩
 | .iv p x=>by unfold dle;exact ⟨x,rfl,dle_refl x⟩
 | .gl g=>by unfold dle;rfl
 | .sp z es=>by unfold dle;rfl
theorem dleL_refl:∀ x:List D,dleL x x
 | []=>by unfold dleL;rfl
 | c::cs=>by unfold dleL;exact ⟨c,cs,rfl,dle_refl c,dleL_refl cs⟩
theorem dleLL_refl:∀ x:List (List D),dleLL x x
 | []=>by unfold dleLL;rfl
 | c::cs=>by unfold dleLL;exact ⟨c,cs,rfl,dleL_refl c,dleLL_refl cs⟩
end
theorem dleL_len:∀ {xs ys:List D},dleL xs ys→xs.length=ys.length
 | [],ys,h=>by unfold dleL at h;rw [h]
 | c::cs,ys,h=>by
  unfold dleL at h
  obtain ⟨c',cs',rfl,_,h2⟩:=h
  simp [dleL_len h2]
theorem dleLL_len:∀ {xs ys:List (List D)},dleLL xs ys→xs.length=ys.length
 | [],ys,h=>by unfold dleLL at h;rw [h]
 | c::cs,ys,h=>by
  unfold dleLL at h
  obtain ⟨c',cs',rfl,_,h2⟩:=h
  simp [dleLL_len h2]
mutual
theorem dle_rep {C:CellR}:∀ {x y:D}{u:Value},dle x y→RepD C y u→RepD C x u
 | .v x,y,u,h,hr=>by unfold dle at h;subst h;exact hr
 | .sl z es,y,u,h,hr=>by
  unfold dle at h
  rcases h with ⟨rfl,rfl⟩|⟨es',rfl,h⟩
  ·unfold RepD at hr ⊢
   subst hr
   exact ⟨none,0,rfl,by simp,by simp [maxLen],.inl rfl⟩
  ·unfold RepD at hr ⊢
   obtain ⟨a,cap,h1,h2,h3,h4⟩:=hr
   have hl:=dleLL_len h
   refine ⟨a,cap,by rw [hl];exact h1,by rw [hl];exact h2,h3,?_⟩
   rcases h4 with rfl|⟨b,o,ha,h4⟩
   ·left
    exact List.length_eq_zero_iff.1 (by rw [hl];rfl)
   ·exact .inr ⟨b,o,ha,dleLL_rep h h4⟩
 | .rp cs,y,u,h,hr=>by
  unfold dle at h
  obtain ⟨cs',rfl,h⟩:=h
  unfold RepD at hr ⊢
  obtain ⟨b,o,h1,h2⟩:=hr
  exact ⟨b,o,h1,dleCs_rep h h2⟩
 | .agg cs,y,u,h,hr=>by
  unfold dle at h
  obtain ⟨cs',rfl,h⟩:=h
  unfold RepD at hr ⊢
  obtain ⟨us,h1,h2,h3⟩:=hr
  exact ⟨us,h1,dleL_rep h h2,h3⟩
 | .tup cs,y,u,h,hr=>by
  unfold dle at h
  obtain ⟨cs',rfl,h⟩:=h
  unfold RepD at hr ⊢
  obtain ⟨us,h1,h2⟩:=hr
  exact ⟨us,h1,dleL_rep h h2⟩
 | .ifc t x,y,u,h,hr=>by
  unfold dle at h
  obtain ⟨y',rfl,h⟩:=h
  unfold RepD at hr ⊢
  obtain ⟨v,h1,h2⟩:=hr
  exact ⟨v,h1,dle_rep h h2⟩
 | .iv p x,y,u,h,hr=>by
  unfold dle at h
  obtain ⟨y',rfl,h⟩:=h
  unfold RepD at hr ⊢
  exact dle_rep h hr
 | .gl g,y,u,h,hr=>by
  unfold dle at h
  subst h
  exact hr
 | .sp z es,y,u,h,hr=>by
  unfold dle at h
  subst h
  exact hr
theorem dleL_rep {C:CellR}:∀ {xs ys:List D}{us:List Value},dleL xs ys→RepL C ys us→RepL C xs us
 | [],ys,us,h,hr=>by unfold dleL at h;subst h;exact hr
 | c::cs,ys,us,h,hr=>by
  unfold dleL at h
  obtain ⟨c',cs',rfl,h1,h2⟩:=h
  unfold RepL at hr ⊢
  obtain ⟨u,us',h3,h4,h5⟩:=hr
  exact ⟨u,us',h3,dle_rep h1 h4,dleL_rep h2 h5⟩
theorem dleCs_rep {C:CellR}:∀ {xs ys:List D}{b o:Nat},dleL xs ys→RepCs C ys b o→RepCs C xs b o
 | [],ys,b,o,h,hr=>by unfold RepCs;trivial
 | c::cs,ys,b,o,h,hr=>by
  unfold dleL at h
  obtain ⟨c',cs',rfl,h1,h2⟩:=h
  unfold RepCs at hr ⊢
  obtain ⟨⟨u,h3,h4⟩,h5⟩:=hr
  exact ⟨⟨u,h3,dle_rep h1 h4⟩,dleCs_rep h2 h5⟩
theorem dleLL_rep {C:CellR}{z:Nat}:∀ {xs ys:List (List D)}{b o:Nat},dleLL xs ys→RepEs C z ys b o→RepEs C z xs b o
 | [],ys,b,o,h,hr=>by unfold RepEs;trivial
 | c::cs,ys,b,o,h,hr=>by
  unfold dleLL at h
  obtain ⟨c',cs',rfl,h1,h2⟩:=h
  unfold RepEs at hr ⊢
  obtain ⟨h3,h4,h5⟩:=hr
  exact ⟨(dleL_len h1).trans h3,dleCs_rep h1 h4,dleLL_rep h2 h5⟩
end

mutual
def wkD:D→A→Prop
 | .v x,y=>y=.d (.v x)
 | .sl z es,y=>(∃ y',y=.d y'∧dle (.sl z es) y')∨∃ k e es',y=.own k e z es'∧dleLL es es'
 | .rp cs,y=>∃ y',y=.d y'∧dle (.rp cs) y'
 | .agg cs,y=>(∃ y',y=.d y'∧dle (.agg cs) y')∨∃ cs',y=.agg cs'∧wkDL cs cs'
 | .tup cs,y=>(∃ y',y=.d y'∧dle (.tup cs) y')∨∃ cs',y=.tup cs'∧wkDL cs cs'
 | .ifc t x,y=>∃ y',y=.d y'∧dle (.ifc t x) y'
 | .iv p x,y=>∃ y',y=.d y'∧dle (.iv p x) y'
 | .gl g,y=>y=.d (.gl g)
 | .sp z es,y=>y=.d (.sp z es)
def wkDL:List D→List A→Prop
 | [],ys=>ys=[]
 | c::cs,ys=>∃ c' cs',ys=c'::cs'∧wkD c c'∧wkDL cs cs'
end
theorem wkD_d {x y:D} (h:dle x y):wkD x (.d y):=by
 cases x with
 | v x=>unfold dle at h;subst h;unfold wkD;rfl
 | sl z es=>unfold wkD;exact .inl ⟨y,rfl,h⟩
 | rp cs=>unfold wkD;exact ⟨y,rfl,h⟩
 | agg cs=>unfold wkD;exact .inl ⟨y,rfl,h⟩
 | tup cs=>unfold wkD;exact .inl ⟨y,rfl,h⟩
 | ifc t x=>unfold wkD;exact ⟨y,rfl,h⟩
 | iv p x=>unfold wkD;exact ⟨y,rfl,h⟩
 | gl g=>unfold dle at h;subst h;unfold wkD;rfl
 | sp z es=>unfold dle at h;subst h;unfold wkD;rfl
theorem wkD_self (x:D):wkD x (.d x):=wkD_d (dle_refl x)
mutual
theorem wkD_rep {G:Gh}:∀ {x:D}{y:A}{u:Value},wkD x y→RepA G y u→RepD G.C x u
 | .v x,y,u,h,hr=>by unfold wkD at h;subst h;unfold RepA at hr;exact hr
 | .sl z es,y,u,h,hr=>by
  unfold wkD at h
  rcases h with ⟨y',rfl,h⟩|⟨k,e,es',rfl,h⟩
  ·unfold RepA at hr;exact dle_rep h hr
  ·unfold RepA at hr
   have hl:=dleLL_len h
   unfold RepD
   rcases hr with ⟨_,rfl,rfl⟩|⟨b,_,h2,h3,h4,h5⟩
   ·exact ⟨none,0,by rw [hl];rfl,by rw [hl];simp,by simp [maxLen],.inl (List.length_eq_zero_iff.1 (by rw [hl];rfl))⟩
   ·exact ⟨some ⟨b,0,none⟩,_,by rw [hl];exact h2,by rw [hl];exact h3,h4,.inr ⟨b,0,rfl,dleLL_rep h h5⟩⟩
 | .rp cs,y,u,h,hr=>by
  unfold wkD at h
  obtain ⟨y',rfl,h⟩:=h
  unfold RepA at hr;exact dle_rep h hr
 | .agg cs,y,u,h,hr=>by
  unfold wkD at h
  rcases h with ⟨y',rfl,h⟩|⟨cs',rfl,h⟩
  ·unfold RepA at hr;exact dle_rep h hr
  ·unfold RepA at hr
   unfold RepD
   obtain ⟨us,h1,h2,h3⟩:=hr
   exact ⟨us,h1,wkDL_rep h h2,h3⟩
 | .tup cs,y,u,h,hr=>by
  unfold wkD at h
  rcases h with ⟨y',rfl,h⟩|⟨cs',rfl,h⟩
  ·unfold RepA at hr;exact dle_rep h hr
  ·unfold RepA at hr
   unfold RepD
   obtain ⟨us,h1,h2⟩:=hr
   exact ⟨us,h1,wkDL_rep h h2⟩
 | .ifc t x,y,u,h,hr=>by
  unfold wkD at h
  obtain ⟨y',rfl,h⟩:=h
  unfold RepA at hr;exact dle_rep h hr
 | .iv p x,y,u,h,hr=>by
  unfold wkD at h
  obtain ⟨y',rfl,h⟩:=h
  unfold RepA at hr;exact dle_rep h hr
 | .gl g,y,u,h,hr=>by unfold wkD at h;subst h;unfold RepA at hr;exact hr
 | .sp z es,y,u,h,hr=>by unfold wkD at h;subst h;unfold RepA at hr;exact hr
theorem wkDL_rep {G:Gh}:∀ {xs:List D}{ys:List A}{us:List Value},wkDL xs ys→RepAL G ys us→RepL G.C xs us
 | [],ys,us,h,hr=>by
  unfold wkDL at h
  subst h
  unfold RepAL at hr
  unfold RepL
  exact hr
 | c::cs,ys,us,h,hr=>by
  unfold wkDL at h
  obtain ⟨c',cs',rfl,h1,h2⟩:=h
  unfold RepAL at hr
  unfold RepL
  obtain ⟨u,us',h3,h4,h5⟩:=hr
  exact ⟨u,us',h3,wkD_rep h1 h4,wkDL_rep h2 h5⟩
end
end Go.Proofs.YtaammoodcgfhpaaDoor.Eng
namespace Go.Proofs.YtaammoodcgfhpaaDoor.Eng
open Go Go.RowKit

def resL (P:Program) (s:St):List ResultVar→(List A→Prop)→Prop
 | [],K=>K []
 | .tmp t::r,K=>resL P s r fun l=>K (s.f t::l)
 | .cell a ty::r,K=>loadV P (lk none s.bx) ty (s.f a) fun v=>resL P s r fun l=>K (v::l)
def resOf:List A→A
 | [x]=>x
 | l=>mkTup l
theorem loadV_run {P:Program}{G:Gh}{w:World}{s:St}{ty:TypeId}{t:Nat}{a:Act}{K:A→Prop} (h:loadV P (lk none s.bx) ty (s.f t) K) (hok:MemOk G w s.mem) (hr:∀ t,RepA G (s.f t) (a.tmps.getD t undef)):∃ v u,K v∧RepA G v u∧(do loadVar ty (←asAddr (a.tmps.getD t undef)):Sem Value).run P w=.ok u w:=by
 obtain ⟨v, h1, h2⟩ := y_load (o := { dst := none, op := .load ty (.tmp t), type := 0, pos := "", after := #[], guard := none }) (ρ := ev s.f) rfl h
 obtain ⟨u,h3,h4⟩:=h2.1 G w s.mem a hok rfl (ev_rep hok.cok.gl hr)
 refine ⟨v,u,h1,h4,?_⟩
 have hptr:∃ ad,a.tmps.getD t undef=.pointer (some ad):=by
  unfold loadV at h
  have hrt:=hr t
  split at h
  ·rename_i k o hx
   rw [hx] at hrt
   unfold RepA at hrt
   obtain ⟨b,_,hb⟩:=hrt
   exact ⟨_,hb⟩
  ·rename_i cs hx
   rw [hx] at hrt
   unfold RepA RepD at hrt
   obtain ⟨b,o,hb,_⟩:=hrt
   exact ⟨_,hb⟩
  ·exact h.elim
 obtain ⟨ad,had⟩:=hptr
 unfold execOp at h3
 simp only [Act.eval,had,Instr.loadAt,Instr.sureAddr,Sem.run_bind,Sem.run_pure,Result.andThen_ok] at h3
 rw [had]
 simp only [asAddr,Sem.run_bind,Sem.run_pure,Result.andThen_ok]
 cases hq:(loadVar ty ad).run P w with
 | ok x w'=>
  rw [hq] at h3
  simp only [Result.andThen_ok,Result.ok.injEq,Next.value.injEq] at h3
  rw [h3.1,h3.2]
 | halt x w'=>
  rw [hq] at h3
  simp at h3
def resSem (tmps:Array Value):ResultVar→Sem Value
 | .tmp t=>pure (tmps.getD t undef)
 | .cell a t=>do loadVar t (←asAddr (tmps.getD a undef))
theorem resL_run {P:Program}{G:Gh}{w:World}{s:St}{a:Act} (hok:MemOk G w s.mem) (hr:∀ t,RepA G (s.f t) (a.tmps.getD t undef)):∀ (rs:List ResultVar) {K:List A→Prop},resL P s rs K→∃ l us,K l∧RepAL G l us∧(rs.mapM (resSem a.tmps)).run P w=.ok us w
 | [],K,h=>⟨[],[],h,by unfold RepAL;rfl,by simp⟩
 | .tmp t::r,K,h=>by
  unfold resL at h
  obtain ⟨l,us,h1,h2,h3⟩:=resL_run hok hr r h
  refine ⟨_,a.tmps.getD t undef::us,h1,by unfold RepAL;exact ⟨_,us,rfl,hr t,h2⟩,?_⟩
  simp [List.mapM_cons,resSem,h3]
 | .cell ad ty::r,K,h=>by
  unfold resL at h
  obtain ⟨v,u,h1,h2,h3⟩:=loadV_run h hok hr
  obtain ⟨l,us,h4,h5,h6⟩:=resL_run hok hr r h1
  refine ⟨_,u::us,h4,by unfold RepAL;exact ⟨u,us,rfl,h2,h5⟩,?_⟩
  have h3':(resSem a.tmps (.cell ad ty)).run P w=.ok u w:=h3
  simp [List.mapM_cons,h3',h6]
def tupOf:List Value→Value
 | [x]=>x
 | us=>.tuple ⟨us⟩
theorem results_eq (fn:Func) (tmps:Array Value):results fn tmps=(do
  let vs ←fn.results.mapM (resSem tmps)
  pure (if h:vs.size=1 then vs[0] else .tuple vs)):=by
 unfold results
 apply congrArg (fun x=>x >>= _)
 apply congrArg (fun g=>Array.mapM g fn.results)
 funext r
 cases r<;>rfl
theorem results_run {P:Program}{fn:Func}{tmps:Array Value}{w:World}{us:List Value} (h:(fn.results.toList.mapM (resSem tmps)).run P w=.ok us w):(results fn tmps).run P w=.ok (tupOf us) w:=by
 rw [results_eq,Array.mapM_eq_mapM_toList]
 simp only [Sem.run_bind,Sem.run_map,h,Result.andThen_ok,Sem.run_pure]
 congr 1
 match us with
 | []=>simp [tupOf]
 | [x]=>simp [tupOf]
 | x::y::r=>simp [tupOf]
theorem resOf_rep {G:Gh}:∀ {l:List A}{us:List Value},RepAL G l us→RepA G (resOf l) (tupOf us)
 | [],us,h=>by
  have h':=h
  unfold RepAL at h
  subst h
  exact mkTup_rep h'
 | [x],us,h=>by
  unfold RepAL at h
  obtain ⟨u',us',rfl,h1,h2⟩:=h
  unfold RepAL at h2
  subst h2
  exact h1
 | x::y::l,us,h=>by
  have hl:=h.get.1
  match us,h,hl with
  | u::v::us,h,_=>exact mkTup_rep h

def ToF (m:Mem) (c:A) (r:Rz) (ks:List Nat):Prop:=ToZ m c r ks∨(∃ x,r=.d x∧ks=[]∧wkD x c)∨∃ x y,r=.d x∧ks=[]∧c=.d y∧∀ (C:CellR) u,RepD C y u→RepD C x u
theorem toF_rep {G:Gh}{w:World}{m:Mem} (hok:MemOk G w m) {x:A}{z:Rz}{ks:List Nat}{u:Value} (h:ToF m x z ks) (hr:RepA G x u):RepZ G.C w z u (ks.filterMap G.E)∧∀ k∈ks,m.live k:=by
 rcases h with h|⟨y,rfl,rfl,h⟩|⟨x',y,rfl,rfl,rfl,h⟩
 ·exact toZ_rep hok x h hr
 ·refine ⟨?_,fun k hk=>by cases hk⟩
  unfold RepZ
  exact ⟨rfl,wkD_rep h hr⟩
 ·refine ⟨?_,fun k hk=>by cases hk⟩
  unfold RepZ
  unfold RepA at hr
  exact ⟨rfl,h _ _ hr⟩
def Fin (P:Program) (fn:Func) (bx:Option (List Rz)) (Q:Rz→Option (List Rz)→Prop) (e:Exit) (s:St):Prop:=(e=.normal∨e=.ret)∧resL P s fn.results.toList fun l=>
 ∃ r ks,ToF s.mem (resOf l) r ks∧match bx with
  | none=>ks.Nodup∧Q r none
  | some _=>∃ cs zs kb,lk none s.bx 0=some cs∧ToZL s.mem cs zs kb∧(0::kb++ks).Nodup∧Q r (some zs)

def frOf (args:List A):List (Nat × A):=args.zipIdx.map fun (x,i)=>(i,x)
theorem lk_frOf (args:List A):∀ (i t:Nat),lk .top ((args.zipIdx i).map fun (x,i)=>(i,x)) t=if i≤t then args.getD (t - i) .top else .top:=by
 induction args with
 | nil=>intro i t;simp [lk]
 | cons x xs ih=>
  intro i t
  simp only [List.zipIdx_cons,List.map_cons,lk]
  rw [ih]
  by_cases h:i=t
  ·subst h;simp
  ·rw [if_neg h]
   by_cases h2:i+1≤t
   ·rw [if_pos h2,if_pos (by omega)]
    rw [show t - i=(t - (i+1))+1 by omega]
    simp
   ·rw [if_neg h2,if_neg (by omega)]

theorem RepAL.getD {G:Gh}{args:List A}{vs:List Value} (h:RepAL G args vs) (n:Nat) (t:Nat):RepA G (args.getD t .top) (((⟨vs⟩:Array Value)++Array.replicate n undef).getD t undef):=by
 cases hq:args[t]? with
 | none=>
  rw [List.getD_eq_getElem?_getD,hq]
  unfold RepA
  trivial
 | some x=>
  obtain ⟨u,h1,h2⟩:=h.get.2 t x hq
  rw [List.getD_eq_getElem?_getD,hq]
  have hlt:t<vs.length:=(List.getElem?_eq_some_iff.1 h1).1
  rw [Array.getD_eq_getD_getElem?,Array.getElem?_append_left (by simpa using hlt)]
  simp only [List.getElem?_toArray,h1,Option.getD_some]
  exact h2

def St.init (args:List A) (bx:Option (List Rz)):St:=match bx with
 | none=>{ fr:=frOf args,bx:=[],al:=[],nx:=16 }
 | some zs=>let s:=Rz.addSL zs 16 { fr:=frOf args,bx:=[],al:=[],nx:=16 }
  { s with bx:=(0,some (Rz.toAL zs 16))::s.bx,nx:=32 }

@[simp] def isDs:List A→Bool
 | []=>true
 | .d _::l=>isDs l
 | _::_=>false
theorem isDs_lt:∀ {l:List A}{n:Nat→Prop},isDs l=true→A.ltL n l
 | [],n,_=>by unfold A.ltL;trivial
 | x::l,n,h=>by
  unfold isDs at h
  split at h
  ·rename_i hq;cases hq
  ·rename_i hq
   simp only [List.cons.injEq] at hq
   obtain ⟨rfl,rfl⟩:=hq
   unfold A.ltL
   exact ⟨by unfold A.lt;trivial,isDs_lt h⟩
  ·cases h
def ArgsOk:List A→Prop
 | []=>True
 | .d _::l=>ArgsOk l
 | .ptr 0 0::l=>ArgsOk l
 | .clo _ fs cs::l=>((isDs fs=true∧isDs cs=true)∨(fs=[]∧cs=[.ptr 0 0]))∧ArgsOk l
 | _::_=>False
theorem argsOk_lt:∀ {l:List A}{n:Nat→Prop},ArgsOk l→n 0→∀ t,(l.getD t .top).lt n
 | [],n,_,_,t=>by simp;unfold A.lt;trivial
 | x::l,n,h,h0,t=>by
  have hl:ArgsOk l:=by
   unfold ArgsOk at h
   split at h
   ·rename_i hq;cases hq
   ·rename_i hq;simp only [List.cons.injEq] at hq;rw [hq.2];exact h
   ·rename_i hq;simp only [List.cons.injEq] at hq;rw [hq.2];exact h
   ·rename_i hq;simp only [List.cons.injEq] at hq;rw [hq.2];exact h.2
   ·exact h.elim
  cases t with
  | zero=>
   simp only [List.getD_cons_zero]
   unfold ArgsOk at h
   split at h
   ·rename_i hq;cases hq
   ·rename_i hq;simp only [List.cons.injEq] at hq;rw [hq.1];unfold A.lt;trivial
   ·rename_i hq;simp only [List.cons.injEq] at hq;rw [hq.1];unfold A.lt;exact h0
   ·rename_i hq;simp only [List.cons.injEq] at hq;rw [hq.1];unfold A.lt
    rcases h.1 with h1|⟨h1,h2⟩
    ·exact ⟨isDs_lt h1.1,isDs_lt h1.2⟩
    ·rw [h1,h2]
     refine ⟨by unfold A.ltL;trivial,?_⟩
     unfold A.ltL
     refine ⟨by unfold A.lt;exact h0,by unfold A.ltL;trivial⟩
   ·exact h.elim
  | succ t=>
   simp only [List.getD_cons_succ]
   exact argsOk_lt hl h0 t

theorem empty_ok {C:CellR}{w:World} (G:Gh) (hG:G.C=C) (hC:Cok C w) (us:Nat→Prop):MemOk G w { bx:=fun _=>none,al:=fun _=>none,us:=us }:=by
 have hn:∀ k,¬Mem.live { bx:=fun _=>none,al:=fun _=>none,us:=us } k:=fun k hk=>by
  rcases hk with hk|hk<;>simp at hk
 refine ⟨by rw [hG];exact hC,fun k cs hk=>?_,fun k n e z hk=>?_,fun k k' b hk=>absurd hk (hn k),fun k hk=>absurd hk (hn k),fun k hk=>?_⟩
 ·simp at hk
 ·simp at hk
 ·simp at hk
theorem init_fr (args:List A) (bx:Option (List Rz)):(St.init args bx).f=fun t=>args.getD t .top:=by
 have h0:∀ t,lk .top (frOf args) t=args.getD t .top:=fun t=>by
  unfold frOf
  rw [lk_frOf]
  simp
 funext t
 cases bx with
 | none=>exact h0 t
 | some zs=>
  have:=(Rz.addSL_mem zs 16 { fr:=frOf args,bx:=[],al:=[],nx:=16 } { bx:=lk none [],al:=lk none [],us:=fun _=>True } rfl rfl).2.2.1
  unfold St.f St.init
  simp only
  rw [this]
  exact h0 t
theorem init_ok {C:CellR}{w:World}{args:List A}{bx:Option (List Rz)}{β:Nat}{F0:List Nat} (hC:Cok C w) (hbo:BoxO C w bx β F0) (hn:(XO bx β F0).Nodup) (hk:∀ zs,bx=some zs→Rz.nkL zs≤16) :
  ∃ G,MemOk G w (St.init args bx).mem∧(argG C bx β).Le (fun k=>k<16) G∧G.C=C∧∀ b,Mine G (St.init args bx).mem b→b∈XO bx β F0:=by
 cases bx with
 | none=>exact ⟨argG C none β,empty_ok _ rfl hC _,Gh.Le.refl _ _,rfl,fun b ⟨k,hk,_⟩=>by rcases hk with hk|hk<;>(simp [St.init,St.mem,lk] at hk)⟩
 | some zs=>
  obtain ⟨vs,ty,h1,h2,h3,h4⟩:=hbo
  have hnk:=hk zs rfl
  unfold XO at hn
  rw [List.nodup_cons] at hn
  have he:MemOk (argG C (some zs) β) w { bx:=lk none [],al:=lk none [],us:=fun k=>k<16 }:=empty_ok _ rfl hC _
  obtain ⟨G1,g1,g2,g3⟩:=Rz.addedL zs (κ:=16) he h2 hn.2 (fun b hb ⟨k,hk,_⟩=>by rcases hk with hk|hk<;>simp [lk] at hk) (fun k h5 h6 h7=>by omega)
  obtain ⟨s1,s2,s3,s4⟩:=Rz.addSL_mem zs 16 { fr:=frOf args,bx:=[],al:=[],nx:=16 } { bx:=lk none [],al:=lk none [],us:=fun k=>k<16 } rfl rfl
  have hE0:G1.E 0=some β:=by rw [g1.le.E 0 (by show (0:Nat)<16;omega)];simp [argG]
  have hb0:=g1.bxo 0 (by show (0:Nat)<16;omega)
  have hlive0:¬(Rz.addL zs 16 { bx:=lk none [],al:=lk none [],us:=fun k=>k<16 }).live 0:=fun hl=>by
   rcases hl with hl|hl
   ·rw [hb0.1] at hl;simp [lk] at hl
   ·rw [hb0.2] at hl;simp [lk] at hl
  have hmine:∀ b,Mine G1 (Rz.addL zs 16 { bx:=lk none [],al:=lk none [],us:=fun k=>k<16 }) b→b∈F0:=fun b hb=>by
   rcases g1.mine b hb with ⟨k,hk,_⟩|h
   ·rcases hk with hk|hk<;>simp [lk] at hk
   ·exact h
  have hadd:=g1.ok.addBox (κ:=0) (b:=β) (cs:=Rz.toAL zs 16) hE0 ⟨vs,ty,h1,g2,h3,by rw [g1.C];exact h4⟩ g3 hlive0 (fun hm=>hn.1 (hmine β hm)) ((g1.us 0).2 (.inl (by show (0:Nat)<16;omega)))
  have hmem:(St.init args (some zs)).mem={ bx:=upd (Rz.addL zs 16 { bx:=lk none [],al:=lk none [],us:=fun k=>k<16 }).bx 0 (some (Rz.toAL zs 16)),al:=(Rz.addL zs 16 { bx:=lk none [],al:=lk none [],us:=fun k=>k<16 }).al,us:=fun k=>k<32 }:=by
   unfold St.init St.mem
   simp only [lk_cons]
   rw [s1,s2]
  have hgrow:=hadd.grow (w':=w) (us':=fun k=>k<32) (Gh.Le.refl _ _) (fun _ _=>rfl) (fun _ _ _ h=>.inl h) (fun b o u h hb=>absurd (hadd.lt_size h) (by omega)) (fun k hk=>by
   rcases (s4 k).1 hk with h|h
   ·exact Nat.lt_trans h (by omega)
   ·omega)
  refine ⟨G1,by rw [hmem];exact hgrow,g1.le,g1.C,fun b ⟨k,hk,hE⟩=>?_⟩
  rw [hmem] at hk
  by_cases e:k=0
  ·subst e
   rw [hE0] at hE
   have:=Option.some.inj hE;subst this
   simp [XO]
  ·have:Mine G1 (Rz.addL zs 16 { bx:=lk none [],al:=lk none [],us:=fun k=>k<16 }) b:=⟨k,by
    rcases hk with hk|hk
    ·left;simpa [upd_ne _ _ e] using hk
    ·exact .inr hk,hE⟩
   exact List.mem_cons_of_mem _ (hmine b this)

theorem calls_bodyW {P:Program}{f:FuncId}{fn:Func}{c:Code}{args:List A}{bx:Option (List Rz)}{Q:World→Rz→Option (List Rz)→Prop} (hf:P.funcs[f]?=some fn) (hb:fn.body=some c) (he:∀ vs w,(callFunc f vs).run P w=.ok (.enter f vs) w) {n:Nat} (hn:fn.ntmps=n) (hl:args.length≤n) (ha:ArgsOk args)
  (hk:∀ zs,bx=some zs→Rz.nkL zs≤16) (h:∀ en:En,en.sz=n→Cok en.C en.w→(bx=none→∀ b,¬en.X b)→(∀ k,en.ks k→k=0)→(bx.isSome=true→en.ks 0)→AWs P en c (Fin P fn bx (Q en.w)) (St.init args bx)):ACW P f args bx Q:=by
 refine ⟨he,fun w C β F0 vs hC hr hbo hnd=>?_⟩
 have hlen:=hr.get.1
 obtain ⟨G0,m1,m2,m3,m4⟩:=init_ok (args:=args) hC hbo hnd hk
 have hnx:16≤(St.init args bx).nx:=by cases bx<;>simp [St.init]
 refine calls_of_wp hf hb (wp_mono (h { w:=w,C:=C,X:=(·∈XO bx β F0),E:=(argG C bx β).E,cp:=(argG C bx β).cp,ks:=fun k=>k=0∧bx.isSome=true,sz:=n } rfl hC (fun hb b hx=>by subst hb;simp [XO] at hx) (fun k h=>h.1) (fun h=>⟨rfl,h⟩) _ w ⟨G0,?_⟩) fun e a' w' ⟨s',⟨G,hG⟩,hfin⟩=>?_)
 ·refine ⟨m1,fun t=>?_,fun t=>?_,?_,rfl,BelowX.refl _ _ _,fun b o u h=>by rw [m3];exact h,fun b o u h _ _=>by rw [m3] at h;exact h,fun b hb=>.inr (m4 b hb),fun k hk=>m2.E k (by show k<16;omega),fun k hk=>m2.cp k (by show k<16;omega),fun k hk=>(by show k<(St.init args bx).nx;omega),trivial,fun b hb=>hb.elim⟩
  ·rw [init_fr]
   exact RepA.mono m2 _ _ (argsOk_lt ha (by show (0:Nat)<16;omega) t) (hr.getD _ t)
  ·rw [init_fr]
   exact argsOk_lt ha (show (0:Nat)<(St.init args bx).nx by omega) t
  ·simp only [Array.size_append,List.size_toArray,Array.size_replicate,hn]
   omega
 ·obtain ⟨hex,hres⟩:=hfin
  obtain ⟨l,us,⟨r,ks,hz,hrest⟩,hrl,hrun⟩:=resL_run hG.ok hG.rep _ hres
  have hrr:=results_run hrun
  obtain ⟨hrz,hlive⟩:=toF_rep hG.ok hz (resOf_rep hrl)
  have hcn:∀ b o u,G.C b o u→C b o u∨w.heap.size≤b∨b∈XO bx β F0:=fun b o u hc=>by
   by_cases hlt:b<w.heap.size
   ·by_cases hx:b∈XO bx β F0
    ·exact .inr (.inr hx)
    ·exact .inl (hG.c1 b o u hc hlt hx)
   ·exact .inr (.inl (by omega))
  have hloc:∀ ks:List Nat,(∀ k∈ks,s'.mem.live k)→∀ b∈ks.filterMap G.E,w.heap.size≤b∨b∈XO bx β F0:=fun ks hl b hb=>by
   obtain ⟨k,hk,hE⟩:=List.mem_filterMap.1 hb
   exact hG.lv b ⟨k,hl k hk,hE⟩
  have key:a'.defers=[]∧∃ v,(results fn a'.tmps).run P w'=.ok v w'∧∃ v' r bx' C' F F',Ending.returned v=.returned v'∧Q w r bx'∧bx'.isSome=bx.isSome∧(∀ b o u,C b o u→C' b o u)∧Cok C' w'∧BelowX (·∈XO bx β F0) w.heap.size w w'∧
   (∀ b o u,C' b o u→C b o u∨w.heap.size≤b∨b∈XO bx β F0)∧RepZ C' w' r v' F∧BoxO C' w' bx' β F'∧(XO bx' β F'++F).Nodup∧∀ b,b∈F'++F→w.heap.size≤b∨b∈XO bx β F0:=by
   cases bx with
   | none=>
    obtain ⟨hks,hQ⟩:=hrest
    exact ⟨hG.df,_,hrr,_,r,none,G.C,_,[],rfl,hQ,rfl,hG.c0,hG.ok.cok,hG.fw,hcn,hrz,rfl,by simpa [XO] using keys_nodup hG.ok hks hlive,fun b hb=>hloc ks hlive b (by simpa using hb)⟩
   | some zs0=>
    obtain ⟨cs,zs,kb,hb0,hzb,hks,hQ⟩:=hrest
    obtain ⟨b0,q1,⟨vs',ty,q2,q3,q4,q5⟩,_⟩:=hG.ok.box 0 cs hb0
    obtain ⟨hrb,hliveb⟩:=toZL_rep hG.ok _ hzb q3
    have hE0:G.E 0=some β:=by rw [hG.e0 0 ⟨rfl,rfl⟩];simp [argG]
    rw [hE0] at q1
    have:=Option.some.inj q1;subst this
    have hl0:s'.mem.live 0:=.inl (by rw [show s'.mem.bx 0=some cs from hb0];rfl)
    have hall:∀ k∈0::kb++ks,s'.mem.live k:=fun k hk=>by
     rcases List.mem_append.1 hk with hk|hk
     ·rcases List.mem_cons.1 hk with rfl|hk
      ·exact hl0
      ·exact hliveb k hk
     ·exact hlive k hk
    have hnd':=keys_nodup hG.ok hks hall
    rw [List.filterMap_append,List.filterMap_cons,hE0] at hnd'
    refine ⟨hG.df,_,hrr,_,r,some zs,G.C,_,_,rfl,hQ,rfl,hG.c0,hG.ok.cok,hG.fw,hcn,hrz,⟨vs',ty,q2,hrb,q4,q5⟩,hnd',fun b hb=>?_⟩
    rcases List.mem_append.1 hb with hb|hb
    ·exact hloc kb hliveb b hb
    ·exact hloc ks hlive b hb
  rcases hex with rfl|rfl<;>exact key

theorem calls_body {P:Program}{f:FuncId}{fn:Func}{c:Code}{args:List A}{bx:Option (List Rz)}{Q:Rz→Option (List Rz)→Prop} (hf:P.funcs[f]?=some fn) (hb:fn.body=some c) (he:∀ vs w,(callFunc f vs).run P w=.ok (.enter f vs) w) {n:Nat} (hn:fn.ntmps=n) (hl:args.length≤n) (ha:ArgsOk args)
  (hk:∀ zs,bx=some zs→Rz.nkL zs≤16) (h:∀ en:En,en.sz=n→(∀ k,en.ks k→k=0)→(bx.isSome=true→en.ks 0)→AWs P en c (Fin P fn bx Q) (St.init args bx)):AC P f args bx Q:=
 calls_bodyW (Q:=fun _=>Q) hf hb he hn hl ha hk fun en h1 _ _ h2 h3=>h en h1 h2 h3

end Go.Proofs.YtaammoodcgfhpaaDoor.Eng
namespace Go.Proofs.YtaammoodcgfhpaaDoor.Eng
open Go Go.RowKit

def dropAll (al:Nat→Option (Nat × TypeId × Nat)) (ks:List Nat):Nat→Option (Nat × TypeId × Nat):=fun j=>if j∈ks then none else al j
def Mem.back (m:Mem) (κ k:Nat) (ks:List Nat) (zs:List Rz) (r:Rz):Mem:=
 let m2:=Rz.addL zs κ { bx:=upd m.bx k none,al:=dropAll m.al ks,us:=m.us }
 (r.add (κ+Rz.nkL zs) { m2 with bx:=upd m2.bx k (some (Rz.toAL zs κ)) }).bump κ

theorem does_call1 {P:Program}{o:Oper}{ρ:Operand→A}{m:Mem}{κ k:Nat}{f:FuncId}{xs:Array Operand}{ats:Array TypeId}{ys cs:List A}{zs:List Rz}{ks:List Nat}{Q:Rz→Option (List Rz)→Prop} (h:o.op=.call { callee:=.value (.func f),args:=xs,argTypes:=ats })
  (ha:argsOf (some k) (xs.toList.map ρ)=some ys) (hb:m.bx k=some cs) (hz:ToZL m cs zs ks) (hza:∀ j∈ks,(m.al j).isSome=true) (hn:(k::ks).Nodup) (hc:AC P f ys (some zs) Q) (hf:m.fresh κ) (hq:∀ r zs',Q r (some zs')→Rz.nkL zs'+r.nk≤16) :
  DoesR P o ρ m fun v m'=>∃ r zs',Q r (some zs')∧v=r.toA (κ+Rz.nkL zs')∧m'=m.back κ k ks zs' r:=fun G w a hok hr hlt Kc Q' hK=>by
 obtain ⟨β,hE,⟨vs0,ty0,h1,h2,h3,h4⟩,h5⟩:=hok.box k cs hb
 obtain ⟨hzl,hzlive⟩:=toZL_rep hok _ hz h2
 have hklive:m.live k:=.inl (by rw [hb];rfl)
 have hkk:∀ j∈k::ks,m.live j:=fun j hj=>(List.mem_cons.1 hj).elim (fun e=>e▸hklive) (hzlive j)
 have hnd0:=keys_nodup hok hn hkk
 rw [List.filterMap_cons,hE] at hnd0
 refine wp_call h hc.1 ((hc.2 w G.C β (ks.filterMap G.E) _ hok.cok (argsOf_rep ha (fun j hj=>by have:=Option.some.inj hj;subst this;exact ⟨rfl,hE⟩) (RepAL_map hr xs.toList)) ⟨vs0,ty0,h1,hzl,h3,h4⟩ hnd0).mono fun e w' hpost=>?_)
 obtain ⟨v,r,bx',C',F,F',he,hQ,hbs,hC,hC',hfw,hcn,hrz,hbo,hnd,hloc⟩:=hpost
 cases bx' with
 | none=>simp at hbs
 | some zs'=>
  obtain ⟨vs1,ty1,g1,g2,g3,g4⟩:=hbo
  have hnk:=hq r zs' hQ
  let m1:Mem:={ bx:=upd m.bx k none,al:=dropAll m.al ks,us:=m.us }
  have halk:m.al k=none:=hok.sep k (by rw [hb];rfl)
  have hlv1:∀ j,m1.live j→m.live j∧j≠k∧j∉ks:=fun j hj=>by
   rcases hj with hj|hj
   ·by_cases e:j=k
    ·subst e;simp [m1] at hj
    ·have hj':(m.bx j).isSome=true:=by simpa [m1,upd_ne _ _ e] using hj
     refine ⟨.inl hj',e,fun hjk=>?_⟩
     have hs:=hok.sep j hj'
     have:=hza j hjk
     rw [hs] at this
     cases this
   ·by_cases hjk:j∈ks
    ·simp [m1,dropAll,hjk] at hj
    ·have hj':(m.al j).isSome=true:=by simpa [m1,dropAll,hjk] using hj
     refine ⟨.inr hj',fun e=>?_,hjk⟩
     subst e;rw [halk] at hj';cases hj'
  have hX:∀ j b,m1.live j→G.E j=some b→¬b∈XO (some zs) β (ks.filterMap G.E):=fun j b hj hEj hx=>by
   obtain ⟨l1,l2,l3⟩:=hlv1 j hj
   rcases List.mem_cons.1 hx with rfl|hx
   ·exact l2 (hok.inj j k _ l1 hklive hEj hE)
   ·obtain ⟨j',hj',hE'⟩:=List.mem_filterMap.1 hx
    exact l3 (hok.inj j j' _ l1 (hzlive j' hj') hEj hE'▸hj')
  have hok1:MemOk { G with C:=C' } w' m1:=hok.after (X:=(·∈XO (some zs) β (ks.filterMap G.E))) hC hC' hfw hcn (fun j c hj=>by
    by_cases e:j=k
    ·subst e;simp [m1] at hj
    ·simpa [m1,upd_ne _ _ e] using hj) (fun j x hj=>by
    by_cases e:j∈ks
    ·simp [m1,dropAll,e] at hj
    ·simpa [m1,dropAll,e] using hj) rfl hX
  have hmine1:∀ b,Mine { G with C:=C' } m1 b→b<w.heap.size∧¬b∈XO (some zs) β (ks.filterMap G.E):=fun b ⟨j,hj,hEj⟩=>⟨Mine.lt hok ⟨j,(hlv1 j hj).1,hEj⟩,hX j b hj hEj⟩
  have hnew:∀ b,b∈F'++F→¬Mine { G with C:=C' } m1 b:=fun b hbF hm=>by
   have q:=hmine1 b hm
   rcases hloc b hbF with h|h
   ·omega
   ·exact q.2 h
  rw [show XO (some zs') β F'++F=β::(F'++F) from rfl,List.nodup_cons] at hnd
  obtain ⟨hβ,hndF⟩:=hnd
  have hndF':=hndF
  rw [List.nodup_append] at hndF
  obtain ⟨G1,a1,a2,a3⟩:=Rz.addedL zs' (κ:=κ) hok1 g2 hndF.1 (fun b hb'=>hnew b (List.mem_append_left _ hb')) (fun j hj hj'=>hf j hj (by omega))
  have hkus:m.us k:=hok.lt k hklive
  have hEk1:G1.E k=some β:=by rw [a1.le.E k hkus];exact hE
  have hb1:=a1.bxo k hkus
  have hnl:¬(Rz.addL zs' κ m1).live k:=fun hl=>by
   rcases hl with hl|hl
   ·rw [hb1.1] at hl;simp [m1] at hl
   ·rw [hb1.2] at hl;simp [m1,dropAll,halk] at hl
  have hβm:¬Mine G1 (Rz.addL zs' κ m1) β:=fun hm=>by
   rcases a1.mine β hm with h|h
   ·exact (hmine1 β h).2 (by simp [XO])
   ·exact hβ (List.mem_append_left _ h)
  have hok2:=a1.ok.addBox (κ:=k) (b:=β) (cs:=Rz.toAL zs' κ) hEk1 ⟨vs1,ty1,g1,a2,g3,by rw [a1.C];exact g4⟩ a3 hnl hβm ((a1.us k).2 (.inl hkus))
  let m2:Mem:={ Rz.addL zs' κ m1 with bx:=upd (Rz.addL zs' κ m1).bx k (some (Rz.toAL zs' κ)) }
  have hmine2:∀ b,Mine G1 m2 b→Mine { G with C:=C' } m1 b∨b∈F'∨b=β:=fun b ⟨j,hj,hEj⟩=>by
   by_cases e:j=k
   ·subst e
    rw [hEk1] at hEj
    exact .inr (.inr (Option.some.inj hEj).symm)
   ·have:Mine G1 (Rz.addL zs' κ m1) b:=⟨j,by
     rcases hj with hj|hj
     ·left;simpa [m2,upd_ne _ _ e] using hj
     ·exact .inr hj,hEj⟩
    exact (a1.mine b this).imp id .inl
  obtain ⟨G2,b1,b2,b3⟩:=Rz.added r (κ:=κ+Rz.nkL zs') (m:=m2) hok2 (by rw [a1.C];exact hrz) hndF.2.1 (fun b hbF hm=>by
   rcases hmine2 b hm with h|h|h
   ·exact hnew b (List.mem_append_right _ hbF) h
   ·exact hndF.2.2 b h b hbF rfl
   ·subst h;exact hβ (List.mem_append_right _ hbF)) (fun j hj hj' hu=>by
   rcases (a1.us j).1 hu with h|h
   ·exact hf j (by omega) (by omega) h
   ·omega)
  refine ⟨v,he,hK _ (m.back κ k ks zs' r) v w' G2 ⟨r,zs',hQ,rfl,rfl⟩ ?_ (b1.ok.bump κ) b2 (A.lt.mono (fun _ hk=>.inl hk) _ b3)⟩
  have hXm:∀ b,b∈XO (some zs) β (ks.filterMap G.E)→Mine G m b:=fun b hb'=>by
   rcases List.mem_cons.1 hb' with rfl|hb'
   ·exact ⟨k,hklive,hE⟩
   ·obtain ⟨j,hj,hEj⟩:=List.mem_filterMap.1 hb'
    exact ⟨j,hzlive j hj,hEj⟩
  have hle2:∀ j,m.us j→m2.us j:=fun j hj=>(a1.us j).2 (.inl hj)
  have hls:∀ b,b∈F'++F→w.heap.size≤b∨Mine G m b:=fun b hb'=>(hloc b hb').imp id (hXm b)
  refine ⟨⟨fun j hj=>(b1.le.E j (hle2 j hj)).trans (a1.le.E j hj),fun j hj=>(b1.le.cp j (hle2 j hj)).trans (a1.le.cp j hj),fun b o u hc'=>b1.le.C b o u (a1.le.C b o u (hC b o u hc'))⟩,⟨hfw.os,hfw.tape,hfw.output,hfw.size,fun j hj hx=>hfw.block j hj fun hx'=>hx (hXm j hx')⟩,fun b o u hc'=>?_,fun b hb'=>?_,fun j hj=>.inl ((b1.us j).2 (.inl (hle2 j hj)))⟩
  ·rw [b1.C,a1.C] at hc'
   rcases hcn b o u hc' with h|h|h
   ·exact .inl h
   ·exact .inr (.inl h)
   ·exact .inr (.inr (hXm b h))
  ·rcases b1.mine b hb' with h|h
   ·rcases hmine2 b h with ⟨j,hj,hEj⟩|h|h
    ·exact .inr ⟨j,(hlv1 j hj).1,hEj⟩
    ·exact hls b (List.mem_append_left _ h)
    ·subst h;exact .inr ⟨k,hklive,hE⟩
   ·exact hls b (List.mem_append_right _ h)

theorem does_call1C {P:Program}{o:Oper}{ρ:Operand→A}{m:Mem}{κ k:Nat}{f:FuncId}{c:Operand}{fs cl:List A}{xs:Array Operand}{ats:Array TypeId}{ys cs:List A}{zs:List Rz}{ks:List Nat}{Q:Rz→Option (List Rz)→Prop} (h:o.op=.call { callee:=.value c,args:=xs,argTypes:=ats }) (hcl:clA (ρ c)=some (f,fs,cl))
  (ha:argsOf (some k) (fs++xs.toList.map ρ++cl)=some ys) (hb:m.bx k=some cs) (hz:ToZL m cs zs ks) (hza:∀ j∈ks,(m.al j).isSome=true) (hn:(k::ks).Nodup) (hc:AC P f ys (some zs) Q) (hf:m.fresh κ) (hq:∀ r zs',Q r (some zs')→Rz.nkL zs'+r.nk≤16) :
  DoesR P o ρ m fun v m'=>∃ r zs',Q r (some zs')∧v=r.toA (κ+Rz.nkL zs')∧m'=m.back κ k ks zs' r:=fun G w a hok hr hlt Kc Q' hK=>by
 obtain ⟨β,hE,⟨vs0,ty0,h1,h2,h3,h4⟩,h5⟩:=hok.box k cs hb
 obtain ⟨hzl,hzlive⟩:=toZL_rep hok _ hz h2
 have hklive:m.live k:=.inl (by rw [hb];rfl)
 have hkk:∀ j∈k::ks,m.live j:=fun j hj=>(List.mem_cons.1 hj).elim (fun e=>e▸hklive) (hzlive j)
 have hnd0:=keys_nodup hok hn hkk
 rw [List.filterMap_cons,hE] at hnd0
 obtain ⟨us0,vs00,hv0,hus0,hvs0⟩:=clA_rep hcl (hr c)
 refine wp_callC h hv0 hc.1 ((hc.2 w G.C β (ks.filterMap G.E) _ hok.cok (argsOf_rep ha (fun j hj=>by have:=Option.some.inj hj;subst this;exact ⟨rfl,hE⟩) ((hus0.append (RepAL_map hr xs.toList)).append hvs0)) ⟨vs0,ty0,h1,hzl,h3,h4⟩ hnd0).mono fun e w' hpost=>?_)
 obtain ⟨v,r,bx',C',F,F',he,hQ,hbs,hC,hC',hfw,hcn,hrz,hbo,hnd,hloc⟩:=hpost
 cases bx' with
 | none=>simp at hbs
 | some zs'=>
  obtain ⟨vs1,ty1,g1,g2,g3,g4⟩:=hbo
  have hnk:=hq r zs' hQ
  let m1:Mem:={ bx:=upd m.bx k none,al:=dropAll m.al ks,us:=m.us }
  have halk:m.al k=none:=hok.sep k (by rw [hb];rfl)
  have hlv1:∀ j,m1.live j→m.live j∧j≠k∧j∉ks:=fun j hj=>by
   rcases hj with hj|hj
   ·by_cases e:j=k
    ·subst e;simp [m1] at hj
    ·have hj':(m.bx j).isSome=true:=by simpa [m1,upd_ne _ _ e] using hj
     refine ⟨.inl hj',e,fun hjk=>?_⟩
     have hs:=hok.sep j hj'
     have:=hza j hjk
     rw [hs] at this
     cases this
   ·by_cases hjk:j∈ks
    ·simp [m1,dropAll,hjk] at hj
    ·have hj':(m.al j).isSome=true:=by simpa [m1,dropAll,hjk] using hj
     refine ⟨.inr hj',fun e=>?_,hjk⟩
     subst e;rw [halk] at hj';cases hj'
  have hX:∀ j b,m1.live j→G.E j=some b→¬b∈XO (some zs) β (ks.filterMap G.E):=fun j b hj hEj hx=>by
   obtain ⟨l1,l2,l3⟩:=hlv1 j hj
   rcases List.mem_cons.1 hx with rfl|hx
   ·exact l2 (hok.inj j k _ l1 hklive hEj hE)
   ·obtain ⟨j',hj',hE'⟩:=List.mem_filterMap.1 hx
    exact l3 (hok.inj j j' _ l1 (hzlive j' hj') hEj hE'▸hj')
  have hok1:MemOk { G with C:=C' } w' m1:=hok.after (X:=(·∈XO (some zs) β (ks.filterMap G.E))) hC hC' hfw hcn (fun j c hj=>by
    by_cases e:j=k
    ·subst e;simp [m1] at hj
    ·simpa [m1,upd_ne _ _ e] using hj) (fun j x hj=>by
    by_cases e:j∈ks
    ·simp [m1,dropAll,e] at hj
    ·simpa [m1,dropAll,e] using hj) rfl hX
  have hmine1:∀ b,Mine { G with C:=C' } m1 b→b<w.heap.size∧¬b∈XO (some zs) β (ks.filterMap G.E):=fun b ⟨j,hj,hEj⟩=>⟨Mine.lt hok ⟨j,(hlv1 j hj).1,hEj⟩,hX j b hj hEj⟩
  have hnew:∀ b,b∈F'++F→¬Mine { G with C:=C' } m1 b:=fun b hbF hm=>by
   have q:=hmine1 b hm
   rcases hloc b hbF with h|h
   ·omega
   ·exact q.2 h
  rw [show XO (some zs') β F'++F=β::(F'++F) from rfl,List.nodup_cons] at hnd
  obtain ⟨hβ,hndF⟩:=hnd
  have hndF':=hndF
  rw [List.nodup_append] at hndF
  obtain ⟨G1,a1,a2,a3⟩:=Rz.addedL zs' (κ:=κ) hok1 g2 hndF.1 (fun b hb'=>hnew b (List.mem_append_left _ hb')) (fun j hj hj'=>hf j hj (by omega))
  have hkus:m.us k:=hok.lt k hklive
  have hEk1:G1.E k=some β:=by rw [a1.le.E k hkus];exact hE
  have hb1:=a1.bxo k hkus
  have hnl:¬(Rz.addL zs' κ m1).live k:=fun hl=>by
   rcases hl with hl|hl
   ·rw [hb1.1] at hl;simp [m1] at hl
   ·rw [hb1.2] at hl;simp [m1,dropAll,halk] at hl
  have hβm:¬Mine G1 (Rz.addL zs' κ m1) β:=fun hm=>by
   rcases a1.mine β hm with h|h
   ·exact (hmine1 β h).2 (by simp [XO])
   ·exact hβ (List.mem_append_left _ h)
  have hok2:=a1.ok.addBox (κ:=k) (b:=β) (cs:=Rz.toAL zs' κ) hEk1 ⟨vs1,ty1,g1,a2,g3,by rw [a1.C];exact g4⟩ a3 hnl hβm ((a1.us k).2 (.inl hkus))
  let m2:Mem:={ Rz.addL zs' κ m1 with bx:=upd (Rz.addL zs' κ m1).bx k (some (Rz.toAL zs' κ)) }
  have hmine2:∀ b,Mine G1 m2 b→Mine { G with C:=C' } m1 b∨b∈F'∨b=β:=fun b ⟨j,hj,hEj⟩=>by
   by_cases e:j=k
   ·subst e
    rw [hEk1] at hEj
    exact .inr (.inr (Option.some.inj hEj).symm)
   ·have:Mine G1 (Rz.addL zs' κ m1) b:=⟨j,by
     rcases hj with hj|hj
     ·left;simpa [m2,upd_ne _ _ e] using hj
     ·exact .inr hj,hEj⟩
    exact (a1.mine b this).imp id .inl
  obtain ⟨G2,b1,b2,b3⟩:=Rz.added r (κ:=κ+Rz.nkL zs') (m:=m2) hok2 (by rw [a1.C];exact hrz) hndF.2.1 (fun b hbF hm=>by
   rcases hmine2 b hm with h|h|h
   ·exact hnew b (List.mem_append_right _ hbF) h
   ·exact hndF.2.2 b h b hbF rfl
   ·subst h;exact hβ (List.mem_append_right _ hbF)) (fun j hj hj' hu=>by
   rcases (a1.us j).1 hu with h|h
   ·exact hf j (by omega) (by omega) h
   ·omega)
  refine ⟨v,he,hK _ (m.back κ k ks zs' r) v w' G2 ⟨r,zs',hQ,rfl,rfl⟩ ?_ (b1.ok.bump κ) b2 (A.lt.mono (fun _ hk=>.inl hk) _ b3)⟩
  have hXm:∀ b,b∈XO (some zs) β (ks.filterMap G.E)→Mine G m b:=fun b hb'=>by
   rcases List.mem_cons.1 hb' with rfl|hb'
   ·exact ⟨k,hklive,hE⟩
   ·obtain ⟨j,hj,hEj⟩:=List.mem_filterMap.1 hb'
    exact ⟨j,hzlive j hj,hEj⟩
  have hle2:∀ j,m.us j→m2.us j:=fun j hj=>(a1.us j).2 (.inl hj)
  have hls:∀ b,b∈F'++F→w.heap.size≤b∨Mine G m b:=fun b hb'=>(hloc b hb').imp id (hXm b)
  refine ⟨⟨fun j hj=>(b1.le.E j (hle2 j hj)).trans (a1.le.E j hj),fun j hj=>(b1.le.cp j (hle2 j hj)).trans (a1.le.cp j hj),fun b o u hc'=>b1.le.C b o u (a1.le.C b o u (hC b o u hc'))⟩,⟨hfw.os,hfw.tape,hfw.output,hfw.size,fun j hj hx=>hfw.block j hj fun hx'=>hx (hXm j hx')⟩,fun b o u hc'=>?_,fun b hb'=>?_,fun j hj=>.inl ((b1.us j).2 (.inl (hle2 j hj)))⟩
  ·rw [b1.C,a1.C] at hc'
   rcases hcn b o u hc' with h|h|h
   ·exact .inl h
   ·exact .inr (.inl h)
   ·exact .inr (.inr (hXm b h))
  ·rcases b1.mine b hb' with h|h
   ·rcases hmine2 b h with ⟨j,hj,hEj⟩|h|h
    ·exact .inr ⟨j,(hlv1 j hj).1,hEj⟩
    ·exact hls b (List.mem_append_left _ h)
    ·subst h;exact .inr ⟨k,hklive,hE⟩
   ·exact hls b (List.mem_append_right _ h)

end Go.Proofs.YtaammoodcgfhpaaDoor.Eng
namespace Go.Proofs.YtaammoodcgfhpaaDoor.Eng
open Go Go.RowKit

def rng (κ k:Nat):Prop:=κ≤k∧k<κ+16
theorem addL_d (m:Mem):∀ (ds:List D) (κ:Nat),Rz.addL (ds.map .d) κ m=m
 | [],_=>rfl
 | d::ds,κ=>by simp only [List.map_cons];unfold Rz.addL;exact addL_d m ds _
theorem toAL_d:∀ (ds:List D) (κ:Nat),Rz.toAL (ds.map .d) κ=ds.map .d
 | [],_=>rfl
 | d::ds,κ=>by simp only [List.map_cons];unfold Rz.toAL Rz.toA;rw [toAL_d ds]
theorem nkL_d:∀ ds:List D,Rz.nkL (ds.map .d)=0
 | []=>rfl
 | d::ds=>by simp only [List.map_cons];unfold Rz.nkL Rz.nk;rw [nkL_d ds]
theorem toZL_d (m:Mem):∀ ds:List D,ToZL m (ds.map .d) (ds.map .d) []
 | []=>by simp only [List.map_nil];unfold ToZL;exact ⟨rfl,rfl⟩
 | d::ds=>by
  simp only [List.map_cons]
  unfold ToZL
  exact ⟨_,_,[],[],rfl,rfl,by unfold ToZ;exact ⟨rfl,rfl⟩,toZL_d m ds⟩
theorem back_ds {m:Mem}{k:Nat}{ds:List D}{x:D} (κ:Nat) (hb:m.bx k=some (ds.map .d)):m.back κ k [] (ds.map .d) (.d x)=m.bump κ:=by
 unfold Mem.back
 simp only [addL_d,toAL_d]
 have e1:dropAll m.al []=m.al:=by funext j;simp [dropAll]
 have e2:upd (upd m.bx k none) k (some (ds.map .d))=m.bx:=by
  funext j
  by_cases e:j=k
  ·subst e;rw [upd_same,hb]
  ·rw [upd_ne _ _ e,upd_ne _ _ e]
 rw [e1,e2]
 rfl
theorem back_dw {m:Mem}{k:Nat}{ds':List D}{x:D} (κ:Nat):m.back κ k [] (ds'.map .d) (.d x)=(m.put k (ds'.map .d)).bump κ:=by
 unfold Mem.back
 simp only [addL_d,toAL_d]
 have e1:dropAll m.al []=m.al:=by funext j;simp [dropAll]
 have e2:upd (upd m.bx k none) k (some (ds'.map A.d))=upd m.bx k (some (ds'.map A.d)):=by
  funext j
  by_cases e:j=k
  ·subst e;rw [upd_same,upd_same]
  ·rw [upd_ne _ _ e,upd_ne _ _ e,upd_ne _ _ e]
 rw [e1,e2]
 rfl
theorem back_dz {m:Mem}{k:Nat}{ds':List D}{r:Rz} (κ:Nat):m.back κ k [] (ds'.map .d) r=(r.add κ (m.put k (ds'.map .d))).bump κ:=by
 unfold Mem.back
 simp only [addL_d,toAL_d,nkL_d,Nat.add_zero]
 have e1:dropAll m.al []=m.al:=by funext j;simp [dropAll]
 have e2:upd (upd m.bx k none) k (some (ds'.map A.d))=upd m.bx k (some (ds'.map A.d)):=by
  funext j
  by_cases e:j=k
  ·subst e;rw [upd_same,upd_same]
  ·rw [upd_ne _ _ e,upd_ne _ _ e,upd_ne _ _ e]
 rw [e1,e2]
 rfl
theorem y_iaddrO {P:Program}{o:Oper}{ρ:Operand→A}{bx:Nat→Option (List A)}{t e e':TypeId}{x i:Operand}{k n z:Nat}{g:Bool}{kd:IntKind}{es:List (List D)} (h:o.op=.indexAddr t x i) (ht:tyElem P t=some e) (hk:tyK P e=some (g,z)) (hx:ρ x=.own k e' z es) (hi:intA (ρ i)=some (kd,(n:Int))) (hn:n<es.length):Yields P o ρ bx (.ptr k (n*z)):=
 ⟨fun G w m a _ _ hr=>by
  have h1:=hr x
  rw [hx] at h1
  unfold RepA at h1
  have h5:=intA_rep hi (hr i)
  obtain ⟨r1,r2⟩:=tyK_run hk w
  rcases h1 with ⟨_,h1,_⟩|⟨b,hE,h2,h3,h4,hes⟩
  ·subst h1;simp at hn
  ·refine ⟨.pointer (some ⟨b,0+n*z,none⟩),?_,by unfold RepA;exact ⟨b,hE,by rw [Nat.zero_add]⟩⟩
   have h0:(0:Int)≤(n:Int):=by omega
   have hlt':(n:Int)<(es.length:Int):=by omega
   unfold execOp
   rw [h]
   simp only [Instr.indexAt,h2,h5,asIntOf,Sem.run_bind,Sem.run_pure,Result.andThen_ok,run_underlying (tyElem_run ht),h0,hlt',and_self,if_true,r1,addr_add,Int.toNat_natCast],fun p hp _=>by
  have:=hp x
  rw [hx] at this
  unfold A.lt at this ⊢
  exact this⟩
theorem does_buildSliceA {P:Program}{o:Oper}{ρ:Operand→A}{m:Mem}{κ:Nat}{t e:TypeId}{z:Nat}{x:Operand}{cs:List A} (h:o.op=.buildSlice t 1 #[(0,x)]) (ht:tyElem P t=some e) (he:tyRow P e=some z) (hx:cells1 (ρ x)=some cs) (hz:cs.length=z) (hl:z≤16777216) (hf:m.fresh κ) :
  Does P o ρ m (.arr κ z 1) (m.box κ cs):=fun G w a hok hr hlt Kc Q hK=>by
 obtain ⟨us,h1,h2,h3⟩:=cells1_rep hx (hr x)
 obtain ⟨G',e1,e2,e3⟩:=newBox (t:=e) hok hf h2 h3 (cells1_lt hx (hlt x))
 obtain ⟨i,zv,hi,hzv,hsz,hzc,hpos,hby⟩:=tyRow_spec he
 have hul:us.length=z:=by rw [←hz];exact (RepAL.get h2).1.symm
 have hE:G'.E κ=some w.heap.size:=by
  unfold RepA at e3
  obtain ⟨b,q1,q2⟩:=e3
  simp only [Value.pointer.injEq,Option.some.injEq,Addr.mk.injEq,and_true] at q2
  rw [q1,q2]
 refine wp_of_value (u:=.slice (some ⟨w.heap.size,0,none⟩) 1 1) ?_ (hK _ _ G' e1 e2 (by unfold RepA;exact ⟨_,1,hE,rfl,Nat.le_refl _,by decide⟩) (by unfold A.lt;exact .inr ⟨Nat.le_refl _,by omega⟩))
 have hall:∀ v∈[a.eval x],v.cells.size=z:=fun v hv=>by
  rw [List.mem_singleton] at hv
  subst hv
  rw [h1]
  simpa using hul
 have hfill:∀ (cells:Array Value),cells.size=1*z→Instr.fill (fun i=>some (i*z,z)) cells [(0,a.eval x)]=some us.toArray:=fun cells hc=>by
  have:=fill_all z [a.eval x] 0 cells hall (by simp [hc])
  simp only [List.zipIdx_cons,List.zipIdx_nil,List.map_cons,List.map_nil] at this
  rw [this]
  simp [h1,hc,hul]
 unfold execOp
 rw [h]
 simp only [Instr.buildSlice,Sem.run_bind,run_underlying (tyElem_run ht),Result.andThen_ok,sizeOf,typeInfo,run_program,hi,Sem.run_pure,hsz]
 have h24:¬1*z>2 ^ 24:=by omega
 simp only [h24,if_false,Sem.run_pure,Result.andThen_ok,Sem.run_ite]
 have h0:¬1*z=0:=by omega
 simp only [h0,if_false,zeroValue,typeInfo,Sem.run_bind,run_program,Result.andThen_ok,hi,Sem.run_pure,hzv]
 have hps:(Array.map (fun (x:Nat × Operand)=>(x.1,a.eval x.2)) #[(0,x)]).toList=[(0,a.eval x)]:=by simp
 rw [hps,hfill _ (by simp)]
 simp [newRow]
def ACD (P:Program) (f:FuncId) (args:List A) (Dn:Nat→D):Prop:=
 (∀ vs w,(callFunc f vs).run P w=.ok (.enter f vs) w)∧
 ∀ (w:World) (C:CellR) (vs:List Value),Cok C w→RepAL (argG C none 0) args vs→Calls P f ⟨vs⟩ w fun e w'=>∃ v C',e=.returned v∧(∀ b o u,C b o u→C' b o u)∧Cok C' w'∧BelowX (fun _=>False) w.heap.size w w'∧(∀ b o u,C' b o u→C b o u∨w.heap.size≤b)∧RepD C' (Dn w.heap.size) v
inductive NR (P:Program) (N:Nat) (ρ:Operand→A) (m:Mem) (κ:Nat):Nat→Op→A→Mem→Prop
 | v0 {op:Op}{v:A} (hl:∀ t x,op=.load t x→∃ cs,ρ x=.d (.rp cs)) (h:VStep P ρ m.bx op (·=v)):NR P N ρ m κ 0 op v (m.bump κ)
 | v1 {t:TypeId}{x:Operand}{k o:Nat}{v:A} (hx:ρ x=.ptr k o) (h:VStep P ρ m.bx (.load t x) (·=v)):NR P N ρ m κ (4+2*k) (.load t x) v (m.bump κ)
 | box {t:TypeId}{x:Operand}{cs:List A} (h:cells1 (ρ x)=some cs):NR P N ρ m κ 2 (.box t x) (.ptr κ 0) (m.box κ cs)
 | alloc {t:TypeId}{zs:List Value} (h:tyZero P t=some zs):NR P N ρ m κ 2 (.alloc t) (.ptr κ 0) (m.box κ (zs.map fun x=>.d (.v x)))
 | bslice {t e:TypeId}{len z:Nat}{parts:Array (Nat × Operand)}{xs:List Operand}{es:List (List D)} (hp:parts=((xs.zipIdx).map fun (x,j)=>(j,x)).toArray) (hlen:len=xs.length) (ht:tyElem P t=some e) (he:tyRow P e=some z) (hx:cellsDs (xs.map ρ)=some es)
   (hz:∀ e∈es,e.length=z) (hl:len*z≤16777216):NR P N ρ m κ 2 (.buildSlice t len parts) (.own κ e z es) (m.row κ es.length e z)
 | call0 {f:FuncId}{xs:Array Operand}{ats:Array TypeId}{ys:List A}{r:Rz} (ha:argsOf none (xs.toList.map ρ)=some ys) (hc:AC P f ys none fun r' _=>r'=r) (hk:r.nk≤16):NR P N ρ m κ 2 (.call { callee:=.value (.func f),args:=xs,argTypes:=ats }) (r.toA κ) ((r.add κ m).bump κ)
 | store {t:TypeId}{ad x:Operand}{k off:Nat}{cs xs:List A}{g:Bool} (ha:ρ ad=.ptr k off) (hb:m.bx k=some cs) (hx:cells1 (ρ x)=some xs) (ht:tyK P t=some (g,xs.length)) (hl:off+xs.length≤cs.length):NR P N ρ m κ (5+2*k) (.store t ad x) .top ((m.put k (splice cs xs off)).bump κ)
 | appn {t e:TypeId}{s x:Operand}{z:Nat}{es2:List (List D)} (ht:tyElem P t=some e) (he:tyRow P e=some z) (hs:ρ s=.d (.v (.slice none 0 0))) (hx:elemsN z (ρ x)=some es2) (hm:es2.length≤268435456):NR P N ρ m κ 2 (.call { callee:=.builtin .append,args:=#[s,x],argTypes:=#[t,t] }) (.own κ e z es2) (m.row κ es2.length e z)
 | appo {t e:TypeId}{s x:Operand}{k z:Nat}{es es2:List (List D)} (ht:tyElem P t=some e) (he:tyRow P e=some z) (hs:ρ s=.own k e z es) (hal:m.al k=some (es.length,e,z)) (hx:elemsN z (ρ x)=some es2) (hm:es.length+es2.length≤268435456) :
   NR P N ρ m κ (5+2*k) (.call { callee:=.builtin .append,args:=#[s,x],argTypes:=#[t,t] }) (.own κ e z (es++es2)) ((m.drop k).row κ (es++es2).length e z)
 | call1 {f:FuncId}{xs:Array Operand}{ats:Array TypeId}{ys cs:List A}{k:Nat}{zs zs':List Rz}{ks:List Nat}{r:Rz} (ha:argsOf (some k) (xs.toList.map ρ)=some ys) (hb:m.bx k=some cs) (hz:ToZL m cs zs ks) (hza:∀ j∈ks,(m.al j).isSome=true) (hn:(k::ks).Nodup)
   (hc:AC P f ys (some zs) fun r' b=>r'=r∧b=some zs') (hk:Rz.nkL zs'+r.nk≤16) (hku:∃ o,A.ptr k o∈xs.toList.map ρ):NR P N ρ m κ 3 (.call { callee:=.value (.func f),args:=xs,argTypes:=ats }) (r.toA (κ+Rz.nkL zs')) (m.back κ k ks zs' r)
 | call1r {f:FuncId}{xs:Array Operand}{ats:Array TypeId}{ys:List A}{k:Nat}{ds:List D}{x:D} (ha:argsOf (some k) (xs.toList.map ρ)=some ys) (hb:m.bx k=some (ds.map .d)) (hc:AC P f ys (some (ds.map .d)) fun r' b=>r'=.d x∧b=some (ds.map .d)) (hku:∃ o,A.ptr k o∈xs.toList.map ρ) :
   NR P N ρ m κ (4+2*k) (.call { callee:=.value (.func f),args:=xs,argTypes:=ats }) (.d x) (m.bump κ)
 | call1w {f:FuncId}{xs:Array Operand}{ats:Array TypeId}{ys:List A}{k:Nat}{ds ds':List D}{x:D} (ha:argsOf (some k) (xs.toList.map ρ)=some ys) (hb:m.bx k=some (ds.map .d)) (hc:AC P f ys (some (ds.map .d)) fun r' b=>r'=.d x∧b=some (ds'.map .d)) (hku:∃ o,A.ptr k o∈xs.toList.map ρ) :
   NR P N ρ m κ (5+2*k) (.call { callee:=.value (.func f),args:=xs,argTypes:=ats }) (.d x) ((m.put k (ds'.map .d)).bump κ)
 | bsliceA {t e:TypeId}{z:Nat}{x:Operand}{cs:List A} (ht:tyElem P t=some e) (he:tyRow P e=some z) (hx:cells1 (ρ x)=some cs) (hz:cs.length=z) (hl:z≤16777216):NR P N ρ m κ 2 (.buildSlice t 1 #[(0,x)]) (.arr κ z 1) (m.box κ cs)
 | call1z {f:FuncId}{xs:Array Operand}{ats:Array TypeId}{ys:List A}{k:Nat}{ds ds':List D}{r:Rz} (ha:argsOf (some k) (xs.toList.map ρ)=some ys) (hb:m.bx k=some (ds.map .d)) (hc:AC P f ys (some (ds.map .d)) fun r' b=>r'=r∧b=some (ds'.map .d)) (hk:r.nk≤16) (hku:∃ o,A.ptr k o∈xs.toList.map ρ) :
   NR P N ρ m κ (5+2*k) (.call { callee:=.value (.func f),args:=xs,argTypes:=ats }) (r.toA κ) ((r.add κ (m.put k (ds'.map .d))).bump κ)
 | call1c {c:Operand}{f:FuncId}{fs cl:List A}{xs:Array Operand}{ats:Array TypeId}{ys:List A}{k:Nat}{ds ds':List D}{x:D} (hcl:clA (ρ c)=some (f,fs,cl)) (ha:argsOf (some k) (fs++xs.toList.map ρ++cl)=some ys) (hb:m.bx k=some (ds.map .d)) (hc:AC P f ys (some (ds.map .d)) fun r' b=>r'=.d x∧b=some (ds'.map .d)) (hku:∃ o,A.ptr k o∈cl) :
   NR P N ρ m κ (5+2*k) (.call { callee:=.value c,args:=xs,argTypes:=ats }) (.d x) ((m.put k (ds'.map .d)).bump κ)
 | callN {f:FuncId}{xs:Array Operand}{ats:Array TypeId}{ys:List A}{Dn:Nat→D} (ha:argsOf none (xs.toList.map ρ)=some ys) (hc:ACD P f ys Dn) (hm:∀ m n,m≤n→∀ (C:CellR) u,RepD C (Dn n) u→RepD C (Dn m) u) :
   NR P N ρ m κ 2 (.call { callee:=.value (.func f),args:=xs,argTypes:=ats }) (.d (Dn N)) (m.bump κ)
 | iao {t e e':TypeId}{x i:Operand}{k n z:Nat}{g:Bool}{kd:IntKind}{es:List (List D)} (ht:tyElem P t=some e) (hk:tyK P e=some (g,z)) (hx:ρ x=.own k e' z es) (hi:intA (ρ i)=some (kd,(n:Int))) (hn:n<es.length):NR P N ρ m κ 0 (.indexAddr t x i) (.ptr k (n*z)) (m.bump κ)

theorem ltL_all {n:Nat→Prop}:∀ {l:List A},A.ltL n l→∀ x∈l,A.lt n x
 | [],_,x,h=>by cases h
 | y::l,h,x,hx=>by
  unfold A.ltL at h
  rcases List.mem_cons.1 hx with rfl|hx
  ·exact h.1
  ·exact ltL_all h.2 x hx
theorem clA_ltc {n:Nat→Prop}{x:A}{f:FuncId}{fs cl:List A} (h:clA x=some (f,fs,cl)) (hx:A.lt n x):∀ y∈cl,A.lt n y:=by
 unfold clA at h
 split at h
 ·simp only [Option.some.injEq,Prod.mk.injEq] at h
  obtain ⟨rfl,rfl,rfl⟩:=h
  intro y hy
  cases hy
 ·simp only [Option.some.injEq,Prod.mk.injEq] at h
  obtain ⟨rfl,rfl,rfl⟩:=h
  unfold A.lt at hx
  exact ltL_all hx.2
 ·cases h
def DoesN (P:Program) (N:Nat) (o:Oper) (ρ:Operand→A) (m:Mem) (v:A) (m':Mem):Prop:=
 ∀ (G:Gh) (w:World) (a:Act),N≤w.heap.size→MemOk G w m→(∀ x,RepA G (ρ x) (a.eval x))→(∀ x,(ρ x).lt m.us)→∀ (Kc:Act→World→Prop) (Q:Exit→Act→World→Prop),
  (∀ u w' G',Evo G w m G' w' m'→MemOk G' w' m'→RepA G' v u→v.lt m'.us→Kc (a.put o.dst u) w')→o.wp P a w Kc Q
theorem Does.n {P:Program}{N:Nat}{o:Oper}{ρ:Operand→A}{m m':Mem}{v:A} (h:Does P o ρ m v m'):DoesN P N o ρ m v m':=fun G w a _=>h G w a
theorem NR.does {P:Program}{N:Nat}{o:Oper}{ρ:Operand→A}{m m':Mem}{κ c:Nat}{v:A} (h:NR P N ρ m κ c o.op v m') (hf:m.fresh κ):DoesN P N o ρ m v m':=by
 generalize ho:o.op=op at h
 cases h with
 | v0 hl h=>
  refine Does.n ?_
  obtain ⟨v',e,hy⟩:=vstep_sound (o:=o) (by rw [ho];exact h)
  subst e
  exact does_yields hy κ
 | v1 hx h=>
  refine Does.n ?_
  obtain ⟨v',e,hy⟩:=vstep_sound (o:=o) (by rw [ho];exact h)
  subst e
  exact does_yields hy κ
 | box h=>exact Does.n (does_box ho h hf)
 | alloc h=>exact Does.n (does_alloc ho h hf)
 | bslice hp hlen ht he hx hz hl=>exact Does.n (does_buildSlice ho hp hlen ht he hx hz hl hf)
 | bsliceA ht he hx hz hl=>exact Does.n (does_buildSliceA ho ht he hx hz hl hf)
 | @call1z f xs ats ys k ds ds' r ha hb hc hk _=>
  refine Does.n ?_
  intro G w a h1 h2 h3 Kc Q hK
  refine does_call1 (κ:=κ) ho ha hb (toZL_d m ds) (fun j hj=>by cases hj) (by simp) hc hf (fun r' z' e=>by obtain ⟨e1,e2⟩:=e;subst e1;have:=Option.some.inj e2;subst this;rw [nkL_d];omega) G w a h1 h2 h3 Kc Q fun v' m'' u w' G' ⟨r',z',e,e1,e2⟩ k1 k2 k3 k4=>?_
  obtain ⟨q1,q2⟩:=e
  have:=Option.some.inj q2
  subst q1 this
  rw [back_dz κ] at e2
  rw [nkL_d,Nat.add_zero] at e1
  subst e1 e2
  exact hK u w' G' k1 k2 k3 k4
 | call0 ha hc hk=>
  refine Does.n ?_
  intro G w a h1 h2 h3 Kc Q hK
  exact does_call0 ho ha hc hf (fun r' e=>by subst e;exact hk) G w a h1 h2 h3 Kc Q fun v' m'' u w' G' ⟨r',e,e1,e2⟩ k1 k2 k3 k4=>by subst e e1 e2;exact hK u w' G' k1 k2 k3 k4
 | store ha hb hx ht hl=>
  refine Does.n ?_
  intro G w a h1 h2 h3 Kc Q hK
  exact does_store ho ha hb hx ht hl G w a h1 h2 h3 Kc Q fun u w' G' k1 k2 k3 k4=>hK u w' G' k1.bumpTo (k2.bump κ) k3 (A.lt.mono (fun _ hk=>.inl hk) _ k4)
 | appn ht he hs hx hm=>exact Does.n (does_append_nil ho ht he hs hx hm hf)
 | appo ht he hs hal hx hm=>exact Does.n (does_append_own ho ht he hs hal hx hm hf)
 | call1 ha hb hz hza hn hc hk _=>
  refine Does.n ?_
  intro G w a h1 h2 h3 Kc Q hK
  exact does_call1 ho ha hb hz hza hn hc hf (fun r' z' e=>by obtain ⟨e1,e2⟩:=e;subst e1;have:=Option.some.inj e2;subst this;exact hk) G w a h1 h2 h3 Kc Q fun v' m'' u w' G' ⟨r',z',e,e1,e2⟩ k1 k2 k3 k4=>by
   obtain ⟨q1,q2⟩:=e
   have:=Option.some.inj q2
   subst q1 this e1 e2
   exact hK u w' G' k1 k2 k3 k4
 | @call1r f xs ats ys k ds x ha hb hc _=>
  refine Does.n ?_
  intro G w a h1 h2 h3 Kc Q hK
  refine does_call1 (κ:=κ) ho ha hb (toZL_d m ds) (fun j hj=>by cases hj) (by simp) hc hf (fun r' z' e=>by obtain ⟨e1,e2⟩:=e;subst e1;have:=Option.some.inj e2;subst this;rw [nkL_d];exact Nat.zero_le _) G w a h1 h2 h3 Kc Q fun v' m'' u w' G' ⟨r',z',e,e1,e2⟩ k1 k2 k3 k4=>?_
  obtain ⟨q1,q2⟩:=e
  have:=Option.some.inj q2
  subst q1 this
  rw [back_ds κ hb] at e2
  subst e1 e2
  exact hK u w' G' k1 k2 k3 k4
 | @call1w f xs ats ys k ds ds' x ha hb hc _=>
  refine Does.n ?_
  intro G w a h1 h2 h3 Kc Q hK
  refine does_call1 (κ:=κ) ho ha hb (toZL_d m ds) (fun j hj=>by cases hj) (by simp) hc hf (fun r' z' e=>by obtain ⟨e1,e2⟩:=e;subst e1;have:=Option.some.inj e2;subst this;rw [nkL_d];exact Nat.zero_le _) G w a h1 h2 h3 Kc Q fun v' m'' u w' G' ⟨r',z',e,e1,e2⟩ k1 k2 k3 k4=>?_
  obtain ⟨q1,q2⟩:=e
  have:=Option.some.inj q2
  subst q1 this
  rw [back_dw κ] at e2
  subst e1 e2
  exact hK u w' G' k1 k2 k3 k4
 | @call1c c f fs cl xs ats ys k ds ds' x hcl ha hb hc _=>
  refine Does.n ?_
  intro G w a h1 h2 h3 Kc Q hK
  refine does_call1C (κ:=κ) ho hcl ha hb (toZL_d m ds) (fun j hj=>by cases hj) (by simp) hc hf (fun r' z' e=>by obtain ⟨e1,e2⟩:=e;subst e1;have:=Option.some.inj e2;subst this;rw [nkL_d];exact Nat.zero_le _) G w a h1 h2 h3 Kc Q fun v' m'' u w' G' ⟨r',z',e,e1,e2⟩ k1 k2 k3 k4=>?_
  obtain ⟨q1,q2⟩:=e
  have:=Option.some.inj q2
  subst q1 this
  rw [back_dw κ] at e2
  subst e1 e2
  exact hK u w' G' k1 k2 k3 k4
 | iao ht hk hx hi hn=>exact Does.n (does_yields (y_iaddrO ho ht hk hx hi hn) κ)
 | @callN f xs ats ys Dn ha hc hm=>
  intro G w a hN h1 h2 h3 Kc Q hK
  refine wp_call ho hc.1 ((hc.2 w G.C _ h1.cok (argsOf_rep ha (fun j hj=>by cases hj) (RepAL_map h2 xs.toList))).mono fun e w' ⟨v,C',he,hC,hC',hfw,hcn,hr⟩=>⟨v,he,?_⟩)
  have hok1:MemOk { G with C:=C' } w' m:=h1.after (X:=fun _=>False) hC hC' hfw (fun b o u hc'=>by rcases hcn b o u hc' with h|h<;>simp [h]) (fun _ _ h=>h) (fun _ _ h=>h) rfl (fun _ _ _ _ h=>h)
  have hev:Evo G w m { G with C:=C' } w' m:=⟨⟨fun _ _=>rfl,fun _ _=>rfl,hC⟩,⟨hfw.os,hfw.tape,hfw.output,hfw.size,fun k hk _=>hfw.block k hk id⟩,fun b o u hc'=>(hcn b o u hc').imp id .inl,fun b hb'=>.inr hb',fun _ h=>h⟩
  exact hK v w' _ hev.bumpTo (hok1.bump κ) (by unfold RepA;exact hm _ _ hN _ _ hr) (by unfold A.lt;trivial)

/-! ### It looks at its operands alone -/
theorem vstep_congr {P:Program}{ρ ρ':Operand→A}{bx:Nat→Option (List A)}{op:Op}{K:A→Prop} (h:∀ x∈op.operands,ρ x=ρ' x) (hs:VStep P ρ bx op K):VStep P ρ' bx op K:=by
 cases op<;>simp only [Op.operands] at h<;>simp only [VStep] at hs ⊢
 case call c=>
  unfold callV at hs ⊢
  split at hs
  ·rename_i hc
   split at hs
   ·rename_i x t ha hat
    rw [←h x (by simp [Call.operands,hc];rw [←Array.mem_toList_iff,ha];simp)]
    exact hs
   ·exact hs.elim
  ·exact hs.elim
 case slice t x lo hi mx=>
  have e1:ρ x=ρ' x:=h x (by simp)
  have e2:lo.map ρ=lo.map ρ':=by cases lo<;>simp;exact h _ (by simp)
  have e3:hi.map ρ=hi.map ρ':=by cases hi<;>simp;exact h _ (by simp)
  have e4:mx.map ρ=mx.map ρ':=by cases mx<;>simp;exact h _ (by simp)
  rw [←e1,←e2,←e3,←e4]
  exact hs
 case binOp op t x y yt=>
  unfold binV nilBin at hs ⊢
  rw [←h x (by simp),←h y (by simp)]
  exact hs
 case build t parts=>
  have e:(parts.toList.map fun p=>(p.1,ρ p.2))=parts.toList.map fun p=>(p.1,ρ' p.2):=List.map_congr_left fun p hp=>by rw [h p.2 (List.mem_toArray.2 (List.mem_map.2 ⟨p,hp,rfl⟩))]
  rw [←e]
  exact hs
 case makeFunc f fs cs=>
  have e1:∀ xs:Array Operand,(∀ x∈xs,ρ x=ρ' x)→xs.toList.map ρ=xs.toList.map ρ':=fun xs hx=>List.map_congr_left fun x hx'=>hx x (Array.mem_toList_iff.1 hx')
  rw [←e1 fs fun x hx=>h x (by simp [hx]),←e1 cs fun x hx=>h x (by simp [hx])]
  exact hs
 case pick c x y=>
  rw [←h c (by simp),←h x (by simp),←h y (by simp)]
  exact hs
 case indexAddr t x i=>
  rw [←h x (by simp),←h i (by simp)]
  exact hs
 case index t x i=>
  rw [←h x (by simp),←h i (by simp)]
  exact hs
 all_goals first
  | exact hs.elim
  | (rename_i x;rw [←h x (by simp)];exact hs)
  | (rename_i x _;rw [←h x (by simp)];exact hs)
  | (rename_i _ x;rw [←h x (by simp)];exact hs)
  | (rename_i x _ _;rw [←h x (by simp)];exact hs)
  | exact hs

theorem map_congr_ops {ρ ρ':Operand→A}{xs:Array Operand} (h:∀ x∈xs,ρ x=ρ' x):xs.toList.map ρ=xs.toList.map ρ':=List.map_congr_left fun x hx=>h x (Array.mem_toList_iff.1 hx)
theorem NR.congr {P:Program}{N:Nat}{ρ ρ':Operand→A}{m m':Mem}{κ c:Nat}{op:Op}{v:A} (h:∀ x∈op.operands,ρ x=ρ' x) (hn:NR P N ρ m κ c op v m'):NR P N ρ' m κ c op v m':=by
 cases hn with
 | v0 hl hs=>exact .v0 (fun t x e=>by
   obtain ⟨cs,h'⟩:=hl t x e
   subst e
   exact ⟨cs,(h x (by simp [Op.operands])).symm.trans h'⟩) (vstep_congr h hs)
 | v1 hx hs=>exact .v1 ((h _ (by simp [Op.operands])).symm.trans hx) (vstep_congr h hs)
 | box hx=>exact .box (by rw [←h _ (by simp [Op.operands])];exact hx)
 | alloc hz=>exact .alloc hz
 | bslice hp hlen ht he hx hz hl=>
  refine .bslice hp hlen ht he ?_ hz hl
  rw [←hx]
  congr 1
  refine List.map_congr_left fun x hx'=>(h x ?_).symm
  subst hp
  simp only [Op.operands]
  obtain ⟨i,hi⟩:=List.getElem?_of_mem hx'
  simp only [List.mem_toArray,List.map_map,List.mem_map]
  exact ⟨(x,i),List.mem_zipIdx_iff_getElem?.2 hi,rfl⟩
 | bsliceA ht he hx hz hl=>exact .bsliceA ht he (by rw [←h _ (by simp [Op.operands])];exact hx) hz hl
 | call1z ha hb hc hk hku=>
  have e:=map_congr_ops (xs:=‹Array Operand›) fun x hx=>h x (by simp [Op.operands,Call.operands,hx])
  exact .call1z (by rw [←e];exact ha) hb hc hk (by rw [←e];exact hku)
 | callN ha hc hm=>exact .callN (by rw [←map_congr_ops fun x hx=>h x (by simp [Op.operands,Call.operands,hx])];exact ha) hc hm
 | call0 ha hc hk=>exact .call0 (by rw [←map_congr_ops fun x hx=>h x (by simp [Op.operands,Call.operands,hx])];exact ha) hc hk
 | store ha hb hx ht hl=>exact .store (by rw [←h _ (by simp [Op.operands])];exact ha) hb (by rw [←h _ (by simp [Op.operands])];exact hx) ht hl
 | appn ht he hs hx hm=>exact .appn ht he (by rw [←h _ (by simp [Op.operands,Call.operands])];exact hs) (by rw [←h _ (by simp [Op.operands,Call.operands])];exact hx) hm
 | appo ht he hs hal hx hm=>exact .appo ht he (by rw [←h _ (by simp [Op.operands,Call.operands])];exact hs) hal (by rw [←h _ (by simp [Op.operands,Call.operands])];exact hx) hm
 | call1 ha hb hz hza hn hc hk hku=>
  have e:=map_congr_ops (xs:=‹Array Operand›) fun x hx=>h x (by simp [Op.operands,Call.operands,hx])
  exact .call1 (by rw [←e];exact ha) hb hz hza hn hc hk (by rw [←e];exact hku)
 | call1r ha hb hc hku=>
  have e:=map_congr_ops (xs:=‹Array Operand›) fun x hx=>h x (by simp [Op.operands,Call.operands,hx])
  exact .call1r (by rw [←e];exact ha) hb hc (by rw [←e];exact hku)
 | call1w ha hb hc hku=>
  have e:=map_congr_ops (xs:=‹Array Operand›) fun x hx=>h x (by simp [Op.operands,Call.operands,hx])
  exact .call1w (by rw [←e];exact ha) hb hc (by rw [←e];exact hku)
 | call1c hcl ha hb hc hku=>
  have e:=map_congr_ops (xs:=‹Array Operand›) fun x hx=>h x (by simp [Op.operands,Call.operands,hx])
  exact .call1c (by rw [←h _ (by simp [Op.operands,Call.operands])];exact hcl) (by rw [←e];exact ha) hb hc hku
 | iao ht hk hx hi hn=>exact .iao ht hk ((h _ (by simp [Op.operands])).symm.trans hx) (by rw [←h _ (by simp [Op.operands])];exact hi) hn

/-! ### What it reads -/
theorem vstep_bx {P:Program}{ρ:Operand→A}{bx bx':Nat→Option (List A)}{op:Op}{K:A→Prop} (h:∀ t x k o,op=.load t x→ρ x=.ptr k o→bx' k=bx k) (hs:VStep P ρ bx op K):VStep P ρ bx' op K:=by
 unfold VStep at hs ⊢
 split at hs<;>first
  | exact hs
  | (rename_i t x
     unfold loadV at hs ⊢
     split at hs
     ·rename_i k o hk
      rw [h t x k o rfl hk]
      exact hs
     ·exact hs
     ·exact hs)

def SameAt (m m':Mem) (k:Nat):Prop:=m'.bx k=m.bx k∧m'.al k=m.al k
theorem SameAt.symm {m m':Mem}{k:Nat} (h:SameAt m m' k):SameAt m' m k:=⟨h.1.symm,h.2.symm⟩
theorem SameAt.trans {m m' m'':Mem}{k:Nat} (h:SameAt m m' k) (g:SameAt m' m'' k):SameAt m m'' k:=⟨g.1.trans h.1,g.2.trans h.2⟩

structure Loc (P:Program) (N:Nat) (ρ:Operand→A) (m:Mem) (κ c:Nat) (op:Op) (v:A) (m':Mem) (Rd Wr:Nat→Prop) (T:Mem→Mem):Prop where
 sub:∀ k,Wr k→Rd k
 cl:∀ k,Wr k→c=3∨c=5+2*k
 rd:∀ k,Rd k→c=3∨c=4+2*k∨c=5+2*k
 men:∀ p:Nat→Prop,(∀ x∈op.operands,(ρ x).lt p)→(∀ k cs,p k→Rd k→m.bx k=some cs→A.ltL p cs)→∀ k,Rd k→p k
 eq:m'=T m
 tr:∀ m2:Mem,(∀ k,Rd k→SameAt m m2 k)→NR P N ρ m2 κ c op v (T m2)
 us:∀ m,(T m).us=Eng.bump m.us κ
 out:∀ m k,¬Wr k→¬rng κ k→SameAt m (T m) k
 pw:∀ m m2 k,SameAt m m2 k→SameAt (T m) (T m2) k

theorem lt_ptr_iff {p:Nat→Prop}{k o:Nat}:(A.ptr k o).lt p↔p k:=by unfold A.lt;exact Iff.rfl
theorem lt_own_iff {p:Nat→Prop}{k z:Nat}{e:TypeId}{es:List (List D)}:(A.own k e z es).lt p↔p k:=by unfold A.lt;exact Iff.rfl
theorem upd_at {α:Type}{f g:Nat→α}{κ k:Nat}{v:α} (h:g k=f k):upd g κ v k=upd f κ v k:=by
 unfold upd
 split
 ·rfl
 ·exact h
theorem upd_out {α:Type}{f:Nat→α}{κ k:Nat}{v:α} (h:¬rng κ k):upd f κ v k=f k:=upd_ne _ _ fun e=>h (by subst e;unfold rng;omega)

mutual
theorem Rz.add_at:∀ (z:Rz) (κ:Nat) (m m2:Mem) (k:Nat),SameAt m m2 k→SameAt (z.add κ m) (z.add κ m2) k
 | .d _,_,_,_,_,h=>h
 | .own _ _ _,_,_,_,_,h=>⟨h.1,upd_at h.2⟩
 | .box _,_,_,_,_,h=>⟨upd_at h.1,h.2⟩
 | .arr _ _ _,_,_,_,_,h=>⟨upd_at h.1,h.2⟩
 | .agg zs,κ,m,m2,k,h=>Rz.addL_at zs κ m m2 k h
 | .tup zs,κ,m,m2,k,h=>Rz.addL_at zs κ m m2 k h
theorem Rz.addL_at:∀ (zs:List Rz) (κ:Nat) (m m2:Mem) (k:Nat),SameAt m m2 k→SameAt (Rz.addL zs κ m) (Rz.addL zs κ m2) k
 | [],_,_,_,_,h=>h
 | z::zs,κ,m,m2,k,h=>by unfold Rz.addL;exact Rz.addL_at zs _ _ _ k (Rz.add_at z κ m m2 k h)
end
mutual
theorem Rz.add_out:∀ (z:Rz) (κ:Nat) (m:Mem) (k:Nat),¬(κ≤k∧k<κ+z.nk)→SameAt m (z.add κ m) k
 | .d _,_,_,_,_=>⟨rfl,rfl⟩
 | .own _ _ _,κ,m,k,h=>⟨rfl,upd_ne _ _ fun e=>h (by subst e;unfold Rz.nk;omega)⟩
 | .box _,κ,m,k,h=>⟨upd_ne _ _ fun e=>h (by subst e;unfold Rz.nk;omega),rfl⟩
 | .arr _ _ _,κ,m,k,h=>⟨upd_ne _ _ fun e=>h (by subst e;unfold Rz.nk;omega),rfl⟩
 | .agg zs,κ,m,k,h=>Rz.addL_out zs κ m k h
 | .tup zs,κ,m,k,h=>Rz.addL_out zs κ m k h
theorem Rz.addL_out:∀ (zs:List Rz) (κ:Nat) (m:Mem) (k:Nat),¬(κ≤k∧k<κ+Rz.nkL zs)→SameAt m (Rz.addL zs κ m) k
 | [],_,_,_,_=>⟨rfl,rfl⟩
 | z::zs,κ,m,k,h=>by
  unfold Rz.nkL at h
  unfold Rz.addL
  exact (Rz.add_out z κ m k (by omega)).trans (Rz.addL_out zs _ _ k (by omega))
end
mutual
theorem add_us:∀ (z:Rz) (κ:Nat) (m:Mem) (k:Nat),(z.add κ m).us k↔m.us k∨(κ≤k∧k<κ+z.nk)
 | .d _,κ,m,k=>by unfold Rz.add Rz.nk;constructor<;>intro h<;>first|exact .inl h|exact h.elim id fun h=>by omega
 | .own _ _ _,κ,m,k=>by
  unfold Rz.add Rz.nk
  exact ⟨fun h=>h.imp id fun h=>by omega,fun h=>h.imp id fun h=>by omega⟩
 | .box _,κ,m,k=>by
  unfold Rz.add Rz.nk
  exact ⟨fun h=>h.imp id fun h=>by omega,fun h=>h.imp id fun h=>by omega⟩
 | .arr _ _ _,κ,m,k=>by
  unfold Rz.add Rz.nk
  exact ⟨fun h=>h.imp id fun h=>by omega,fun h=>h.imp id fun h=>by omega⟩
 | .agg zs,κ,m,k=>by unfold Rz.add Rz.nk;exact Rz.addedL_us zs κ m k
 | .tup zs,κ,m,k=>by unfold Rz.add Rz.nk;exact Rz.addedL_us zs κ m k
theorem Rz.addedL_us:∀ (zs:List Rz) (κ:Nat) (m:Mem) (k:Nat),(Rz.addL zs κ m).us k↔m.us k∨(κ≤k∧k<κ+Rz.nkL zs)
 | [],κ,m,k=>by unfold Rz.addL Rz.nkL;constructor<;>intro h<;>first|exact .inl h|exact h.elim id fun h=>by omega
 | z::zs,κ,m,k=>by
  unfold Rz.addL Rz.nkL
  rw [Rz.addedL_us zs,add_us z]
  by_cases hp:m.us k
  ·simp [hp]
  ·simp only [hp,false_or];omega
end
theorem bump_bump {us:Nat→Prop}{κ κ':Nat}:Eng.bump (Eng.bump us κ) κ'=Eng.bump (Eng.bump us κ') κ:=by
 funext k
 apply propext
 unfold Eng.bump
 constructor
 ·rintro ((h|h)|h)
  ·exact .inl (.inl h)
  ·exact .inr h
  ·exact .inl (.inr h)
 ·rintro ((h|h)|h)
  ·exact .inl (.inl h)
  ·exact .inr h
  ·exact .inl (.inr h)
mutual
theorem toZ_congr {m m2:Mem}:∀ {c:A}{z:Rz}{ks:List Nat},(∀ j∈ks,SameAt m m2 j)→ToZ m c z ks→ToZ m2 c z ks
 | .d x,z,ks,_,h=>by unfold ToZ at h ⊢;exact h
 | .own k e s es,z,ks,hs,h=>by
  unfold ToZ at h ⊢
  obtain ⟨h1,rfl,h3⟩:=h
  exact ⟨h1,rfl,(hs k (by simp)).2.trans h3⟩
 | .ptr k o,z,ks,hs,h=>by
  unfold ToZ at h ⊢
  obtain ⟨ds,h1,h2,h3,rfl⟩:=h
  exact ⟨ds,h1,(hs k (by simp)).1.trans h2,h3,rfl⟩
 | .agg cs,z,ks,hs,h=>by
  unfold ToZ at h ⊢
  obtain ⟨zs,h1,h2⟩:=h
  exact ⟨zs,h1,toZL_congr hs h2⟩
 | .tup cs,z,ks,hs,h=>by
  unfold ToZ at h ⊢
  obtain ⟨zs,h1,h2⟩:=h
  exact ⟨zs,h1,toZL_congr hs h2⟩
 | .top,z,ks,_,h=>by unfold ToZ at h;exact h.elim
 | .arr k _ _,z,ks,hs,h=>by
  unfold ToZ at h ⊢
  obtain ⟨ds,h2,h3,rfl⟩:=h
  exact ⟨ds,(hs k (by simp)).1.trans h2,h3,rfl⟩
 | .clo _ _ _,z,ks,_,h=>by unfold ToZ at h;exact h.elim
 | .ifc _ _,z,ks,_,h=>by unfold ToZ at h;exact h.elim
 | .dec _ _ _ _ _,z,ks,_,h=>by unfold ToZ at h;exact h.elim
 | .sow _ _ _ _ _,z,ks,_,h=>by unfold ToZ at h;exact h.elim
theorem toZL_congr {m m2:Mem}:∀ {cs:List A}{zs:List Rz}{ks:List Nat},(∀ j∈ks,SameAt m m2 j)→ToZL m cs zs ks→ToZL m2 cs zs ks
 | [],zs,ks,_,h=>by unfold ToZL at h ⊢;exact h
 | c::cs,zs,ks,hs,h=>by
  unfold ToZL at h ⊢
  obtain ⟨z,zs',k1,k2,h1,rfl,h3,h4⟩:=h
  exact ⟨z,zs',k1,k2,h1,rfl,toZ_congr (fun j hj=>hs j (List.mem_append_left _ hj)) h3,toZL_congr (fun j hj=>hs j (List.mem_append_right _ hj)) h4⟩
end

mutual
theorem toZ_lt {p:Nat→Prop}{m:Mem}:∀ {c:A}{z:Rz}{ks:List Nat},ToZ m c z ks→A.lt p c→∀ j∈ks,p j
 | .d x,z,ks,h,_,j,hj=>by unfold ToZ at h;rw [h.2] at hj;cases hj
 | .own k e s es,z,ks,h,hl,j,hj=>by
  unfold ToZ at h
  obtain ⟨_,rfl,_⟩:=h
  rw [List.mem_singleton] at hj;subst hj
  exact lt_own_iff.1 hl
 | .ptr k o,z,ks,h,hl,j,hj=>by
  unfold ToZ at h
  obtain ⟨ds,_,_,_,rfl⟩:=h
  rw [List.mem_singleton] at hj;subst hj
  exact lt_ptr_iff.1 hl
 | .agg cs,z,ks,h,hl,j,hj=>by
  unfold ToZ at h
  obtain ⟨zs,_,h2⟩:=h
  unfold A.lt at hl
  exact toZL_lt h2 hl j hj
 | .tup cs,z,ks,h,hl,j,hj=>by
  unfold ToZ at h
  obtain ⟨zs,_,h2⟩:=h
  unfold A.lt at hl
  exact toZL_lt h2 hl j hj
 | .top,z,ks,h,_,j,hj=>by unfold ToZ at h;exact h.elim
 | .arr k _ _,z,ks,h,hl,j,hj=>by
  unfold ToZ at h
  obtain ⟨ds,_,_,rfl⟩:=h
  rw [List.mem_singleton] at hj;subst hj
  unfold A.lt at hl
  exact hl
 | .clo _ _ _,z,ks,h,_,j,hj=>by unfold ToZ at h;exact h.elim
 | .ifc _ _,z,ks,h,_,j,hj=>by unfold ToZ at h;exact h.elim
 | .dec _ _ _ _ _,z,ks,h,_,j,hj=>by unfold ToZ at h;exact h.elim
 | .sow _ _ _ _ _,z,ks,h,_,j,hj=>by unfold ToZ at h;exact h.elim
theorem toZL_lt {p:Nat→Prop}{m:Mem}:∀ {cs:List A}{zs:List Rz}{ks:List Nat},ToZL m cs zs ks→A.ltL p cs→∀ j∈ks,p j
 | [],zs,ks,h,_,j,hj=>by unfold ToZL at h;rw [h.2] at hj;cases hj
 | c::cs,zs,ks,h,hl,j,hj=>by
  unfold ToZL at h
  obtain ⟨z,zs',k1,k2,_,rfl,h1,h2⟩:=h
  unfold A.ltL at hl
  rcases List.mem_append.1 hj with hj|hj
  ·exact toZ_lt h1 hl.1 j hj
  ·exact toZL_lt h2 hl.2 j hj
end
theorem NR.loc {P:Program}{N:Nat}{ρ:Operand→A}{m m':Mem}{κ c:Nat}{op:Op}{v:A} (h:NR P N ρ m κ c op v m'):∃ Rd Wr T,Loc P N ρ m κ c op v m' Rd Wr T:=by
 cases h with
 | iao ht hk hx hi hn=>
  exact ⟨fun _=>False,fun _=>False,fun m=>m.bump κ,fun k h=>h.elim,fun k h=>h.elim,fun k h=>h.elim,fun _ _ _ k h=>h.elim,rfl,fun m2 _=>.iao ht hk hx hi hn,fun _=>rfl,fun _ _ _ _=>⟨rfl,rfl⟩,fun _ _ _ h=>h⟩
 | callN ha hc hm=>
  exact ⟨fun _=>False,fun _=>False,fun m=>m.bump κ,fun k h=>h.elim,fun k h=>h.elim,fun k h=>h.elim,fun _ _ _ k h=>h.elim,rfl,fun m2 _=>.callN ha hc hm,fun _=>rfl,fun _ _ _ _=>⟨rfl,rfl⟩,fun _ _ _ h=>h⟩
 | v0 hl hs=>
  exact ⟨fun _=>False,fun _=>False,fun m=>m.bump κ,fun k h=>h.elim,fun k h=>h.elim,fun k h=>h.elim,fun _ _ _ k h=>h.elim,rfl,fun m2 _=>.v0 hl (vstep_bx (fun t x k o e e2=>by
   obtain ⟨cs,h⟩:=hl t x e
   rw [h] at e2
   cases e2) hs),fun _=>rfl,fun _ _ _ _=>⟨rfl,rfl⟩,fun _ _ _ h=>h⟩
 | @v1 t x k0 o0 _ hx hs=>
  refine ⟨fun k=>k=k0,fun _=>False,fun m=>m.bump κ,fun k h=>h.elim,fun k h=>h.elim,fun k h=>.inr (.inl (by rw [h])),fun p hp _ k e=>?_,rfl,fun m2 h2=>.v1 hx (vstep_bx (fun t' x' k o e e2=>?_) hs),fun _=>rfl,fun _ _ _ _=>⟨rfl,rfl⟩,fun _ _ _ h=>h⟩
  ·have:=hp x (by simp [Op.operands])
   rw [hx] at this
   rw [e]
   exact lt_ptr_iff.1 this
  ·simp only [Op.load.injEq] at e
   obtain ⟨_,rfl⟩:=e
   rw [hx] at e2
   simp only [A.ptr.injEq] at e2
   exact (h2 k e2.1.symm).1
 | @box t x cs hx=>
  exact ⟨fun _=>False,fun _=>False,fun m=>m.box κ cs,fun k h=>h.elim,fun k h=>h.elim,fun k h=>h.elim,fun _ _ _ k h=>h.elim,rfl,fun m2 _=>.box hx,fun _=>rfl,fun _ _ _ h=>⟨upd_out h,rfl⟩,fun _ _ _ h=>⟨upd_at h.1,h.2⟩⟩
 | @alloc t zs hz=>
  exact ⟨fun _=>False,fun _=>False,fun m=>m.box κ (zs.map fun x=>.d (.v x)),fun k h=>h.elim,fun k h=>h.elim,fun k h=>h.elim,fun _ _ _ k h=>h.elim,rfl,fun m2 _=>.alloc hz,fun _=>rfl,fun _ _ _ h=>⟨upd_out h,rfl⟩,fun _ _ _ h=>⟨upd_at h.1,h.2⟩⟩
 | @bslice t e len z parts xs es hp hlen ht he hx hz hl=>
  exact ⟨fun _=>False,fun _=>False,fun m=>m.row κ es.length e z,fun k h=>h.elim,fun k h=>h.elim,fun k h=>h.elim,fun _ _ _ k h=>h.elim,rfl,fun m2 _=>.bslice hp hlen ht he hx hz hl,fun _=>rfl,fun _ _ _ h=>⟨rfl,upd_out h⟩,fun _ _ _ h=>⟨h.1,upd_at h.2⟩⟩
 | @bsliceA t e z x cs ht he hx hz hl=>
  exact ⟨fun _=>False,fun _=>False,fun m=>m.box κ cs,fun k h=>h.elim,fun k h=>h.elim,fun k h=>h.elim,fun _ _ _ k h=>h.elim,rfl,fun m2 _=>.bsliceA ht he hx hz hl,fun _=>rfl,fun _ _ _ h=>⟨upd_out h,rfl⟩,fun _ _ _ h=>⟨upd_at h.1,h.2⟩⟩
 | @call1z f xs ats ys k0 ds ds' r ha hb hc hk hku=>
  refine ⟨fun j=>j=k0,fun j=>j=k0,fun m=>(r.add κ (m.put k0 (ds'.map .d))).bump κ,fun _ h=>h,fun j h=>.inr (by rw [h]),fun j h=>.inr (.inr (by rw [h])),fun p hp _ j hj=>?_,rfl,fun m2 h2=>.call1z ha ((h2 k0 rfl).1.trans hb) hc hk hku,fun m=>?_,fun m j hj h=>?_,fun m m2 j h=>?_⟩
  ·obtain ⟨o,ho⟩:=hku
   obtain ⟨x,hx,e'⟩:=List.mem_map.1 ho
   have:=hp x (by simp [Op.operands,Call.operands,Array.mem_toList_iff.1 hx])
   rw [e'] at this
   rw [hj]
   exact lt_ptr_iff.1 this
  ·funext k
   apply propext
   show Eng.bump (r.add κ (m.put k0 (ds'.map .d))).us κ k↔Eng.bump m.us κ k
   unfold Eng.bump
   rw [add_us]
   show (m.us k∨_)∨_↔_
   by_cases hp:m.us k
   ·simp [hp]
   ·simp only [hp,false_or];omega
  ·have h1:=Rz.add_out r κ (m.put k0 (ds'.map .d)) j fun h'=>h (by unfold rng;omega)
   exact ⟨h1.1.trans (upd_ne _ _ hj),h1.2⟩
  ·exact Rz.add_at r κ (m.put k0 (ds'.map .d)) (m2.put k0 (ds'.map .d)) j ⟨upd_at h.1,h.2⟩
 | @call0 f xs ats ys r ha hc hk=>
  refine ⟨fun _=>False,fun _=>False,fun m=>(r.add κ m).bump κ,fun k h=>h.elim,fun k h=>h.elim,fun k h=>h.elim,fun _ _ _ k h=>h.elim,rfl,fun m2 _=>.call0 ha hc hk,fun m=>?_,fun m k _ h=>Rz.add_out r κ m k fun h'=>h (by unfold rng;omega),fun m m2 k h=>Rz.add_at r κ m m2 k h⟩
  funext k
  apply propext
  show Eng.bump (r.add κ m).us κ k↔Eng.bump m.us κ k
  unfold Eng.bump
  rw [add_us]
  by_cases hp:m.us k
  ·simp [hp]
  ·simp only [hp,false_or];omega
 | @store t ad x k off cs xs g ha hb hx ht hl=>
  refine ⟨fun j=>j=k,fun j=>j=k,fun m=>(m.put k (splice cs xs off)).bump κ,fun _ h=>h,fun j h=>.inr (by rw [h]),fun j h=>.inr (.inr (by rw [h])),fun p hp _ j hj=>?_,rfl,fun m2 h2=>.store ha ((h2 k rfl).1.trans hb) hx ht hl,fun _=>rfl,fun m j hj _=>⟨upd_ne _ _ hj,rfl⟩,fun _ _ _ h=>⟨upd_at h.1,h.2⟩⟩
  subst hj
  have:=hp ad (by simp [Op.operands])
  rw [ha] at this
  exact lt_ptr_iff.1 this
 | @appn t e s x z es2 ht he hs hx hm=>
  exact ⟨fun _=>False,fun _=>False,fun m=>m.row κ es2.length e z,fun k h=>h.elim,fun k h=>h.elim,fun k h=>h.elim,fun _ _ _ k h=>h.elim,rfl,fun m2 _=>.appn ht he hs hx hm,fun _=>rfl,fun _ _ _ h=>⟨rfl,upd_out h⟩,fun _ _ _ h=>⟨h.1,upd_at h.2⟩⟩
 | @appo t e s x k z es es2 ht he hs hal hx hm=>
  refine ⟨fun j=>j=k,fun j=>j=k,fun m=>(m.drop k).row κ (es++es2).length e z,fun _ h=>h,fun j h=>.inr (by rw [h]),fun j h=>.inr (.inr (by rw [h])),fun p hp _ j hj=>?_,rfl,fun m2 h2=>.appo ht he hs ((h2 k rfl).2.trans hal) hx hm,fun _=>rfl,fun m j hj h=>⟨rfl,(upd_out h).trans (upd_ne _ _ hj)⟩,fun _ _ _ h=>⟨h.1,upd_at (upd_at h.2)⟩⟩
  subst hj
  have:=hp s (by simp [Op.operands,Call.operands])
  rw [hs] at this
  exact lt_own_iff.1 this
 | @call1r f xs ats ys k0 ds x ha hb hc hku=>
  refine ⟨fun k=>k=k0,fun _=>False,fun m=>m.bump κ,fun k h=>h.elim,fun k h=>h.elim,fun k h=>.inr (.inl (by rw [h])),fun p hp _ k e=>?_,rfl,fun m2 h2=>.call1r ha ((h2 k0 rfl).1.trans hb) hc hku,fun _=>rfl,fun _ _ _ _=>⟨rfl,rfl⟩,fun _ _ _ h=>h⟩
  obtain ⟨o,ho⟩:=hku
  obtain ⟨x,hx,e'⟩:=List.mem_map.1 ho
  have:=hp x (by simp [Op.operands,Call.operands,Array.mem_toList_iff.1 hx])
  rw [e'] at this
  rw [e]
  exact lt_ptr_iff.1 this
 | @call1w f xs ats ys k0 ds ds' x ha hb hc hku=>
  refine ⟨fun j=>j=k0,fun j=>j=k0,fun m=>(m.put k0 (ds'.map .d)).bump κ,fun _ h=>h,fun j h=>.inr (by rw [h]),fun j h=>.inr (.inr (by rw [h])),fun p hp _ j hj=>?_,rfl,fun m2 h2=>.call1w ha ((h2 k0 rfl).1.trans hb) hc hku,fun _=>rfl,fun m j hj _=>⟨upd_ne _ _ hj,rfl⟩,fun _ _ _ h=>⟨upd_at h.1,h.2⟩⟩
  obtain ⟨o,ho⟩:=hku
  obtain ⟨x,hx,e'⟩:=List.mem_map.1 ho
  have:=hp x (by simp [Op.operands,Call.operands,Array.mem_toList_iff.1 hx])
  rw [e'] at this
  rw [hj]
  exact lt_ptr_iff.1 this
 | @call1c c f fs cl xs ats ys k0 ds ds' x hcl ha hb hc hku=>
  refine ⟨fun j=>j=k0,fun j=>j=k0,fun m=>(m.put k0 (ds'.map .d)).bump κ,fun _ h=>h,fun j h=>.inr (by rw [h]),fun j h=>.inr (.inr (by rw [h])),fun p hp _ j hj=>?_,rfl,fun m2 h2=>.call1c hcl ha ((h2 k0 rfl).1.trans hb) hc hku,fun _=>rfl,fun m j hj _=>⟨upd_ne _ _ hj,rfl⟩,fun _ _ _ h=>⟨upd_at h.1,h.2⟩⟩
  obtain ⟨o,ho⟩:=hku
  have:=clA_ltc hcl (hp c (by simp [Op.operands,Call.operands])) _ ho
  rw [hj]
  exact lt_ptr_iff.1 this
 | @call1 f xs ats ys cs k zs zs' ks r ha hb hz hza hn hc hk hku=>
  have hT:∀ m:Mem,m.back κ k ks zs' r=(r.add (κ+Rz.nkL zs') { Rz.addL zs' κ { bx:=upd m.bx k none,al:=dropAll m.al ks,us:=m.us } with bx:=upd (Rz.addL zs' κ { bx:=upd m.bx k none,al:=dropAll m.al ks,us:=m.us }).bx k (some (Rz.toAL zs' κ)) }).bump κ:=fun _=>rfl
  refine ⟨fun j=>j=k∨j∈ks,fun j=>j=k∨j∈ks,fun m=>m.back κ k ks zs' r,fun _ h=>h,fun _ _=>.inl rfl,fun _ _=>.inl rfl,fun p hp hl j hj=>?_,rfl,fun m2 h2=>.call1 ha ((h2 k (.inl rfl)).1.trans hb) (toZL_congr (fun j hj=>h2 j (.inr hj)) hz) (fun j hj=>by rw [(h2 j (.inr hj)).2];exact hza j hj) hn hc hk hku,fun m=>?_,fun m j hj h=>?_,fun m m2 j h=>?_⟩
  ·rcases hj with rfl|hj
   ·obtain ⟨o,ho⟩:=hku
    obtain ⟨x,hx,e⟩:=List.mem_map.1 ho
    have:=hp x (by simp [Op.operands,Call.operands,Array.mem_toList_iff.1 hx])
    rw [e] at this
    exact lt_ptr_iff.1 this
   ·obtain ⟨o,ho⟩:=hku
    obtain ⟨x,hx,e⟩:=List.mem_map.1 ho
    have:=hp x (by simp [Op.operands,Call.operands,Array.mem_toList_iff.1 hx])
    rw [e] at this
    exact toZL_lt hz (hl k cs (lt_ptr_iff.1 this) (.inl rfl) hb) j hj
  ·rw [hT]
   funext j
   apply propext
   show Eng.bump (r.add _ _).us κ j↔Eng.bump m.us κ j
   unfold Eng.bump
   rw [add_us]
   have h2:(Rz.addL zs' κ { bx:=upd m.bx k none,al:=dropAll m.al ks,us:=m.us }).us j↔m.us j∨(κ≤j∧j<κ+Rz.nkL zs'):=Rz.addedL_us zs' κ _ j
   show ((Rz.addL zs' κ { bx:=upd m.bx k none,al:=dropAll m.al ks,us:=m.us }).us j∨_)∨_↔_
   rw [h2]
   by_cases hp:m.us j
   ·simp [hp]
   ·simp only [hp,false_or];omega
  ·rw [hT]
   have hjk:j≠k:=fun e=>hj (.inl e)
   have hjs:j∉ks:=fun e=>hj (.inr e)
   have a0:SameAt m { bx:=upd m.bx k none,al:=dropAll m.al ks,us:=m.us } j:=⟨upd_ne _ _ hjk,by simp [dropAll,hjs]⟩
   have a1:=Rz.addL_out zs' κ { bx:=upd m.bx k none,al:=dropAll m.al ks,us:=m.us } j (fun h'=>h (by unfold rng;omega))
   have a2:SameAt (Rz.addL zs' κ { bx:=upd m.bx k none,al:=dropAll m.al ks,us:=m.us }) { Rz.addL zs' κ { bx:=upd m.bx k none,al:=dropAll m.al ks,us:=m.us } with bx:=upd (Rz.addL zs' κ { bx:=upd m.bx k none,al:=dropAll m.al ks,us:=m.us }).bx k (some (Rz.toAL zs' κ)) } j:=⟨upd_ne _ _ hjk,rfl⟩
   exact ((a0.trans a1).trans a2).trans (Rz.add_out r _ _ j fun h'=>h (by unfold rng;omega))
  ·rw [hT,hT]
   have a0:SameAt { bx:=upd m.bx k none,al:=dropAll m.al ks,us:=m.us } { bx:=upd m2.bx k none,al:=dropAll m2.al ks,us:=m2.us } j:=⟨upd_at h.1,by simp only [dropAll];split<;>first|rfl|exact h.2⟩
   have a1:=Rz.addL_at zs' κ _ _ j a0
   exact Rz.add_at r _ _ _ j ⟨upd_at a1.1,a1.2⟩

end Go.Proofs.YtaammoodcgfhpaaDoor.Eng
namespace Go.Proofs.YtaammoodcgfhpaaDoor.Eng
open Go Go.RowKit

structure Good (fr:Nat→A) (m:Mem):Prop where
 fr:∀ t,(fr t).lt m.us
 lv:∀ k,m.live k→m.us k
 bx:∀ k cs,m.bx k=some cs→A.ltL m.us cs

theorem ev_updD {fr:Nat→A}{d:Option Nat}{v:A}{x:Operand} (h:∀ y,d=some y→x≠.tmp y):ev (updD fr d v) x=ev fr x:=by
 cases d with
 | none=>rfl
 | some y=>
  cases x with
  | tmp t=>exact upd_ne _ _ fun e=>h y rfl (by rw [e])
  | _=>rfl
theorem updD_comm {fr:Nat→A}{d d':Option Nat}{v v':A} (h:∀ y,d=some y→d'≠some y):updD (updD fr d v) d' v'=updD (updD fr d' v') d v:=by
 cases d with
 | none=>cases d'<;>rfl
 | some y=>
  cases d' with
  | none=>rfl
  | some y'=>
   have hne:y≠y':=fun e=>h y rfl (by rw [e])
   funext t
   simp only [updD,upd]
   by_cases h1:t=y
   ·subst h1;simp [hne]
   ·by_cases h2:t=y'
    ·subst h2;simp [h1]
    ·simp [h1,h2]

abbrev skipA:A:=.d (.v (.tuple #[]))
inductive Ex (P:Program) (N:Nat) (ops:Array Oper) (κ c:Nat) (o:Oper) (fr:Nat→A) (m:Mem):(Nat→A)→Mem→Prop
 | run {v:A}{m':Mem} (hw:∀ g want,o.guard=some (g,want)→∃ t,(ops[g]?).bind (·.dst)=some t∧fr t=.d (.v (.bool want))) (h:NR P N (ev fr) m κ c o.op v m'):Ex P N ops κ c o fr m (updD fr o.dst v) m'
 | skip {g:Nat}{want:Bool}{u:Value}{t:Nat} (hg:o.guard=some (g,want)) (ht:(ops[g]?).bind (·.dst)=some t) (hb:fr t=.d (.v u)) (hne:u≠.bool want) (hc:c=0):Ex P N ops κ c o fr m (updD fr o.dst skipA) (m.bump κ)

def apart (ops:Array Oper) (x y:Oper):Bool:=x.apart ops y
theorem apart_guard {ops:Array Oper}{x y:Oper} (h:x.apart ops y=true) {g:Nat}{want:Bool}{t d:Nat} (hg:y.guard=some (g,want)) (ht:(ops[g]?).bind (·.dst)=some t) (hd:x.dst=some d):t≠d:=fun e=>by
 obtain ⟨h1,_,_⟩:=Oper.apart_spec h
 refine h1 d hd ?_
 subst e
 simp [Oper.looksAt,hg,ht]
theorem apart_op {ops:Array Oper}{x y:Oper} (h:x.apart ops y=true) {z:Operand} (hz:z∈y.op.operands) {d:Nat} (hd:x.dst=some d):z≠.tmp d:=fun e=>by
 obtain ⟨h1,_,_⟩:=Oper.apart_spec h
 refine h1 d hd ?_
 subst e
 exact List.mem_append_left _ (List.mem_filterMap.2 ⟨.tmp d,by simpa using hz,rfl⟩)
theorem apart_symm {ops:Array Oper}{x y:Oper} (h:x.apart ops y=true):y.apart ops x=true:=by
 obtain ⟨h1,h2,h3⟩:=Oper.apart_spec h
 unfold Oper.apart
 simp only [Bool.and_eq_true]
 constructor
 ·cases hy:y.dst with
  | none=>rfl
  | some d=>
   simp only [Bool.and_eq_true,bne_iff_ne,Bool.not_eq_true',List.contains_eq_mem,decide_eq_false_iff_not]
   exact ⟨h3 d hy,fun e=>h2 d e hy⟩
 ·cases hx:x.dst with
  | none=>rfl
  | some d=>
   simp only [Bool.not_eq_true',List.contains_eq_mem,decide_eq_false_iff_not]
   exact h1 d hx

theorem fr_updD {fr:Nat→A}{d:Option Nat}{v:A}{t:Nat} (h:∀ y,d=some y→t≠y):updD fr d v t=fr t:=by
 cases d with
 | none=>rfl
 | some y=>exact upd_ne _ _ (h y rfl)

def clOk (c c':Nat):Prop:=∀ k,¬((c=3∨c=5+2*k)∧(c'=3∨c'=4+2*k∨c'=5+2*k))∧¬((c'=3∨c'=5+2*k)∧(c=3∨c=4+2*k∨c=5+2*k))
def clB (c c':Nat):Bool:=c==0 || c'==0 || c==2 || c'==2 || (c != 3 && c' != 3 && ((c % 2==0 && c' % 2==0) || c / 2 != c' / 2))
theorem clB_ok {c c':Nat} (h:clB c c'=true):clOk c c':=fun k=>by
 unfold clB at h
 simp only [Bool.or_eq_true,Bool.and_eq_true,beq_iff_eq,bne_iff_ne] at h
 omega

theorem mem_ext {m m':Mem} (h:∀ k,SameAt m m' k) (hu:m'.us=m.us):m'=m:=by
 cases m;cases m'
 simp only [Mem.mk.injEq]
 exact ⟨funext fun k=>(h k).1,funext fun k=>(h k).2,hu⟩

theorem NR.swap {P:Program}{N:Nat}{ρ ρ':Operand→A}{m m1 m2:Mem}{κ κ' c c':Nat}{op op':Op}{v v':A} (hbx:∀ k cs,m.bx k=some cs→A.ltL m.us cs) (hfr:∀ x∈op.operands,(ρ x).lt m.us) (hfr':∀ x∈op'.operands,(ρ' x).lt m.us) (hκ:m.fresh κ) (hκ':m.fresh κ')
  (hd:∀ k,rng κ k→¬rng κ' k) (hcl:clOk c c') (h:NR P N ρ m κ c op v m1) (h':NR P N ρ' m1 κ' c' op' v' m2):∃ m1',NR P N ρ' m κ' c' op' v' m1'∧NR P N ρ m1' κ c op v m2:=by
 obtain ⟨Rd,Wr,T,L⟩:=h.loc
 obtain ⟨Rd',Wr',T',L'⟩:=h'.loc
 have hRd:∀ k,Rd k→m.us k:=L.men m.us hfr fun k cs _ _=>hbx k cs
 have hnr:∀ k,m.us k→¬rng κ k:=fun k hk hr=>hκ k hr.1 hr.2 hk
 have hnr':∀ k,m.us k→¬rng κ' k:=fun k hk hr=>hκ' k hr.1 hr.2 hk
 have hWR:∀ k,Wr k→¬Rd' k:=fun k hk hk'=>by
  exact (hcl k).1 ⟨L.cl k hk,L'.rd k hk'⟩
 have hWR':∀ k,Wr' k→¬Rd k:=fun k hk hk'=>by
  exact (hcl k).2 ⟨L'.cl k hk,L.rd k hk'⟩
 have hm1:m1=T m:=L.eq
 have hm2:m2=T' (T m):=by rw [L'.eq,hm1]
 have hsame:∀ k,m.us k→¬Wr k→SameAt m m1 k:=fun k hu hw=>by
  rw [hm1]
  exact L.out m k hw (hnr k hu)
 -- what the later one reads was there before
 have hRd':∀ k,Rd' k→m.us k:=L'.men m.us hfr' fun k cs hu hk hb=>hbx k cs (by rw [←(hsame k hu fun hw=>hWR k hw hk).1];exact hb)
 have h1':=L'.tr m fun k hk=>(hsame k (hRd' k hk) fun hw=>hWR k hw hk).symm
 have hWr':∀ k,Wr' k→m.us k:=fun k hk=>hRd' k (L'.sub k hk)
 have hWr:∀ k,Wr k→m.us k:=fun k hk=>hRd k (L.sub k hk)
 have h2':=L.tr (T' m) fun k hk=>L'.out m k (fun hw=>hWR' k hw hk) (hnr' k (hRd k hk))
 refine ⟨T' m,h1',?_⟩
 have e:T (T' m)=m2:=by
  rw [hm2]
  refine mem_ext (fun k=>?_) ?_
  ·by_cases hk:Wr' k∨rng κ' k
   ·have h3:¬Wr k:=fun hw=>hk.elim (fun h=>hWR' k h (L.sub k hw)) (hnr' k (hWr k hw))
    have h4:¬rng κ k:=fun hr=>hk.elim (fun h=>hnr k (hWr' k h) hr) (hd k hr)
    exact (L'.pw _ _ k (L.out m k h3 h4)).symm.trans (L.out (T' m) k h3 h4)
   ·have h3:¬Wr' k:=fun h=>hk (.inl h)
    have h4:¬rng κ' k:=fun h=>hk (.inr h)
    exact (L'.out (T m) k h3 h4).symm.trans (L.pw _ _ k (L'.out m k h3 h4))
  ·rw [L.us,L'.us,L'.us,L.us]
   exact bump_bump
 rw [e] at h2'
 exact h2'

theorem Ex.swap {P:Program}{N:Nat}{ops:Array Oper}{κ κ' c c':Nat}{o o':Oper}{fr fr1 fr2:Nat→A}{m m1 m2:Mem} (hg:Good fr m) (hκ:m.fresh κ) (hκ':m.fresh κ') (hd:∀ k,rng κ k→¬rng κ' k) (hcl:clOk c c') (hap:o.apart ops o'=true)
  (h:Ex P N ops κ c o fr m fr1 m1) (h':Ex P N ops κ' c' o' fr1 m1 fr2 m2):∃ fr1' m1',Ex P N ops κ' c' o' fr m fr1' m1'∧Ex P N ops κ c o fr1' m1' fr2 m2:=by
 obtain ⟨a1,a2,a3⟩:=Oper.apart_spec hap
 have hev:∀ (v:A) x,x∈o'.op.operands→ev (updD fr o.dst v) x=ev fr x:=fun v x hx=>ev_updD fun y hy=>apart_op hap hx hy
 have hev':∀ (v:A) x,x∈o.op.operands→ev (updD fr o'.dst v) x=ev fr x:=fun v x hx=>ev_updD fun y hy=>apart_op (apart_symm hap) hx hy
 have hgd:∀ (v:A) g want t,o'.guard=some (g,want)→(ops[g]?).bind (·.dst)=some t→updD fr o.dst v t=fr t:=fun v g want t hg' ht=>fr_updD fun y hy=>apart_guard hap hg' ht hy
 have hgd':∀ (v:A) g want t,o.guard=some (g,want)→(ops[g]?).bind (·.dst)=some t→updD fr o'.dst v t=fr t:=fun v g want t hg' ht=>fr_updD fun y hy=>apart_guard (apart_symm hap) hg' ht hy
 have hlt:∀ x,(ev fr x).lt m.us:=ev_lt hg.fr
 cases h with
 | @run v _ hw h=>
  cases h' with
  | @run v' _ hw' h'=>
   have h'':=NR.congr (ρ':=ev fr) (fun x hx=>hev v x hx) h'
   obtain ⟨m1',k1,k2⟩:=NR.swap hg.bx (fun x _=>hlt x) (fun x _=>hlt x) hκ hκ' hd hcl h h''
   refine ⟨_,m1',.run (fun g want hg'=>?_) k1,?_⟩
   ·obtain ⟨t,ht,e⟩:=hw' g want hg'
    exact ⟨t,ht,by rw [←e,hgd v g want t hg' ht]⟩
   ·rw [updD_comm a2]
    exact .run (fun g want hg'=>by
     obtain ⟨t,ht,e⟩:=hw g want hg'
     exact ⟨t,ht,by rw [hgd' v' g want t hg' ht,e]⟩) (NR.congr (fun x hx=>(hev' v' x hx).symm) k2)
  | @skip g want b t hg' ht hb hne hc=>
   rw [hgd v g want t hg' ht] at hb
   refine ⟨_,_,.skip hg' ht hb hne hc,?_⟩
   rw [updD_comm a2]
   obtain ⟨Rd,Wr,T,L⟩:=h.loc
   have k2:=L.tr (m.bump κ') fun k _=>⟨rfl,rfl⟩
   have e:T (m.bump κ')=m1.bump κ':=by
    rw [L.eq]
    refine mem_ext (fun k=>(L.pw _ _ k ⟨rfl,rfl⟩:SameAt (T m) (T (m.bump κ')) k)) ?_
    rw [L.us]
    show Eng.bump (Eng.bump m.us κ') κ=Eng.bump (T m).us κ'
    rw [L.us]
    exact bump_bump
   rw [e] at k2
   exact .run (fun g want hg'=>by
     obtain ⟨t,ht,e⟩:=hw g want hg'
     exact ⟨t,ht,by rw [hgd' skipA g want t hg' ht,e]⟩) (NR.congr (fun x hx=>(hev' skipA x hx).symm) k2)
 | @skip g want b t hg' ht hb hne hc=>
  cases h' with
  | @run v' _ hw' h'=>
   have h'':=NR.congr (ρ':=ev fr) (fun x hx=>hev skipA x hx) h'
   obtain ⟨Rd,Wr,T,L⟩:=h''.loc
   have k1:=L.tr m fun k _=>⟨rfl,rfl⟩
   have e:m2=(T m).bump κ:=by
    rw [L.eq]
    refine mem_ext (fun k=>(L.pw m (m.bump κ) k ⟨rfl,rfl⟩:SameAt (T m) (T (m.bump κ)) k)) ?_
    rw [L.us]
    show Eng.bump (Eng.bump m.us κ) κ'=Eng.bump (T m).us κ
    rw [L.us]
    exact bump_bump
   refine ⟨_,T m,.run (fun g want hg''=>?_) k1,?_⟩
   ·obtain ⟨t,ht,e⟩:=hw' g want hg''
    exact ⟨t,ht,by rw [←e,hgd skipA g want t hg'' ht]⟩
   ·rw [updD_comm a2,e]
    exact .skip hg' ht (by rw [hgd' v' g want t hg' ht];exact hb) hne hc
  | @skip g' want' b' t' hg'' ht' hb' hne' hc'=>
   rw [hgd skipA g' want' t' hg'' ht'] at hb'
   refine ⟨_,_,.skip hg'' ht' hb' hne' hc',?_⟩
   rw [updD_comm a2]
   have e:(m.bump κ).bump κ'=(m.bump κ').bump κ:=by
    unfold Mem.bump
    simp only
    rw [bump_bump]
   rw [e]
   exact .skip hg' ht (by rw [hgd' skipA g want t hg' ht];exact hb) hne hc

end Go.Proofs.YtaammoodcgfhpaaDoor.Eng
namespace Go.Proofs.YtaammoodcgfhpaaDoor.Eng
open Go Go.RowKit

/-! ### What is good stays good -/
mutual
theorem Rz.add_bx:∀ (z:Rz) (κ:Nat) (m:Mem) (k:Nat) (cs:List A),(z.add κ m).bx k=some cs→m.bx k=some cs∨∃ ds:List D,cs=ds.map .d
 | .d _,_,_,_,_,h=>.inl h
 | .own _ _ _,_,_,_,_,h=>.inl h
 | .box ds,κ,m,k,cs,h=>by
  unfold Rz.add at h
  by_cases e:k=κ
  ·subst e
   simp only [upd_same,Option.some.injEq] at h
   exact .inr ⟨ds,h.symm⟩
  ·rw [show ({ m with bx:=upd m.bx κ (some (ds.map .d)),us:=fun k=>m.us k∨k=κ }:Mem).bx k=m.bx k from upd_ne _ _ e] at h
   exact .inl h
 | .arr _ _ ds,κ,m,k,cs,h=>by
  unfold Rz.add at h
  by_cases e:k=κ
  ·subst e
   simp only [upd_same,Option.some.injEq] at h
   exact .inr ⟨ds,h.symm⟩
  ·rw [show ({ m with bx:=upd m.bx κ (some (ds.map .d)),us:=fun k=>m.us k∨k=κ }:Mem).bx k=m.bx k from upd_ne _ _ e] at h
   exact .inl h
 | .agg zs,κ,m,k,cs,h=>Rz.addL_bx zs κ m k cs h
 | .tup zs,κ,m,k,cs,h=>Rz.addL_bx zs κ m k cs h
theorem Rz.addL_bx:∀ (zs:List Rz) (κ:Nat) (m:Mem) (k:Nat) (cs:List A),(Rz.addL zs κ m).bx k=some cs→m.bx k=some cs∨∃ ds:List D,cs=ds.map .d
 | [],_,_,_,_,h=>.inl h
 | z::zs,κ,m,k,cs,h=>by
  unfold Rz.addL at h
  rcases Rz.addL_bx zs _ _ k cs h with h|h
  ·exact Rz.add_bx z κ m k cs h
  ·exact .inr h
end
theorem ltL_d {n:Nat→Prop}:∀ ds:List D,A.ltL n (ds.map .d)
 | []=>by unfold List.map A.ltL;trivial
 | d::ds=>by unfold List.map A.ltL;exact ⟨by unfold A.lt;trivial,ltL_d ds⟩
mutual
theorem Rz.toA_lt {p:Nat→Prop}:∀ (z:Rz) (κ:Nat),(∀ k,κ≤k→k<κ+z.nk→p k)→(z.toA κ).lt p
 | .d _,_,_=>by unfold Rz.toA A.lt;trivial
 | .own _ _ _,κ,h=>by unfold Rz.toA A.lt;exact h κ (Nat.le_refl _) (by unfold Rz.nk;omega)
 | .box _,κ,h=>by unfold Rz.toA A.lt;exact h κ (Nat.le_refl _) (by unfold Rz.nk;omega)
 | .arr _ _ _,κ,h=>by unfold Rz.toA A.lt;exact h κ (Nat.le_refl _) (by unfold Rz.nk;omega)
 | .agg zs,κ,h=>by unfold Rz.toA;exact mkAgg_lt (Rz.toAL_lt zs κ (by unfold Rz.nk at h;exact h))
 | .tup zs,κ,h=>by unfold Rz.toA;exact mkTup_lt (Rz.toAL_lt zs κ (by unfold Rz.nk at h;exact h))
theorem Rz.toAL_lt {p:Nat→Prop}:∀ (zs:List Rz) (κ:Nat),(∀ k,κ≤k→k<κ+Rz.nkL zs→p k)→A.ltL p (Rz.toAL zs κ)
 | [],_,_=>by unfold Rz.toAL A.ltL;trivial
 | z::zs,κ,h=>by
  unfold Rz.nkL at h
  unfold Rz.toAL A.ltL
  exact ⟨Rz.toA_lt z κ fun k h1 h2=>h k h1 (by omega),Rz.toAL_lt zs _ fun k h1 h2=>h k (by omega) (by omega)⟩
end
theorem live_same {m m':Mem}{k:Nat} (h:SameAt m m' k) (hl:m'.live k):m.live k:=by
 unfold Mem.live at hl ⊢
 rw [h.1,h.2] at hl
 exact hl
theorem vlt {P:Program}{fr:Nat→A}{m:Mem}{op:Op}{v:A} (hg:Good fr m) (h:VStep P (ev fr) m.bx op (·=v)):v.lt m.us:=by
 obtain ⟨v', e, h1, h2⟩ := vstep_sound (o := { dst := none, op := op, type := 0, pos := "", after := #[], guard := none }) h
 subst e
 exact h2 m.us (ev_lt hg.fr) hg.bx

theorem NR.good {P:Program}{N:Nat}{fr:Nat→A}{m m':Mem}{κ c:Nat}{op:Op}{v:A} (hg:Good fr m) (h:NR P N (ev fr) m κ c op v m'):v.lt m'.us∧(∀ k cs,m'.bx k=some cs→A.ltL m'.us cs)∧∀ k,m'.live k→m'.us k:=by
 have hev:=ev_lt hg.fr
 have hbx:∀ k cs,m.bx k=some cs→A.ltL (Eng.bump m.us κ) cs:=fun k cs hb=>A.ltL.mono (fun _ h=>.inl h) _ (hg.bx k cs hb)
 have hlv:∀ k,m.live k→Eng.bump m.us κ k:=fun k hk=>.inl (hg.lv k hk)
 have hκ:Eng.bump m.us κ κ:=.inr (by omega)
 obtain ⟨Rd,Wr,T,L⟩:=h.loc
 have hou:∀ k,¬Wr k→¬rng κ k→SameAt m m' k:=fun k h1 h2=>by rw [L.eq];exact L.out m k h1 h2
 have hus:m'.us=Eng.bump m.us κ:=by rw [L.eq];exact L.us m
 have hlive:(∀ k,Wr k→m.us k)→∀ k,m'.live k→m'.us k:=fun hw k hk=>by
  rw [hus]
  by_cases h1:Wr k
  ·exact .inl (hw k h1)
  ·by_cases h2:rng κ k
   ·exact .inr h2
   ·exact hlv k (live_same (hou k h1 h2) hk)
 have hWr:∀ k,Wr k→m.us k:=fun k hk=>L.men m.us (fun x _=>hev x) (fun k cs _ _=>hg.bx k cs) k (L.sub k hk)
 refine ⟨?_,?_,hlive hWr⟩
 ·rw [hus]
  cases h with
  | v0 hl h=>exact A.lt.mono (fun _ h=>.inl h) _ (vlt hg h)
  | v1 hx h=>exact A.lt.mono (fun _ h=>.inl h) _ (vlt hg h)
  | box h=>exact lt_ptr hκ
  | alloc h=>exact lt_ptr hκ
  | bslice hp hlen ht he hx hz hl=>exact lt_own hκ
  | bsliceA ht he hx hz hl=>unfold A.lt;exact hκ
  | call1z ha hb hc hk _=>exact Rz.toA_lt _ _ fun k h1 h2=>.inr (by omega)
  | call0 ha hc hk=>exact Rz.toA_lt _ _ fun k h1 h2=>.inr (by omega)
  | store ha hb hx ht hl=>unfold A.lt;trivial
  | appn ht he hs hx hm=>exact lt_own hκ
  | appo ht he hs hal hx hm=>exact lt_own hκ
  | call1 ha hb hz hza hn hc hk _=>exact Rz.toA_lt _ _ fun k h1 h2=>.inr (by omega)
  | call1r ha hb hc _=>unfold A.lt;trivial
  | callN ha hc hm=>unfold A.lt;trivial
  | call1w ha hb hc _=>unfold A.lt;trivial
  | call1c hcl ha hb hc _=>unfold A.lt;trivial
  | @iao t e e' x i k n z g kd es ht hk hx hi hn=>
   have:=hev x
   rw [hx] at this
   unfold A.lt at this ⊢
   exact .inl this
 ·rw [hus]
  cases h with
  | v0 hl h=>exact hbx
  | v1 hx h=>exact hbx
  | box h=>
   intro k cs hb
   by_cases e:k=κ
   ·subst e
    simp only [Mem.box,upd_same,Option.some.injEq] at hb
    subst hb
    exact A.ltL.mono (fun _ h=>.inl h) _ (cells1_lt h (hev _))
   ·simp only [Mem.box,upd_ne _ _ e] at hb
    exact hbx k cs hb
  | alloc h=>
   intro k cs hb
   by_cases e:k=κ
   ·subst e
    simp only [Mem.box,upd_same,Option.some.injEq] at hb
    subst hb
    exact ltL_v _
   ·simp only [Mem.box,upd_ne _ _ e] at hb
    exact hbx k cs hb
  | bslice hp hlen ht he hx hz hl=>exact hbx
  | callN ha hc hm=>exact hbx
  | bsliceA ht he hx hz hl=>
   intro k cs hb
   by_cases e:k=κ
   ·subst e
    simp only [Mem.box,upd_same,Option.some.injEq] at hb
    subst hb
    exact A.ltL.mono (fun _ h=>.inl h) _ (cells1_lt hx (hev _))
   ·simp only [Mem.box,upd_ne _ _ e] at hb
    exact hbx k cs hb
  | @call1z f xs ats ys k0 ds ds' r ha hb0 hc hk hku=>
   intro k cs hb
   rcases Rz.add_bx r κ _ k cs hb with hb|⟨ds,rfl⟩
   ·by_cases e:k=k0
    ·subst e
     simp only [Mem.put,upd_same,Option.some.injEq] at hb
     subst hb
     exact ltL_d _
    ·simp only [Mem.put,upd_ne _ _ e] at hb
     exact hbx k cs hb
   ·exact ltL_d ds
  | call0 ha hc hk=>
   intro k cs hb
   rcases Rz.add_bx _ _ _ k cs hb with hb|⟨ds,rfl⟩
   ·exact hbx k cs hb
   ·exact ltL_d ds
  | @store t ad x k0 off cs0 xs g ha hb0 hx ht hl=>
   intro k cs hb
   by_cases e:k=k0
   ·subst e
    simp only [Mem.bump,Mem.put,upd_same,Option.some.injEq] at hb
    subst hb
    exact ltL_append (ltL_append (ltL_take _ (hbx k _ hb0)) (A.ltL.mono (fun _ h=>.inl h) _ (cells1_lt hx (hev _)))) (ltL_drop _ (hbx k _ hb0))
   ·simp only [Mem.bump,Mem.put,upd_ne _ _ e] at hb
    exact hbx k cs hb
  | appn ht he hs hx hm=>exact hbx
  | appo ht he hs hal hx hm=>exact hbx
  | call1r ha hb hc _=>exact hbx
  | iao ht hk hx hi hn=>exact hbx
  | @call1w f xs ats ys k0 ds ds' x ha hb0 hc hku=>
   intro k cs hb
   by_cases e:k=k0
   ·subst e
    simp only [Mem.bump,Mem.put,upd_same,Option.some.injEq] at hb
    subst hb
    exact ltL_d _
   ·simp only [Mem.bump,Mem.put,upd_ne _ _ e] at hb
    exact hbx k cs hb
  | @call1c c f fs cl xs ats ys k0 ds ds' x hcl ha hb0 hc hku=>
   intro k cs hb
   by_cases e:k=k0
   ·subst e
    simp only [Mem.bump,Mem.put,upd_same,Option.some.injEq] at hb
    subst hb
    exact ltL_d _
   ·simp only [Mem.bump,Mem.put,upd_ne _ _ e] at hb
    exact hbx k cs hb
  | @call1 f xs ats ys cs0 k0 zs zs' ks r ha hb0 hz hza hn hc hk hku=>
   intro k cs hb
   rcases Rz.add_bx r (κ+Rz.nkL zs') _ k cs hb with hb|⟨ds,rfl⟩
   ·by_cases e:k=k0
    ·subst e
     simp only [upd_same,Option.some.injEq] at hb
     subst hb
     exact Rz.toAL_lt _ _ fun k h1 h2=>.inr (by omega)
    ·simp only [upd_ne _ _ e] at hb
     rcases Rz.addL_bx zs' κ _ k cs hb with hb|⟨ds,rfl⟩
     ·simp only [upd_ne _ _ e] at hb
      exact hbx k cs hb
     ·exact ltL_d ds
   ·exact ltL_d ds

section
variable {P:Program}{ops:Array Oper}
theorem Ex.us {N:Nat}{κ c:Nat}{o:Oper}{fr fr':Nat→A}{m m':Mem} (h:Ex P N ops κ c o fr m fr' m'):m'.us=Eng.bump m.us κ:=by
 cases h with
 | run hw h=>
  obtain ⟨Rd,Wr,T,L⟩:=h.loc
  rw [L.eq];exact L.us m
 | skip=>rfl
theorem updD_lt {fr:Nat→A}{d:Option Nat}{v:A}{p q:Nat→Prop} (h:∀ t,(fr t).lt p) (hpq:∀ k,p k→q k) (hv:v.lt q):∀ t,(updD fr d v t).lt q:=fun t=>by
 cases d with
 | none=>exact A.lt.mono hpq _ (h t)
 | some y=>
  simp only [updD]
  by_cases e:t=y
  ·subst e;rw [upd_same];exact hv
  ·rw [upd_ne _ _ e];exact A.lt.mono hpq _ (h t)
theorem Ex.good {N:Nat}{κ c:Nat}{o:Oper}{fr fr':Nat→A}{m m':Mem} (hg:Good fr m) (h:Ex P N ops κ c o fr m fr' m'):Good fr' m':=by
 have hu:=h.us
 have hmu:∀ k,m.us k→m'.us k:=fun k hk=>by rw [hu];exact .inl hk
 cases h with
 | run hw h=>
  obtain ⟨h1,h2,h3⟩:=h.good hg
  exact ⟨updD_lt hg.fr hmu h1,h3,h2⟩
 | skip hg' ht hb hne hc=>exact ⟨updD_lt hg.fr hmu (by unfold A.lt;trivial),fun k hk=>hmu k (hg.lv k hk),fun k cs hb=>A.ltL.mono hmu _ (hg.bx k cs hb)⟩

/-! ### Chains -/
structure It where
 i:Nat
 κ:Nat
 c:Nat
inductive Ch (P:Program) (N:Nat) (ops:Array Oper):List It→(Nat→A)→Mem→(Nat→A)→Mem→Prop
 | nil {fr:Nat→A}{m:Mem}:Ch P N ops [] fr m fr m
 | cons {x:It}{l:List It}{o:Oper}{fr fr1 fr2:Nat→A}{m m1 m2:Mem} (ho:ops[x.i]?=some o) (h:Ex P N ops x.κ x.c o fr m fr1 m1) (t:Ch P N ops l fr1 m1 fr2 m2):Ch P N ops (x::l) fr m fr2 m2
def Apt (ops:Array Oper) (x y:It):Prop:=∀ o o',ops[x.i]?=some o→ops[y.i]?=some o'→o.apart ops o'=true∧clOk x.c y.c
def Dis (x y:It):Prop:=∀ k,rng x.κ k→¬rng y.κ k
def Frs (l:List It) (m:Mem):Prop:=(∀ x∈l,m.fresh x.κ)∧l.Pairwise Dis
theorem Frs.tail {x:It}{l:List It}{κ:Nat}{m m1:Mem} (h:Frs (x::l) m) (e:κ=x.κ) (hu:m1.us=Eng.bump m.us κ):Frs l m1:=by
 obtain ⟨h1,h2⟩:=h
 rw [List.pairwise_cons] at h2
 refine ⟨fun y hy k hk1 hk2 hk=>?_,h2.2⟩
 rw [hu] at hk
 rcases hk with hk|hk
 ·exact h1 y (List.mem_cons_of_mem _ hy) k hk1 hk2 hk
 ·subst e
  exact h2.1 y hy k hk ⟨hk1,hk2⟩
theorem Ch.front {N:Nat}{x:It}{post:List It}:∀ {pre:List It}{fr fr':Nat→A}{m m':Mem},Good fr m→Frs (pre++x::post) m→(∀ y∈pre,Apt ops y x)→Ch P N ops (pre++x::post) fr m fr' m'→Ch P N ops (x::(pre++post)) fr m fr' m'
 | [],_,_,_,_,_,_,_,h=>h
 | y::pre,fr,fr',m,m',hg,hf,ha,h=>by
  cases h with
  | @cons _ _ o _ fr1 _ _ m1 _ ho hx t=>
   have t':=Ch.front (hx.good hg) (hf.tail rfl hx.us) (fun z hz=>ha z (List.mem_cons_of_mem _ hz)) t
   cases t' with
   | @cons _ _ o' _ fr2 _ _ m2 _ ho' hx' t'=>
    obtain ⟨q1,q2⟩:=ha y List.mem_cons_self o o' ho ho'
    have hd:Dis y x:=(List.pairwise_cons.1 hf.2).1 x (by simp)
    obtain ⟨fr3,m3,k1,k2⟩:=Ex.swap hg (hf.1 y (by simp)) (hf.1 x (by simp)) hd q2 q1 hx hx'
    exact .cons ho' k1 (.cons ho k2 t')
theorem Dis.symm {x y:It} (h:Dis x y):Dis y x:=fun k h1 h2=>h k h2 h1
theorem Frs.perm {l l':List It}{m:Mem} (h:Frs l m) (p:l.Perm l'):Frs l' m:=
 ⟨fun x hx=>h.1 x (p.mem_iff.2 hx),(p.pairwise_iff fun h=>Dis.symm h).1 h.2⟩

/-! ### What is ready -/
def reach (ops:Array Oper):Nat→Nat→Nat→Bool
 | 0,_,_=>false
 | n+1,j,i=>((ops[j]?).map fun o=>o.after.any fun e=>Region.binds .any e && (e.on==i || reach ops n e.on i)).getD false
def Closed (ops:Array Oper) (listed:Array Bool):Prop:=∀ j o,ops[j]?=some o→listed.getD j false=true→∀ e∈o.after,Region.binds .any e=true→listed.getD e.on false=true
theorem reach_listed {listed:Array Bool} (hc:Closed ops listed) {i:Nat}:∀ {n j:Nat}{o:Oper},ops[j]?=some o→reach ops n j i=true→(∀ e∈o.after,Region.binds .any e=true→listed.getD e.on false=true)→listed.getD i false=true
 | 0,_,_,_,h,_=>by unfold reach at h;cases h
 | n+1,j,o,ho,h,hl=>by
  unfold reach at h
  rw [ho] at h
  simp only [Option.map_some,Option.getD_some] at h
  obtain ⟨e,he,h⟩:=Array.any_eq_true'.1 h
  simp only [Bool.and_eq_true,Bool.or_eq_true,beq_iff_eq] at h
  obtain ⟨hb,h⟩:=h
  have hle:=hl e he hb
  rcases h with h|h
  ·rw [←h];exact hle
  ·cases ho':ops[e.on]? with
   | none=>
    cases n with
    | zero=>unfold reach at h;cases h
    | succ n=>unfold reach at h;rw [ho'] at h;cases h
   | some o'=>exact reach_listed hc ho' h fun e' he' hb'=>hc e.on o' ho' hle e' he' hb'
def okPair (ops:Array Oper) (x y:Nat × Nat):Bool:=reach ops ops.size y.1 x.1 || ((((ops[x.1]?).bind fun o=>(ops[y.1]?).map fun o'=>o.apart ops o').getD true) && clB x.2 y.2)
def okAll (ops:Array Oper):List (Nat × Nat)→Bool
 | []=>true
 | x::l=>l.all (okPair ops x) && okAll ops l

theorem okPair_apt {x y:It}{listed:Array Bool} (hc:Closed ops listed) (hx:listed.getD x.i true=false) (hy:y.i∈Region.ready .any ops listed) (h:okPair ops (x.i,x.c) (y.i,y.c)=true):Apt ops x y:=by
 obtain ⟨h0,o',ho',hal⟩:=mem_ready.1 hy
 unfold okPair at h
 rw [Bool.or_eq_true] at h
 rcases h with h|h
 ·have:=reach_listed hc ho' h hal
  rcases Nat.lt_or_ge x.i listed.size with h'|h'
  ·simp [h'] at hx this;rw [hx] at this;cases this
  ·simp [Array.getElem?_eq_none h'] at this
 ·simp only [Bool.and_eq_true] at h
  obtain ⟨h1,h2⟩:=h
  intro o o'' ho ho''
  rw [ho,ho''] at h1
  exact ⟨h1,clB_ok h2⟩

structure Left (ops:Array Oper) (listed:Array Bool) (l:List It):Prop where
 sz:listed.size=ops.size
 cl:Closed ops listed
 un:∀ i,listed.getD i true=false↔i∈l.map It.i
 st:l.Pairwise fun x y=>x.i<y.i
 ok:l.Pairwise fun x y=>okPair ops (x.i,x.c) (y.i,y.c)=true

theorem set_getD {listed:Array Bool}{i j:Nat} (h:i<listed.size):(listed.setIfInBounds i true).getD j true=false↔listed.getD j true=false∧j≠i:=by
 by_cases e:i=j
 ·subst e;simp [h]
 ·rw [getD_set_ne true e]
  exact ⟨fun h=>⟨h,fun e'=>e e'.symm⟩,And.left⟩
theorem getD_tf {listed:Array Bool}{i:Nat} (h:i<listed.size):listed.getD i true=listed.getD i false:=by simp [h]
def downs (ops:Array Oper):Bool:=(List.range ops.size).all fun i=>((ops[i]?).map fun o=>o.after.all fun e=>!Region.binds .any e || decide (e.on<i)).getD true
theorem downs_spec (h:downs ops=true) {i:Nat}{o:Oper} (ho:ops[i]?=some o):∀ e∈o.after,Region.binds .any e=true→e.on<i:=fun e he hb=>by
 unfold downs at h
 rw [List.all_eq_true] at h
 have:=h i (List.mem_range.2 (Array.getElem?_eq_some_iff.1 ho).1)
 rw [ho] at this
 simp only [Option.map_some,Option.getD_some] at this
 rw [Array.all_eq_true_iff_forall_mem] at this
 have:=this e he
 simpa [hb] using this
theorem Left.ready {listed:Array Bool}{l:List It} (h:Left ops listed l) (hd:downs ops=true) (hr:Region.ready .any ops listed=[]):l=[]:=by
 cases l with
 | nil=>rfl
 | cons x l=>
  have hx:listed.getD x.i true=false:=(h.un x.i).2 (by simp)
  have hlt:x.i<listed.size:=by
   rcases Nat.lt_or_ge x.i listed.size with h'|h'
   ·exact h'
   ·simp [Array.getElem?_eq_none h'] at hx
  have hlt':x.i<ops.size:=h.sz▸hlt
  have:x.i∈Region.ready .any ops listed:=mem_ready.2 ⟨hx,ops[x.i],Array.getElem?_eq_getElem hlt',fun e he hb=>by
   have hlo:=downs_spec hd (Array.getElem?_eq_getElem hlt') e he hb
   rw [←getD_tf (by omega)]
   cases hq:listed.getD e.on true with
   | true=>rfl
   | false=>
    have hm:=(h.un e.on).1 hq
    rcases List.mem_cons.1 hm with hm|hm
    ·omega
    ·obtain ⟨y,hy,hye⟩:=List.mem_map.1 hm
     have:=(List.pairwise_cons.1 h.st).1 y hy
     omega⟩
  rw [hr] at this
  cases this
theorem Left.set {listed:Array Bool}{pre post:List It}{x:It} (h:Left ops listed (pre++x::post)) (hr:x.i∈Region.ready .any ops listed):Left ops (listed.setIfInBounds x.i true) (pre++post):=by
 have hsub:List.Sublist (pre++post) (pre++x::post):=List.Sublist.append (List.Sublist.refl _) (List.sublist_cons_self _ _)
 obtain ⟨h0,ox,hox,hal⟩:=mem_ready.1 hr
 have hlt:x.i<listed.size:=by rw [h.sz];exact (Array.getElem?_eq_some_iff.1 hox).1
 have hst:=h.st
 rw [List.pairwise_append] at hst
 refine ⟨by simp [h.sz],fun j o ho hl e he hb=>?_,fun i=>?_,h.st.sublist hsub,h.ok.sublist hsub⟩
 ·by_cases hj:x.i=j
  ·subst hj
   rw [hox] at ho
   have:=Option.some.inj ho;subst this
   exact getD_set_true (hal e he hb)
  ·rw [getD_set_ne false hj] at hl
   exact getD_set_true (h.cl j o ho hl e he hb)
 ·rw [set_getD hlt,h.un]
  simp only [List.map_append,List.map_cons,List.mem_append,List.mem_cons]
  constructor
  ·rintro ⟨h1|h1|h1,h2⟩
   ·exact .inl h1
   ·exact absurd h1 h2
   ·exact .inr h1
  ·rintro (h1|h1)
   ·obtain ⟨y,hy,rfl⟩:=List.mem_map.1 h1
    have:=hst.2.2 y hy x List.mem_cons_self
    exact ⟨.inl h1,by omega⟩
   ·obtain ⟨y,hy,rfl⟩:=List.mem_map.1 h1
    have:=(List.pairwise_cons.1 hst.2.1).1 y hy
    exact ⟨.inr (.inr h1),by omega⟩

theorem f_yields {fr:Nat→A}{g t:Nat}{b:Bool}{G:Gh}{a:Act} (ht:(ops[g]?).bind (·.dst)=some t) (hb:fr t=.d (.v (.bool b))) (hr:∀ t,RepA G (fr t) (a.tmps.getD t undef)):yielded ops a.tmps g=some b:=by
 have h1:=hr t
 rw [hb] at h1
 unfold RepA RepD at h1
 unfold yielded
 simp only [ht]
 have h2:a.tmps.getD t undef=.bool b:=h1
 cases hq:a.tmps[t]? with
 | none=>
  rw [Array.getD_eq_getD_getElem?,hq] at h2
  simp [undef] at h2
 | some x=>
  rw [Array.getD_eq_getD_getElem?,hq] at h2
  simp only [Option.getD_some] at h2
  subst h2
  simp [hq]
theorem f_yieldsN {fr:Nat→A}{g t:Nat}{u:Value}{want:Bool}{G:Gh}{a:Act} (ht:(ops[g]?).bind (·.dst)=some t) (hb:fr t=.d (.v u)) (hne:u≠.bool want) (hr:∀ t,RepA G (fr t) (a.tmps.getD t undef)):yielded ops a.tmps g≠some want:=by
 have h1:=hr t
 rw [hb] at h1
 unfold RepA RepD at h1
 unfold yielded
 rw [ht]
 simp only [Option.bind_some]
 intro he
 rw [Array.getD_eq_getD_getElem?] at h1
 split at he
 ·rename_i b hb
  rw [hb] at h1
  simp only [Option.getD_some] at h1
  have:=Option.some.inj he
  subst this
  exact hne h1.symm
 ·cases he
theorem ex_wpOp {en:En}{Q:Exit→Act→World→Prop}{K:Act→World→Prop}{κ c i:Nat}{o:Oper}{fr fr':Nat→A}{m m':Mem}{a:Act}{w:World}{G:Gh} (ho:ops[i]?=some o) (hd:∀ x,o.dst=some x→x<en.sz) (hf:m.fresh κ) (hs:Sim en fr m a w G) (h:Ex P en.w.heap.size ops κ c o fr m fr' m')
  (hK:∀ a' w' G',Sim en fr' m' a' w' G'→K a' w'):wpOp P ops Q i K a w:=by
 unfold wpOp
 simp only [ho]
 cases h with
 | @run v _ hw h=>
  have hwt:Region.wanted o (yielded ops a.tmps)=true:=by
   unfold Region.wanted
   cases hg:o.guard with
   | none=>rfl
   | some gw=>
    obtain ⟨g,want⟩:=gw
    obtain ⟨t,ht,e⟩:=hw g want hg
    simp only
    rw [f_yields ht e hs.rep]
    simp
  rw [if_pos hwt]
  exact .inl (h.does hf G w a hs.fw.size hs.ok (ev_rep hs.ok.cok.gl hs.rep) (ev_lt hs.kf) K _ fun u w' G' he hok hv hl=>hK _ _ G' (hs.step he hok hd hv hl))
 | @skip g want b t hg ht hb hne hc=>
  have hwt:Region.wanted o (yielded ops a.tmps)=false:=by
   unfold Region.wanted
   rw [hg]
   simp only
   have:=f_yieldsN ht hb hne hs.rep
   simpa using this
  rw [if_neg (by rw [hwt];simp)]
  have he:Evo G w m G w (m.bump κ):=Evo.bump κ
  exact hK _ _ G (hs.step he (hs.ok.bump κ) hd (by unfold RepA RepD;rfl) (by unfold A.lt;trivial))

theorem any_chain {en:En}{Q:Exit→Act→World→Prop}{fr':Nat→A}{m':Mem} (hd:downs ops=true) (hQ:∀ a w G,Sim en fr' m' a w G→Q .normal a w) (hds:∀ (i:Nat) o,ops[i]?=some o→∀ x,o.dst=some x→x<en.sz) :
  ∀ (n:Nat) (l:List It) (listed:Array Bool) (fr:Nat→A) (m:Mem) (a:Act) (w:World) (G:Gh),l.length≤n→Left ops listed l→Frs l m→Ch P en.w.heap.size ops l fr m fr' m'→Sim en fr m a w G→wpAny P .any ops Q n listed a w
 | 0,l,listed,fr,m,a,w,G,hn,hl,hf,hc,hs=>by
  have:l=[]:=List.length_eq_zero_iff.1 (by omega)
  subst this
  cases hc with
  | nil=>
   refine ⟨?_,hQ _ _ G hs⟩
   cases hr:Region.ready .any ops listed with
   | nil=>rfl
   | cons j js=>
    have hj:j∈Region.ready .any ops listed:=by rw [hr];simp
    have:=(hl.un j).1 (mem_ready.1 hj).1
    simp at this
 | n+1,l,listed,fr,m,a,w,G,hn,hl,hf,hc,hs=>by
  refine ⟨fun hr=>?_,fun i hi=>?_⟩
  ·have:=hl.ready hd hr
   subst this
   cases hc with
   | nil=>exact hQ _ _ G hs
  ·have hm:=(hl.un i).1 (mem_ready.1 hi).1
   obtain ⟨x,hx,rfl⟩:=List.mem_map.1 hm
   obtain ⟨pre,post,rfl⟩:=List.append_of_mem hx
   have hg:Good fr m:=⟨hs.kf,hs.ok.lt,fun k cs hb=>by
    obtain ⟨_,_,_,h⟩:=hs.ok.box k cs hb
    exact h⟩
   have hap:∀ y∈pre,Apt ops y x:=fun y hy=>okPair_apt hl.cl ((hl.un y.i).2 (List.mem_map.2 ⟨y,by simp [hy],rfl⟩)) hi ((List.pairwise_append.1 hl.ok).2.2 y hy x (by simp))
   have hc':=hc.front hg hf hap
   have hl':=hl.set hi
   have hf':Frs (x::(pre++post)) m:=hf.perm List.perm_middle
   cases hc' with
   | @cons _ _ o _ fr1 _ _ m1 _ ho hex t=>
    refine ex_wpOp ho (hds _ o ho) (hf'.1 x (by simp)) hs hex fun a' w' G' hs'=>?_
    exact any_chain hd hQ hds n (pre++post) _ fr1 m1 a' w' G' (by simp only [List.length_append,List.length_cons] at hn ⊢;omega) hl' (hf'.tail rfl hex.us) t hs'
end
end Go.Proofs.YtaammoodcgfhpaaDoor.Eng
namespace Go.Proofs.YtaammoodcgfhpaaDoor.Eng
open Go Go.RowKit

section
variable {P:Program}{ρ:Operand→A}{bx:Nat→Option (List A)}{K:A→Prop}
theorem partA_det {k:Option (Bool × Nat)}{cs:List A} (h:partA k cs K):∃ v,K v∧partA k cs (·=v):=by
 unfold partA at h ⊢
 split at h
 ·exact ⟨_,h.2,h.1,rfl⟩
 ·split at h
  ·exact ⟨_,h,rfl⟩
  ·exact h.elim
 ·exact h.elim
theorem iBin_det {op:BinOp}{k:IntKind}{a b:Int} (h:iBin op k a b K):∃ v,K v∧iBin op k a b (·=v):=by
 unfold iBin at h ⊢
 split at h<;>first
  | exact h.elim
  | exact ⟨_,h,rfl⟩
  | exact ⟨_,h.2,h.1,rfl⟩
theorem shV_det {op:BinOp}{k:IntKind}{a b:Int} (h:shV op k a b K):∃ v,K v∧shV op k a b (·=v):=by
 unfold shV at h ⊢
 obtain ⟨h0,h⟩:=h
 split at h<;>first
  | exact h.elim
  | exact ⟨_,h,h0,rfl⟩
theorem sBin_det {op:BinOp}{a b:ByteArray} (h:sBin op a b K):∃ v,K v∧sBin op a b (·=v):=by
 unfold sBin at h ⊢
 split at h<;>first
  | exact h.elim
  | exact ⟨_,h,rfl⟩
  | exact ⟨_,h.2,h.1,rfl⟩
theorem nilBin_det {op:BinOp}{t:TypeId}{X:A}{y:Operand} (h:nilBin P op t X y K):∃ v,K v∧nilBin P op t X y (·=v):=by
 unfold nilBin at h ⊢
 split at h<;>first
  | exact h.elim
  | exact ⟨_,h.2,h.1,rfl⟩
theorem vstep_det {op:Op} (h:VStep P ρ bx op K):∃ v,K v∧VStep P ρ bx op (·=v):=by
 unfold VStep at h ⊢
 split at h
 ·exact ⟨_,h,rfl⟩
 ·exact ⟨_,h,rfl⟩
 ·unfold pickV at h ⊢
  split at h
  ·rename_i b hb
   cases b
   ·exact ⟨_,h.2 rfl,by simp [hb]⟩
   ·exact ⟨_,h.1 rfl,by simp [hb]⟩
  ·exact h.elim
 ·unfold nilV at h ⊢
  split at h<;>first
   | exact h.elim
   | exact ⟨_,h,rfl⟩
 ·unfold extV at h ⊢
  split at h<;>first
   | exact h.elim
   | (obtain ⟨c,h1,h2⟩:=h;exact ⟨_,h2,c,h1,rfl⟩)
 ·unfold fieldV at h ⊢
  split at h
  ·exact partA_det h
  ·exact h.elim
 ·unfold faddrV at h ⊢
  split at h
  ·obtain ⟨h0,h⟩:=h
   split at h<;>first
    | exact h.elim
    | exact ⟨_,h,h0,rfl⟩
  ·exact h.elim
 ·rcases h with h|h
  ·unfold iaddrV at h ⊢
   split at h
   ·obtain ⟨h0,h1,c,h2,h3⟩:=h
    exact ⟨_,h3,.inl ⟨h0,h1,c,h2,rfl⟩⟩
   ·exact h.elim
  ·unfold arrV at h ⊢
   split at h
   ·split at h
    ·obtain ⟨h0,h1,h2,h3,h4⟩:=h
     exact ⟨_,h4,.inr ⟨h0,h1,h2,h3,rfl⟩⟩
    ·exact h.elim
   ·split at h
    ·obtain ⟨h0,h1,h2,h3⟩:=h
     exact ⟨_,h3,.inr ⟨h0,h1,h2,rfl⟩⟩
    ·exact h.elim
   ·exact h.elim
 ·unfold indexV at h ⊢
  split at h
  ·obtain ⟨h0,h1,c,h2,h3⟩:=h
   exact ⟨_,h3,h0,h1,c,h2,rfl⟩
  ·exact h.elim
 ·unfold loadV at h ⊢
  split at h
  ·split at h
   ·exact partA_det h
   ·exact h.elim
  ·exact partA_det h
  ·exact h.elim
 ·unfold sliceV at h ⊢
  obtain ⟨hm,h⟩:=h
  split at h
  ·obtain ⟨h0,l,u,h1,h2,h3,h4,h5,h6⟩:=h
   exact ⟨_,h6,hm,h0,l,u,h1,h2,h3,h4,h5,rfl⟩
  ·rename_i x hx
   split at h
   ·obtain ⟨h0,l,u,h1,h2,h3,h4,h5,h6⟩:=h
    refine ⟨_,h6,hm,h0,l,u,h1,h2,h3,h4,h5,rfl⟩
   ·exact h.elim
 ·unfold binV at h ⊢
  split at h
  ·split at h
   ·exact shV_det h
   ·obtain ⟨h0,h⟩:=h
    obtain ⟨v,h1,h2⟩:=iBin_det h
    exact ⟨v,h1,h0,h2⟩
  ·split at h<;>first
    | exact h.elim
    | exact ⟨_,h.2,h.1,rfl⟩
  ·exact sBin_det h
  ·unfold aggBin at h ⊢
   split at h
   ·exact ⟨_,h,rfl⟩
   ·exact ⟨_,h,rfl⟩
   ·exact h.elim
  ·exact nilBin_det h
 ·unfold unV at h ⊢
  split at h<;>first
   | exact h.elim
   | exact ⟨_,h,rfl⟩
 ·unfold convV at h ⊢
  split at h
  ·obtain ⟨k,h1,h2,h3⟩:=h
   exact ⟨_,h3,k,h1,h2,rfl⟩
  ·obtain ⟨h1,h2,h3⟩:=h
   exact ⟨_,h3,h1,h2,rfl⟩
  ·obtain ⟨h1,h2,h3⟩:=h
   exact ⟨_,h3,h1,h2,rfl⟩
  ·split at h
   ·obtain ⟨h1,h2,h3⟩:=h
    exact ⟨_,h3,h1,h2,rfl⟩
   ·exact h.elim
 ·unfold mkIV at h ⊢
  split at h
  ·exact ⟨_,h.2,h.1,rfl⟩
  ·exact ⟨_,h.2,h.1,rfl⟩
  ·exact h.elim
 ·unfold mkFV at h ⊢
  split at h
  ·exact ⟨_,h,rfl⟩
  ·exact h.elim
 ·unfold callV lenV at h ⊢
  split at h
  ·split at h
   ·split at h
    ·exact ⟨_,h.2,h.1,rfl⟩
    ·exact h.elim
   ·exact h.elim
  ·exact h.elim
 ·obtain ⟨zs,pl,cs,h1,h2,h3,hK⟩:=h
  exact ⟨_,hK,zs,pl,cs,h1,h2,h3,rfl⟩
 ·exact h.elim
end

/-! ### One operation in a written state; its class -/
def LCall (P:Program) (s:St) (f:FuncId) (xs:List A) (d:Option Nat) (K:Nat→St→Prop):Prop:=
 ∃ ys r,argsOf none xs=some ys∧AC P f ys none (fun r' _=>r'=r)∧r.nk≤16∧K 2 (s.got r d)
def appL (s:St) (b:A) (e:TypeId) (z:Nat) (es2:List (List D)) (d:Option Nat) (K:Nat→St→Prop):Prop:=match b with
 | .d (.v (.slice none 0 0))=>es2.length≤268435456∧K 2 ({ s with al:=(s.nx,some (es2.length,e,z))::s.al,nx:=s.nx+16 }.set d (.own s.nx e z es2))
 | .own k e' z' es=>e'=e∧z'=z∧lk none s.al k=some (es.length,e,z)∧es.length+es2.length≤268435456∧K (5+2*k) ({ s with al:=(s.nx,some ((es++es2).length,e,z))::(k,none)::s.al,nx:=s.nx+16 }.set d (.own s.nx e z (es++es2)))
 | _=>False
def LCallB (P:Program) (s:St) (c:Call) (d:Option Nat) (K:Nat→St→Prop):Prop:=match c with
 | ⟨.builtin .append,args,ats⟩=>match args.toList,ats.toList with
  | [b,x],[t,t']=>t=t'∧∃ e z es2,tyElem P t=some e∧tyRow P e=some z∧elemsN z (ev s.f x)=some es2∧appL s (ev s.f b) e z es2 d K
  | _,_=>False
 | ⟨.value (.func f),args,_⟩=>LCall P s f (args.toList.map (ev s.f)) d K
 | c=>callV P (ev s.f) c fun v=>K 0 ({ s with nx:=s.nx+16 }.set d v)
def loadL (P:Program) (s:St) (t:TypeId) (x:A) (d:Option Nat) (K:Nat→St→Prop):Prop:=match x with
 | .ptr k o=>loadV P (lk none s.bx) t (.ptr k o) fun v=>K (4+2*k) ({ s with nx:=s.nx+16 }.set d v)
 | .d (.rp cs)=>loadV P (lk none s.bx) t (.d (.rp cs)) fun v=>K 0 ({ s with nx:=s.nx+16 }.set d v)
 | _=>False
def storeL (P:Program) (s:St) (t:TypeId) (ad x:A) (d:Option Nat) (K:Nat→St→Prop):Prop:=match ad with
 | .ptr k off=>∃ cs xs g,lk none s.bx k=some cs∧cells1 x=some xs∧tyK P t=some (g,xs.length)∧off+xs.length≤cs.length∧K (5+2*k) ({ s with bx:=(k,some (splice cs xs off))::s.bx,nx:=s.nx+16 }.set d .top)
 | _=>False
def LStep (P:Program) (s:St) (op:Op) (d:Option Nat) (K:Nat→St→Prop):Prop:=match op with
 | .box _ x=>∃ cs,cells1 (ev s.f x)=some cs∧K 2 ({ s with bx:=(s.nx,some cs)::s.bx,nx:=s.nx+16 }.set d (.ptr s.nx 0))
 | .alloc t=>∃ zs,tyZero P t=some zs∧K 2 ({ s with bx:=(s.nx,some (zs.map fun x=>.d (.v x)))::s.bx,nx:=s.nx+16 }.set d (.ptr s.nx 0))
 | .store t ad x=>storeL P s t (ev s.f ad) (ev s.f x) d K
 | .buildSlice t len parts=>∃ e z es,tyElem P t=some e∧tyRow P e=some z∧cellsDs (parts.toList.map fun x=>ev s.f x.2)=some es∧(∀ e∈es,e.length=z)∧len*z≤16777216∧
   (parts=(((parts.toList.map (·.2)).zipIdx).map fun (x,j)=>(j,x)).toArray∧len=(parts.toList.map (·.2)).length)∧K 2 ({ s with al:=(s.nx,some (es.length,e,z))::s.al,nx:=s.nx+16 }.set d (.own s.nx e z es))
 | .call c=>LCallB P s c d K
 | .load t x=>loadL P s t (ev s.f x) d K
 | op=>VStep P (ev s.f) (lk none s.bx) op fun v=>K 0 ({ s with nx:=s.nx+16 }.set d v)

theorem St.mem_bump (bx:List (Nat × Option (List A))) (al:List (Nat × Option (Nat × TypeId × Nat))) (fr:List (Nat × A)) (nx:Nat) (s:St) (h:nx=s.nx+16):({ fr:=fr,bx:=bx,al:=al,nx:=nx }:St).mem={ bx:=lk none bx,al:=lk none al,us:=Eng.bump s.mem.us s.nx }:=by
 subst h
 unfold St.mem
 simp only
 rw [bump_us]

theorem lstep_sound {P:Program}{N:Nat}{s:St}{op:Op}{d:Option Nat}{K:Nat→St→Prop} (h:LStep P s op d K):∃ (c:Nat) (v:A) (m':Mem) (s1:St),NR P N (ev s.f) s.mem s.nx c op v m'∧s1.mem=m'∧s1.nx=s.nx+16∧s1.fr=s.fr∧K c (s1.set d v):=by
 unfold LStep at h
 split at h
 ·obtain ⟨cs,h1,h2⟩:=h
  exact ⟨_,_,_,{ s with bx:=(s.nx,some cs)::s.bx,nx:=s.nx+16 },.box h1,by rw [St.mem_bump (s:=s) (h:=rfl),lk_cons];rfl,rfl,rfl,h2⟩
 ·obtain ⟨zs,h1,h2⟩:=h
  exact ⟨_,_,_,{ s with bx:=(s.nx,some (zs.map fun x=>.d (.v x)))::s.bx,nx:=s.nx+16 },.alloc h1,by rw [St.mem_bump (s:=s) (h:=rfl),lk_cons];rfl,rfl,rfl,h2⟩
 ·rename_i t ad x
  unfold storeL at h
  split at h
  ·rename_i k off hk
   obtain ⟨cs,xs,g,h1,h2,h3,h4,h5⟩:=h
   exact ⟨_,_,_,{ s with bx:=(k,some (splice cs xs off))::s.bx,nx:=s.nx+16 },.store hk h1 h2 h3 h4,by rw [St.mem_bump (s:=s) (h:=rfl),lk_cons];rfl,rfl,rfl,h5⟩
  ·exact h.elim
 ·rename_i t len parts
  obtain ⟨e,z,es,h1,h2,h3,h4,h5,⟨h6,h7⟩,h8⟩:=h
  exact ⟨_,_,_,{ s with al:=(s.nx,some (es.length,e,z))::s.al,nx:=s.nx+16 },.bslice h6 h7 h1 h2 (by rw [←h3,List.map_map];rfl) h4 h5,by rw [St.mem_bump (s:=s) (h:=rfl),lk_cons];rfl,rfl,rfl,h8⟩
 ·rename_i c
  unfold LCallB at h
  split at h
  ·rename_i args ats
   split at h
   ·rename_i b x t t' ha hat
    obtain ⟨rfl,e,z,es2,h1,h2,h3,h4⟩:=h
    have ea:args=#[b,x]:=by rw [←ha]
    have et:ats=#[t,t]:=by rw [←hat]
    subst ea et
    unfold appL at h4
    split at h4
    ·rename_i hb
     exact ⟨_,_,_,{ s with al:=(s.nx,some (es2.length,e,z))::s.al,nx:=s.nx+16 },.appn h1 h2 hb h3 h4.1,by rw [St.mem_bump (s:=s) (h:=rfl),lk_cons];rfl,rfl,rfl,h4.2⟩
    ·rename_i k e' z' es hb
     obtain ⟨rfl,rfl,q1,q2,q3⟩:=h4
     exact ⟨_,_,_,{ s with al:=(s.nx,some ((es++es2).length,_,_))::(k,none)::s.al,nx:=s.nx+16 },.appo h1 h2 hb q1 h3 q2,by rw [St.mem_bump (s:=s) (h:=rfl),lk_cons,lk_cons];rfl,rfl,rfl,q3⟩
    ·exact h4.elim
   ·exact h.elim
  ·rename_i f args ats
   obtain ⟨ys,r,h1,h2,h3,h4⟩:=h
   obtain ⟨a1,a2,a3,a4⟩:=Rz.addS_mem r s.nx s s.mem rfl rfl
   refine ⟨_,_,_,{ r.addS s.nx s with nx:=s.nx+16 },.call0 h1 h2 h3,?_,rfl,a3,h4⟩
   unfold St.mem Mem.bump
   rw [←a1,←a2]
   congr 1
   funext k
   apply propext
   have h5:(r.add s.nx s.mem).us k↔k<s.nx∨(s.nx≤k∧k<s.nx+r.nk):=a4 k
   show k<s.nx+16↔(r.add s.nx s.mem).us k∨(s.nx≤k∧k<s.nx+16)
   rw [h5]
   omega
  ·have h':VStep P (ev s.f) (lk none s.bx) (.call c) fun v=>K 0 ({ s with nx:=s.nx+16 }.set d v):=h
   obtain ⟨v,h1,h2⟩:=vstep_det h'
   exact ⟨_,_,_,{ s with nx:=s.nx+16 },.v0 (fun t x e=>by cases e) h2,by rw [St.mem_bump (s:=s) (h:=rfl)];rfl,rfl,rfl,h1⟩
 ·rename_i t x
  unfold loadL at h
  split at h
  ·rename_i k o hx
   have h':VStep P (ev s.f) (lk none s.bx) (.load t x) fun v=>K (4+2*k) ({ s with nx:=s.nx+16 }.set d v):=by show loadV P (lk none s.bx) t (ev s.f x) _;rw [hx];exact h
   obtain ⟨v,h1,h2⟩:=vstep_det h'
   exact ⟨_,_,_,{ s with nx:=s.nx+16 },.v1 hx h2,by rw [St.mem_bump (s:=s) (h:=rfl)];rfl,rfl,rfl,h1⟩
  ·rename_i cs hx
   have h':VStep P (ev s.f) (lk none s.bx) (.load t x) fun v=>K 0 ({ s with nx:=s.nx+16 }.set d v):=by show loadV P (lk none s.bx) t (ev s.f x) _;rw [hx];exact h
   obtain ⟨v,h1,h2⟩:=vstep_det h'
   exact ⟨_,_,_,{ s with nx:=s.nx+16 },.v0 (fun t x e=>by cases e;exact ⟨cs,hx⟩) h2,by rw [St.mem_bump (s:=s) (h:=rfl)];rfl,rfl,rfl,h1⟩
  ·exact h.elim
 ·rename_i op hne
  obtain ⟨v,h1,h2⟩:=vstep_det h
  exact ⟨_,_,_,{ s with nx:=s.nx+16 },.v0 (fun t x e=>by subst e;simp_all) h2,by rw [St.mem_bump (s:=s) (h:=rfl)];rfl,rfl,rfl,h1⟩

/-! ### All operations, as they stand -/
def OL (P:Program) (N:Nat) (ops:Array Oper):List Oper→List Nat→(List Nat→St→Prop)→St→Prop
 | [],acc,K,s=>K acc s
 | o::l,acc,K,s=>∃ (c:Nat) (s1:St),Ex P N ops s.nx c o s.f s.mem s1.f s1.mem∧s1.nx=s.nx+16∧OL P N ops l (acc++[c]) K s1

section
variable {P:Program}{en:En}{ops:Array Oper}{o:Oper}{l:List Oper}{acc:List Nat}{K:List Nat→St→Prop}{s:St}
theorem St.set_nx (s:St) (d:Option Nat) (v:A):(s.set d v).nx=s.nx:=by cases d<;>rfl
theorem ol_go {N:Nat} (hg:match o.guard with|none=>True|some (g,want)=>guardB s ops g=some want) (h:∀ K':Nat→St→Prop,(∀ c s1,OL P N ops l (acc++[c]) K s1→K' c s1)→LStep P s o.op o.dst K'):OL P N ops (o::l) acc K s:=by
 obtain ⟨c,v,m',s1,h1,h2,h3,h4,h5⟩:=lstep_sound (h _ fun _ _ h=>h)
 refine ⟨c,s1.set o.dst v,?_,(St.set_nx _ _ _).trans h3,h5⟩
 rw [St.set_f,St.set_mem,h2]
 have e:s1.f=s.f:=by unfold St.f;rw [h4]
 rw [e]
 refine .run (fun g want hg'=>?_) h1
 rw [hg'] at hg
 simp only at hg
 unfold guardB at hg
 split at hg
 ·rename_i t ht
  refine ⟨t,ht,?_⟩
  split at hg
  ·rename_i b hb
   rw [hb,Option.some.inj hg]
  ·cases hg
 ·cases hg
theorem ol_skip {N:Nat}{g:Nat}{want:Bool}{u:Value} (hg:o.guard=some (g,want)) (hb:guardV s ops g=some u) (hne:u≠.bool want) (h:OL P N ops l (acc++[0]) K ({ s with nx:=s.nx+16 }.set o.dst skipA)):OL P N ops (o::l) acc K s:=by
 refine ⟨0,_,?_,(St.set_nx _ _ _).trans rfl,h⟩
 rw [St.set_f,St.set_mem,St.mem_bump (s:=s) (h:=rfl)]
 obtain ⟨t,ht,hu⟩:=guardV_at hb
 exact .skip hg ht hu hne rfl
theorem ol_nil {N:Nat} (h:K acc s):OL P N ops [] acc K s:=h
theorem ol_chain {N:Nat}:∀ (l:List Oper) (acc:List Nat) (s:St),ops.toList.drop acc.length=l→OL P N ops l acc K s→
  ∃ (L:List It) (s':St),L.map It.i=List.range' acc.length l.length∧(∀ x∈L,s.nx+16*(x.i - acc.length)=x.κ)∧Ch P N ops L s.f s.mem s'.f s'.mem∧s'.nx=s.nx+16*l.length∧K (acc++L.map It.c) s'
 | [],acc,s,_,h=>⟨[],s,rfl,fun x hx=>(by cases hx),.nil,by simp,by simpa using (show K acc s from h)⟩
 | o::l,acc,s,hd,h=>by
  obtain ⟨c,s1,h1,h2,h3⟩:=h
  have hlt:acc.length<ops.toList.length:=by
   rcases Nat.lt_or_ge acc.length ops.toList.length with h|h
   ·exact h
   ·rw [List.drop_of_length_le h] at hd;cases hd
  have hd':=hd
  rw [List.drop_eq_getElem_cons hlt,List.cons.injEq] at hd'
  obtain ⟨L,s',k1,k2,k3,k4,k5⟩:=ol_chain l (acc++[c]) s1 (by rw [List.length_append,List.length_singleton];exact hd'.2) h3
  rw [List.length_append,List.length_singleton] at k1 k2
  refine ⟨⟨acc.length,s.nx,c⟩::L,s',?_,?_,?_,?_,?_⟩
  ·rw [List.map_cons,k1];rfl
  ·intro x hx
   rcases List.mem_cons.1 hx with rfl|hx
   ·simp
   ·have hm:x.i∈L.map It.i:=List.mem_map.2 ⟨x,hx,rfl⟩
    rw [k1,List.mem_range'] at hm
    obtain ⟨j,_,hj⟩:=hm
    rw [←k2 x hx,h2]
    omega
  ·refine .cons (o:=o) ?_ h1 k3
   show ops[acc.length]?=some o
   rw [←hd'.1,Array.getElem_toList]
   exact Array.getElem?_eq_getElem (by simpa using hlt)
  ·rw [k4,h2,List.length_cons];omega
  ·simpa using k5

def zipI:List Nat→Nat→List (Nat × Nat)
 | [],_=>[]
 | c::l,i=>(i,c)::zipI l (i+1)
theorem zipI_map:∀ (L:List It) (n:Nat),L.map It.i=List.range' n L.length→zipI (L.map It.c) n=L.map fun x=>(x.i,x.c)
 | [],_,_=>rfl
 | x::L,n,h=>by
  rw [List.map_cons,List.length_cons,List.range'_succ,List.cons.injEq] at h
  simp only [List.map_cons,zipI]
  rw [zipI_map L (n+1) h.2,h.1]
theorem okAll_pw:∀ {l:List (Nat × Nat)},okAll ops l=true→l.Pairwise fun x y=>okPair ops x y=true
 | [],_=>.nil
 | x::l,h=>by
  unfold okAll at h
  rw [Bool.and_eq_true,List.all_eq_true] at h
  exact .cons h.1 (okAll_pw h.2)
theorem range'_pw:∀ (n k:Nat),(List.range' n k).Pairwise (·<·)
 | _,0=>.nil
 | n,k+1=>by
  rw [List.range'_succ]
  refine .cons (fun j hj=>?_) (range'_pw (n+1) k)
  rw [List.mem_range'] at hj
  obtain ⟨i,_,rfl⟩:=hj
  omega

theorem aw_any {id:Nat}{K:Exit→St→Prop} (hm:P.follows .mixedOrders=true) (hd:downs ops=true) (hsz:ops.toList.all (fun o=>match o.dst with|some d=>decide (d<en.sz)|none=>true)=true)
  (h:OL P en.w.heap.size ops ops.toList [] (fun acc s'=>okAll ops (zipI acc 0)=true∧K .normal s') s):AWs P en (.region id ops true) K s:=fun a w ⟨G,hs⟩=>by
 obtain ⟨L,s',h1,h2,h3,h4,h5,h6⟩:=ol_chain ops.toList [] s rfl h
 simp only [List.length_nil,List.nil_append,Nat.sub_zero] at h1 h2 h5
 have hlen:L.length=ops.size:=by
  have:=congrArg List.length h1
  simpa using this
 have hx:∀ x∈L,∀ k,rng x.κ k→s.nx+16*x.i≤k∧k<s.nx+16*x.i+16:=fun x hx k hk=>by
  unfold rng at hk
  rw [←h2 x hx] at hk
  exact hk
 rw [zipI_map L 0 (by rw [h1,hlen];simp)] at h5
 have hpw:=okAll_pw h5
 rw [List.pairwise_map] at hpw
 have hst:L.Pairwise fun x y=>x.i<y.i:=by
  have:=range'_pw 0 ops.toList.length
  rw [←h1,List.pairwise_map] at this
  exact this
 refine wp_region_any hm ?_
 have hs':Sim en s.f s.mem a { w with drawn:=w.drawn+1 } G:=by
  have hcell:∀ ad,({ w with drawn:=w.drawn+1 }:World).cell? ad=w.cell? ad:=fun ad=>rfl
  exact ⟨⟨⟨hs.ok.cok.cell,hs.ok.cok.nf,hs.ok.cok.gl,hs.ok.cok.tb⟩,hs.ok.box,hs.ok.row,hs.ok.inj,hs.ok.lt,hs.ok.sep⟩,hs.rep,hs.kf,hs.sz,hs.df,⟨hs.fw.os,hs.fw.tape,hs.fw.output,hs.fw.size,hs.fw.block⟩,hs.c0,hs.c1,hs.lv,hs.e0,hs.p0,hs.ks,en.stab w _ (fun _ _=>rfl) hs.am,hs.az⟩
 refine any_chain hd (fun a' w' G' hs'=>⟨s',⟨G',hs'⟩,h6⟩) (fun i o ho x hx=>?_) ops.size L _ _ _ a _ G (by omega) ⟨by simp,?_,?_,hst,hpw⟩ ⟨fun x hxL k k1 k2 hk=>?_,?_⟩ h3 hs'
 ·rw [List.all_eq_true] at hsz
  have:=hsz o (by rw [Array.mem_toList_iff];exact Array.mem_of_getElem? ho)
  rw [hx] at this
  simpa using this
 ·intro j o ho hl
  by_cases hj:j<ops.size
  ·simp [hj] at hl
  ·simp [hj] at hl
 ·intro i
  rw [h1,List.mem_range']
  by_cases hi:i<ops.size
  ·simp only [hi,Array.getD_eq_getD_getElem?,Array.size_replicate,Array.getElem?_replicate,if_true,Option.getD_some,true_iff]
   exact ⟨i,by simpa using hi,by omega⟩
  ·simp only [hi,Array.getD_eq_getD_getElem?,Array.size_replicate,Array.getElem?_replicate,if_false,Option.getD_none,Bool.true_eq_false,false_iff]
   rintro ⟨j,hj,rfl⟩
   simp at hj
   omega
 ·have:=hx x hxL k ⟨k1,k2⟩
  have hk':k<s.nx:=hk
  omega
 ·refine hst.imp_of_mem ?_
  intro x y hxL hyL hlt k hk hk'
  have a1:=hx x hxL k hk
  have a2:=hx y hyL k hk'
  omega
end
end Go.Proofs.YtaammoodcgfhpaaDoor.Eng
