/-
 The engine, part 47: rows whose elements reach blocks of their own.
-/
import Derived.Test.YtomfggmmhkpeeaaGreatDoorKE41
set_option linter.unusedSimpArgs false
set_option linter.unusedVariables false
set_option linter.defProp false
set_option maxRecDepth 100000
set_option maxHeartbeats 4000000
namespace Go.Proofs.YtomfggmmhkpeeaaGreatDoor.Eng
open Go Go.RowKit

theorem RepCsF.list {C:CellR}{F:Nat→Prop}:∀ {cs:List D}{b o:Nat},RepCsF C F cs b o→∃ us,RepL (C.on F) cs us∧∀ (i:Nat) u,us[i]?=some u→C b (o+i) u
 | [],b,o,_=>⟨[],by simp [RepL],fun i u h=>by simp at h⟩
 | c::cs,b,o,h=>by
  unfold RepCsF at h
  obtain ⟨⟨u,h1,h2⟩,h3⟩:=h
  obtain ⟨us,k1,k2⟩:=h3.list
  refine ⟨u::us,by unfold RepL;exact ⟨u,us,rfl,h2,k1⟩,fun i v hv=>?_⟩
  cases i with
  | zero=>simp only [List.getElem?_cons_zero,Option.some.injEq] at hv;subst hv;simpa using h1
  | succ i=>rw [List.getElem?_cons_succ] at hv;have:=k2 i v hv;rwa [show o+(i+1)=o+1+i by omega]
theorem RepCsF.ofList {C:CellR}{F:Nat→Prop}:∀ {cs:List D}{us:List Value}{b o:Nat},RepL (C.on F) cs us→(∀ (i:Nat) u,us[i]?=some u→C b (o+i) u)→RepCsF C F cs b o
 | [],us,b,o,_,_=>by unfold RepCsF;trivial
 | c::cs,us,b,o,h,k=>by
  unfold RepL at h
  obtain ⟨u,us',rfl,h1,h2⟩:=h
  unfold RepCsF
  refine ⟨⟨u,by simpa using k 0 u rfl,h1⟩,RepCsF.ofList h2 fun i v hv=>?_⟩
  have:=k (i+1) v (by simpa using hv)
  rwa [show o+1+i=o+(i+1) by omega]
def SpL:CellR→Nat→List (List D)→List Value→Nat→Prop
 | _,_,[],us,_=>us=[]
 | C,z,e::es,us,b=>∃ F:Nat→Prop,¬F b∧e.length=z∧∃ u1 u2,us=u1++u2∧RepL (C.on F) e u1∧SpL (C.on fun q=>¬F q) z es u2 b
theorem SpL.mono {C C':CellR} (h:∀ b o u,C b o u→C' b o u) {z b:Nat}:∀ {es:List (List D)}{us:List Value},SpL C z es us b→SpL C' z es us b
 | [],us,k=>by unfold SpL at k ⊢;exact k
 | e::es,us,k=>by
  unfold SpL at k ⊢
  obtain ⟨F,h0,h1,u1,u2,h2,h3,h4⟩:=k
  exact ⟨F,h0,h1,u1,u2,h2,RepL.mono (fun b o u hc=>⟨h b o u hc.1,hc.2⟩) _ _ h3,SpL.mono (fun b o u hc=>⟨h b o u hc.1,hc.2⟩) h4⟩
theorem SpL.len {C:CellR}{z b:Nat}:∀ {es:List (List D)}{us:List Value},SpL C z es us b→us.length=es.length*z∧us.length=es.flatten.length∧∀ e∈es,e.length=z
 | [],us,k=>by unfold SpL at k;subst k;simp
 | e::es,us,k=>by
  unfold SpL at k
  obtain ⟨F,h0,h1,u1,u2,rfl,h3,h4⟩:=k
  obtain ⟨i1,i2,i3⟩:=SpL.len h4
  have:=h3.get.1
  refine ⟨by rw [List.length_append,List.length_cons,Nat.add_mul,i1];omega,by rw [List.length_append,List.flatten_cons,List.length_append,i2];omega,fun x hx=>?_⟩
  rcases List.mem_cons.1 hx with rfl|hx
  ·exact h1
  ·exact i3 x hx
theorem RepSp.list {z:Nat}:∀ {C:CellR}{es:List (List D)}{b o:Nat},RepSp C z es b o→∃ us,SpL C z es us b∧∀ (i:Nat) u,us[i]?=some u→C b (o+i) u
 | C,[],b,o,_=>⟨[],by unfold SpL;rfl,fun i u h=>by simp at h⟩
 | C,e::es,b,o,h=>by
  unfold RepSp at h
  obtain ⟨F,h0,h1,h2,h3⟩:=h
  obtain ⟨u1,g1,g2⟩:=h2.list
  obtain ⟨u2,k1,k2⟩:=RepSp.list h3
  have hl:=g1.get.1
  refine ⟨u1++u2,by unfold SpL;exact ⟨F,h0,h1,u1,u2,rfl,g1,k1⟩,fun i u hu=>?_⟩
  rcases Nat.lt_or_ge i u1.length with hi|hi
  ·rw [List.getElem?_append_left hi] at hu
   exact g2 i u hu
  ·rw [List.getElem?_append_right hi] at hu
   have:=(k2 _ u hu).1
   rwa [show o+i=o+z+(i - u1.length) by omega]
theorem RepSp.ofList {z:Nat}:∀ {C:CellR}{es:List (List D)}{us:List Value}{b o:Nat},SpL C z es us b→(∀ (i:Nat) u,us[i]?=some u→C b (o+i) u)→RepSp C z es b o
 | C,[],us,b,o,_,_=>by unfold RepSp;trivial
 | C,e::es,us,b,o,h,k=>by
  unfold SpL at h
  obtain ⟨F,h0,h1,u1,u2,rfl,h3,h4⟩:=h
  have hl:=h3.get.1
  unfold RepSp
  refine ⟨F,h0,h1,RepCsF.ofList h3 fun i u hu=>k i u ?_,RepSp.ofList h4 fun i u hu=>⟨?_,h0⟩⟩
  ·rw [List.getElem?_append_left (List.getElem?_eq_some_iff.1 hu).1];exact hu
  ·have:=k (u1.length+i) u (by rw [List.getElem?_append_right (by omega),Nat.add_sub_cancel_left];exact hu)
   rwa [show o+z+i=o+(u1.length+i) by omega]
theorem SpL.snoc {z b b':Nat}{p q:Nat→Prop} (hpq:∀ x,q x→¬p x) (hqb:¬q b') (hb:b'=b∨¬p b') {ds:List D}{vs:List Value} (hz:ds.length=z):∀ {C C':CellR}{es:List (List D)}{us:List Value},SpL C z es us b→(∀ b o u,C b o u→C' b o u∧p b)→RepL (C'.on q) ds vs→SpL C' z (es++[ds]) (us++vs) b'
 | C,C',[],us,h,_,hv=>by
  unfold SpL at h
  subst h
  simp only [List.nil_append]
  unfold SpL
  exact ⟨q,hqb,hz,vs,[],(List.append_nil _).symm,hv,by unfold SpL;rfl⟩
 | C,C',e::es,us,h,hC,hv=>by
  unfold SpL at h
  obtain ⟨F,h0,h1,u1,u2,rfl,h3,h4⟩:=h
  simp only [List.cons_append]
  unfold SpL
  refine ⟨fun x=>F x∧p x,fun hx=>?_,h1,u1,u2++vs,by rw [List.append_assoc],RepL.mono (fun x o u hc=>⟨(hC x o u hc.1).1,hc.2,(hC x o u hc.1).2⟩) _ _ h3,?_⟩
  ·rcases hb with rfl|hb
   ·exact h0 hx.1
   ·exact hb hx.2
  ·refine SpL.snoc hpq hqb hb hz h4 (fun x o u hc=>⟨⟨(hC x o u hc.1).1,fun hx=>hc.2 hx.1⟩,(hC x o u hc.1).2⟩) (RepL.mono (fun x o u hc=>⟨⟨hc.1,fun hx=>hpq x hc.2 hx.2⟩,hc.2⟩) _ _ hv)

theorem sow_of {G G':Gh}{m:Mem}{κ z b:Nat}{e:TypeId}{es0 es:List (List D)}{xs:List Value}{p':Nat→Prop}{u:Value}
  (hle:G.Le m.us G') (hr:RepA G' (.own κ e z es0) u) (hu:∃ n cp,u=.slice (some ⟨b,0,none⟩) n cp) (h0:es0.flatten=xs.map .v) (hlen:es0.length=es.length) (hne:es≠[]) (hp:p' b)
  (hx:SpL (G.C.on p') z es xs b):RepA G' (.sow κ e z es p') u:=by
 unfold RepA at hr
 rcases hr with ⟨_,hnil,_⟩|⟨b',h1,h2,h3,h4,h5⟩
 ·subst hnil
  cases es with
  | nil=>exact absurd rfl hne
  | cons x es=>simp at hlen
 obtain ⟨n,cp,hu⟩:=hu
 rw [hu] at h2
 simp only [Value.slice.injEq,Option.some.injEq,Addr.mk.injEq,and_true] at h2
 obtain ⟨⟨rfl⟩,hn,hcp⟩:=h2
 obtain ⟨us,g1,g2,g3⟩:=h5.list
 have hus:us=xs:=by
  rw [h0] at g1
  exact RepL_raw_eq g1
 subst hus
 unfold RepA
 refine .inr ⟨hne,b,h1,by rw [hu,hn,hcp,hlen],by rw [←hlen];exact h3,h4,RepSp.ofList (SpL.mono (fun x o u hc=>⟨hle.C _ _ _ hc.1,hc.2⟩) hx) fun i v hv=>⟨?_,hp⟩⟩
 have:=g3 i v hv
 exact this

section
variable {P:Program}{en:En}{ops:Array Oper}{o:Oper}{l:List Oper}{K:St→Prop}{s:St}
theorem ow_doesN {v:A}{m':Mem} (hg:Wanted s ops o) (hd:∀ x,o.dst=some x→x<en.sz)
  (hD:∀ (G:Gh) (w:World) (a:Act),en.w.heap.size≤w.heap.size→MemOk G w s.mem→(∀ x,RepA G (ev s.f x) (a.eval x))→(∀ x,(ev s.f x).lt s.mem.us)→∀ (Kc:Act→World→Prop) (Q:Exit→Act→World→Prop),
   (∀ u w' G',Evo G w s.mem G' w' m'→MemOk G' w' m'→RepA G' v u→v.lt m'.us→Kc (a.put o.dst u) w')→o.wp P a w Kc Q)
  (s1:St) (h1:s1.mem=m') (h2:s1.fr=s.fr) (hK:OWs P en ops l K (s1.set o.dst v)):OWs P en ops (o::l) K s:=fun a w hs Q hQ=>by
 obtain ⟨G,hG⟩:=hs
 refine wpList_step fun K' hK'=>?_
 rw [if_pos (wanted_run hg hG.rep)]
 refine hD G w a hG.fw.size hG.ok (ev_rep hG.ok.cok.gl hG.rep) (ev_lt hG.kf) K' _ fun u w' G' he hok hv hl=>?_
 refine hK' _ _ (hK _ _ ⟨G',?_⟩ Q hQ)
 subst h1
 have:=hG.step he hok (d:=o.dst) hd hv hl
 rw [St.set_f,St.set_mem]
 have e:s1.f=s.f:=by unfold St.f;rw [h2]
 rw [e]
 exact this
theorem ow_appS {t e:TypeId}{y x:Operand}{z k:Nat}{es:List (List D)}{cs ds:List D}{p:Nat→Prop} (q:Nat→Prop) (hg:Wanted s ops o) (hd:∀ x,o.dst=some x→x<en.sz) (h:o.op=.call { callee:=.builtin .append,args:=#[y,x],argTypes:=#[t,t] }) (ht:tyElem P t=some e) (he:tyRow P e=some z)
  (hs:ev s.f y=.sow k e z es p) (hal:lk none s.al k=some (es.length,e,z)) (hx:elemsN z (ev s.f x)=some [cs]) (hz:cs.length=z) (hds:OnSL q cs ds) (hm:es.length+1≤268435456)
  (hp:∀ b,p b→en.w.heap.size≤b) (hq:∀ b,q b→en.w.heap.size≤b) (hpq:∀ b,q b→¬p b)
  (hK:OWs P en ops l K ({ s with al:=(s.nx,some (es.length+1,e,z))::(k,none)::s.al,nx:=s.nx+16 }.set o.dst (.sow s.nx e z (es++[ds]) fun b=>en.w.heap.size≤b))):OWs P en ops (o::l) K s:=by
 refine ow_doesN hg hd (v:=.sow s.nx e z (es++[ds]) fun b=>en.w.heap.size≤b) (m':=(s.mem.drop k).row s.nx (es.length+1) e z) (fun G w a hsz hok hr hlt Kc Q hK=>?_) { s with al:=(s.nx,some (es.length+1,e,z))::(k,none)::s.al,nx:=s.nx+16 } (by rw [St.mem_bump (s:=s) (h:=rfl),lk_cons,lk_cons];rfl) rfl hK
 have hf:s.mem.fresh s.nx:=mem_fresh s
 obtain ⟨i,zv,hi,hzv,hsz',hzc,hpos,hby⟩:=tyRow_spec he
 have htu:=tyElem_run ht
 have hsr:=hr y
 rw [hs] at hsr
 unfold RepA at hsr
 -- what is appended
 obtain ⟨ad,c,vs,hu,hlv0,v1,hcells,hone1,_⟩:=(elemsN_rep hok hx (hr x)).resolve_left (fun h=>by cases h.1)
 simp only [List.flatten_singleton,List.length_singleton] at v1 hlv0 hu
 have hlv:vs.length=1*z:=hlv0
 have hdl:ds.length=z:=hds.len▸hz
 have hlow:∀ b o u,G.C b o u→b<w.heap.size:=fun b o u hc=>hok.lt_size hc
 have hrd:RepL (G.C.on fun b=>q b∧b<w.heap.size) ds vs:=RepL.mono (fun b o u hc=>⟨hc.1,hc.2,hlow b o u hc.1⟩) _ _ (hds.repL v1)
 have hlo:(A.sow s.nx e z (es++[ds]) fun b=>en.w.heap.size≤b).lt ((s.mem.drop k).row s.nx (es.length+1) e z).us:=by
  unfold A.lt
  exact .inr ⟨Nat.le_refl _,by omega⟩
 have hz2:∀ e∈[vs.map D.v],e.length=z:=fun y hy=>by rw [List.mem_singleton] at hy;subst hy;rw [List.length_map];omega
 have hbytes:(es.length+1)*i.bytes≤140737488355328:=by
  have:(es.length+1)*i.bytes≤268435456*4096:=Nat.mul_le_mul hm hby
  omega
 rcases hsr with ⟨hE,rfl,hsv⟩|⟨hne,g,hE,hsv,hncap,hcm,hsp⟩
 ·have hgr:=grownPost (es:=[]) (es2:=[vs.map D.v]) (xs:=[]) (news:=vs) (old:=0) (e:=e) (κ:=s.nx) (hok.dropRow k) (m:=s.mem.drop k) hf hzc (by simp [RepL]) (by simp) (by simp) (by simp) (by rw [List.flatten_singleton];exact RepL_raw _ _) hone1 (by simpa using hlv) hz2 (by simp) (tyRow_one he hi hzv)
  simp only [List.nil_append,List.length_nil,Nat.zero_add,Array.empty_append,List.length_singleton] at hgr
  obtain ⟨G',e1,e2,e3⟩:=hgr
  refine wp_append h ?_ (hK _ _ G' ((Evo.drop k).trans e1) e2 (sow_of (es:=[]++[ds]) (xs:=vs) (b:=w.heap.size) e1.le e3 ⟨_,_,rfl⟩ (by simp) rfl (by simp) hsz ?_) hlo)
  ·rw [hsv,hu]
   exact run_append_nil (P:=P) w t o.type e i zv htu hi hzv ad 1 c vs (by rw [hsz'];exact hlv) hcells (by omega) (by omega) (by have h4:1*i.bytes≤4096:=(by omega);omega)
  ·simp only [List.nil_append]
   unfold SpL
   exact ⟨fun b=>q b∧b<w.heap.size,fun hx=>by omega,hdl,vs,[],(List.append_nil _).symm,RepL.mono (fun b o u hc=>⟨⟨hc.1,hq b hc.2.1⟩,hc.2⟩) _ _ hrd,by unfold SpL;rfl⟩
 ·obtain ⟨cur,hgc,hcs,⟨_,hco⟩,hnc⟩:=hok.row k es.length e z hal g hE
  obtain ⟨xs,x1,x3⟩:=hsp.list
  obtain ⟨x2,hxl,hez⟩:=x1.len
  have hpg:p g:=by
   cases es with
   | nil=>exact absurd rfl hne
   | cons e0 es=>
    have hl0:0<xs.length:=by rw [x2,List.length_cons,Nat.add_mul,Nat.one_mul];omega
    exact (x3 0 _ (List.getElem?_eq_getElem hl0)).2
  have hone:∀ v∈xs,v.oneCell'=true:=fun v hv=>by
   obtain ⟨j,hj⟩:=List.getElem?_of_mem hv
   exact (hok.cell _ _ _ (x3 j v hj).1).2
  have hraw:RepEs G.C z (rawOf es xs) g 0:=RepEs.ofList (us:=xs) (rawOf_z es xs hez hxl) (by rw [rawOf_flat es xs hxl];exact RepL_raw _ _) (fun i u hi=>(x3 i u hi).1)
  have hrl:(rawOf es xs).length=es.length:=rawOf_len es xs
  have hrn:(rawOf es xs++[vs.map D.v]).length=es.length+1:=by rw [List.length_append,hrl];rfl
  have hfl:(rawOf es xs++[vs.map D.v]).flatten=(xs++vs).map .v:=by rw [List.flatten_append,rawOf_flat es xs hxl,List.flatten_singleton,List.map_append]
  have hC1:∀ b o u,(G.C.on p) b o u→(G.C.on fun b=>en.w.heap.size≤b) b o u∧(p b∧b<w.heap.size):=fun b o u hc=>⟨⟨hc.1,hp b hc.2⟩,hc.2,hlow b o u hc.1⟩
  have hv1:RepL ((G.C.on fun b=>en.w.heap.size≤b).on fun b=>q b∧b<w.heap.size) ds vs:=RepL.mono (fun b o u hc=>⟨⟨hc.1,hq b hc.2.1⟩,hc.2⟩) _ _ hrd
  by_cases hroom:es.length+1≤G.cp k
  ·have hro:=roomOk (es:=rawOf es xs) (es2:=[vs.map D.v]) (news:=vs) (mm:=1) hok hf hal hrl.symm hE rfl hgc hcs hraw hnc hcm hlv rfl (by rw [List.flatten_singleton];exact RepL_raw _ _) hone1 hz2 hroom hco
   rw [hrn] at hro
   obtain ⟨G',e1,e2,e3⟩:=hro
   have hsp':=SpL.snoc (p:=fun b=>p b∧b<w.heap.size) (q:=fun b=>q b∧b<w.heap.size) (b':=g) (fun x hx hx'=>hpq x hx.1 hx'.1) (fun hx=>hpq g hx.1 hpg) (.inl rfl) hdl x1 hC1 hv1
   refine wp_append h ?_ (hK _ _ G' e1 e2 (sow_of (es:=es++[ds]) (xs:=xs++vs) (b:=g) e1.le e3 ⟨_,_,rfl⟩ hfl (by rw [hrn,List.length_append];rfl) (by simp) (hp g hpg) hsp') hlo)
   rw [hsv,hu]
   have:=run_append_room (P:=P) w t o.type e i htu hi g es.length (G.cp k) cur hgc ad 1 c vs (by rw [hsz'];exact hlv) hcells hone1 hroom (by rw [hsz',hlv,hcs,←Nat.add_mul];exact Nat.mul_le_mul_right _ hroom)
   rw [hsz'] at this
   exact this
  ·have hgr:=grownPost (es:=rawOf es xs) (es2:=[vs.map D.v]) (xs:=xs) (news:=vs) (old:=G.cp k) (e:=e) (κ:=s.nx) (hok.dropRow k) (m:=s.mem.drop k) hf hzc (by rw [rawOf_flat es xs hxl];exact RepL_raw _ _) hone (by rw [hrl];exact x2) (rawOf_z es xs hez hxl) (by rw [List.flatten_singleton];exact RepL_raw _ _) hone1 (by simpa using hlv) hz2 (by rw [hrl];exact hm) (tyRow_one he hi hzv)
   rw [hrn] at hgr
   obtain ⟨G',e1,e2,e3⟩:=hgr
   have hsp':=SpL.snoc (p:=fun b=>p b∧b<w.heap.size) (q:=fun b=>q b∧b<w.heap.size) (b':=w.heap.size) (fun x hx hx'=>hpq x hx.1 hx'.1) (fun hx=>by omega) (.inr fun hx=>by omega) hdl x1 hC1 hv1
   refine wp_append h ?_ (hK _ _ G' ((Evo.drop k).trans e1) e2 (sow_of (es:=es++[ds]) (xs:=xs++vs) (b:=w.heap.size) e1.le e3 ⟨_,_,rfl⟩ hfl (by rw [hrn,List.length_append];rfl) (by simp) hsz hsp') hlo)
   rw [hsv,hu]
   have hrun:=run_append_grow (P:=P) w t o.type e i zv htu hi hzv ⟨g,0,none⟩ es.length (G.cp k) xs (by rw [hsz'];exact x2) (fun j v hj=>by rw [addr_add];exact (hok.cell _ _ _ (x3 j v hj).1).1) ad 1 c vs (by rw [hsz'];exact hlv) hcells (by omega) (by omega) (growslice_fits (by omega) hbytes)
   simp only [hrl,List.length_singleton] at *
   exact hrun
def boundS (n:Nat):A→A
 | .sow k e z es p=>.sow k e z es fun b=>p b∧b<n
 | y=>y
theorem boundS_rep {G:Gh}{n:Nat} (h:∀ b o u,G.C b o u→b<n) {x:A}{u:Value} (k:RepA G x u):RepA G (boundS n x) u:=by
 unfold boundS
 split
 ·unfold RepA at k ⊢
  exact k.mono (fun _ _ _ hc=>hc) fun b o u hc hp=>⟨hp,h b o u hc⟩
 ·exact k
theorem boundS_lt {n:Nat}{x:A}{m:Nat→Prop} (k:x.lt m):(boundS n x).lt m:=by
 unfold boundS
 split
 ·unfold A.lt at k ⊢;exact k
 ·exact k
theorem boundSL_rep {G:Gh}{n:Nat} (h:∀ b o u,G.C b o u→b<n):∀ {cs:List A}{us:List Value},RepAL G cs us→RepAL G (cs.map (boundS n)) us
 | [],us,k=>k
 | c::cs,us,k=>by
  rw [List.map_cons]
  unfold RepAL at k ⊢
  obtain ⟨u,us',h1,h2,h3⟩:=k
  exact ⟨u,us',h1,boundS_rep h h2,boundSL_rep h h3⟩
theorem boundSL_lt {n:Nat}{m:Nat→Prop}:∀ {cs:List A},A.ltL m cs→A.ltL m (cs.map (boundS n))
 | [],k=>k
 | c::cs,k=>by
  rw [List.map_cons]
  unfold A.ltL at k ⊢
  exact ⟨boundS_lt k.1,boundSL_lt k.2⟩
theorem sim_boundS {n k:Nat}{cs:List A}{a:Act}{w:World}{G:Gh} (hb:lk none s.bx k=some cs) (h:∀ b o u,G.C b o u→b<n) (hG:Sim en s.f s.mem a w G):Sim en ({ s with bx:=(k,some (cs.map (boundS n)))::s.bx }:St).f ({ s with bx:=(k,some (cs.map (boundS n)))::s.bx }:St).mem a w G:=by
 have hbx:∀ j,(lk none ((k,some (cs.map (boundS n)))::s.bx) j).isSome=true→(lk none s.bx j).isSome=true:=fun j hj=>by
  rw [lk_cons] at hj
  by_cases e:j=k
  ·subst e;rw [hb];rfl
  ·rwa [upd_ne _ _ e] at hj
 have hlv:∀ j,({ s with bx:=(k,some (cs.map (boundS n)))::s.bx }:St).mem.live j→s.mem.live j:=fun j hj=>hj.imp (hbx j) id
 refine ⟨⟨hG.ok.cok,fun j ds hj=>?_,hG.ok.row,fun j j' b hj hj'=>?_,fun j hj=>?_,fun j hj=>?_⟩,hG.rep,hG.kf,hG.sz,hG.df,hG.fw,hG.c0,hG.c1,fun b ⟨j,hj,hE⟩=>?_,hG.e0,hG.p0,hG.ks,hG.am,fun b hb'=>⟨(hG.az b hb').1,fun ⟨j,hj,hE⟩=>?_,(hG.az b hb').2.2⟩⟩
 ·have hj':lk none ((k,some (cs.map (boundS n)))::s.bx) j=some ds:=hj
  rw [lk_cons] at hj'
  by_cases e:j=k
  ·subst e
   rw [upd_same] at hj'
   have:=Option.some.inj hj';subst this
   obtain ⟨b,q1,⟨vs,ty,q2,q3,q4,q5⟩,q6⟩:=hG.ok.box j cs hb
   exact ⟨b,q1,⟨vs,ty,q2,boundSL_rep h q3,q4,q5⟩,boundSL_lt q6⟩
  ·rw [upd_ne _ _ e] at hj'
   exact hG.ok.box j ds hj'
 ·exact hG.ok.inj j j' b (hlv j hj) (hlv j' hj')
 ·exact hG.ok.lt j (hlv j hj)
 ·exact hG.ok.sep j (hbx j hj)
 ·exact hG.lv b ⟨j,hlv j hj,hE⟩
 ·exact (hG.az b hb').2.1 ⟨j,hlv j hj,hE⟩
theorem ow_callS {f:FuncId}{xs:Array Operand}{ats:Array TypeId}{as ys:List A}{Dn:Nat→D} (k:Nat) {cs:List A} (hg:Wanted s ops o) (hd:∀ x,o.dst=some x→x<en.sz) (ho:o.op=.call { callee:=.value (.func f),args:=xs,argTypes:=ats })
  (hb:lk none s.bx k=some cs) (hc:ACD P f ys Dn) (hK:∀ n,en.w.heap.size≤n→OWs P en ops l K (({ s with bx:=(k,some (cs.map (boundS n)))::s.bx }:St).set o.dst (.d (Dn n))))
  (ha:xs.toList.map (ev s.f)=as:=by exact evT) (hy:argsOf none as=some ys:=by exact rfl):OWs P en ops (o::l) K s:=fun a w hs Q hQ=>by
 obtain ⟨G,hG⟩:=hs
 refine wpList_step fun K' hK'=>?_
 rw [if_pos (wanted_run hg hG.rep)]
 have hb':=sim_boundS (n:=w.heap.size) hb (fun b o u hc=>cell_lt (hG.ok.cell b o u hc).1) hG
 refine wp_call ho hc.1 ((hc.2 w G.C _ hG.ok.cok (argsOf_rep (by rw [ha];exact hy) (fun j hj=>by cases hj) (RepAL_map (ev_rep hG.ok.cok.gl hG.rep) xs.toList))).mono fun e w' ⟨v,C',he,hC,hC',hfw,hcn,hr⟩=>?_)
 refine ⟨v,he,hK' _ _ (hK w.heap.size hG.fw.size _ _ ⟨{ G with C:=C' },?_⟩ Q hQ)⟩
 have hok1:MemOk { G with C:=C' } w' ({ s with bx:=(k,some (cs.map (boundS w.heap.size)))::s.bx }:St).mem:=hb'.ok.after (X:=fun _=>False) hC hC' hfw (fun b o u hc'=>by rcases hcn b o u hc' with h|h<;>simp [h]) (fun _ _ h=>h) (fun _ _ h=>h) rfl (fun _ _ _ _ h=>h)
 have:=hb'.step (G':={ G with C:=C' }) (d:=o.dst) (v:=.d (Dn w.heap.size)) (u:=v) ⟨⟨fun _ _=>rfl,fun _ _=>rfl,hC⟩,⟨hfw.os,hfw.tape,hfw.output,hfw.size,fun k hk _=>hfw.block k hk id⟩,fun b o u hc'=>(hcn b o u hc').imp id .inl,fun b hb'=>.inr hb',fun _ h=>h⟩ hok1 hd (by unfold RepA;exact hr) (by unfold A.lt;trivial)
 rw [St.set_f,St.set_mem]
 exact this
end
end Go.Proofs.YtomfggmmhkpeeaaGreatDoor.Eng
