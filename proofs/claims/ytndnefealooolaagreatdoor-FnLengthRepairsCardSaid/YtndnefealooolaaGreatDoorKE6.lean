/-
 The engine, part 36: copying into a row that is ours.

 The engine, part 37: rows that an append makes and that are written afterwards; calls that read such rows.
-/
import Derived.Test.YtndnefealooolaaGreatDoorKE4
import Derived.Laws.IdiomCopy
import Derived.Test.YtndnefealooolaaGreatDoorKE30
set_option linter.unusedSimpArgs false
set_option linter.unusedVariables false
set_option linter.defProp false
set_option maxRecDepth 100000
set_option maxHeartbeats 4000000
namespace Go.Proofs.YtndnefealooolaaGreatDoor.Eng
open Go Go.RowKit

section
variable {P:Program}{en:En}{ops:Array Oper}{o:Oper}{l:List Oper}{K:St→Prop}{s:St}
theorem simS_freezeY (y:D) (t k z n:Nat) (es:List (List D)) (h1:s.f t=.arr k z n) (h2:lk none s.bx k=some (es.flatten.map .d)) (h3:es.length=n) (h4:∀ e∈es,e.length=z) (hks:∀ k,en.ks k→k=0) (hk0:k≠0)
  (hy:∀ (C:CellR) (b cap:Nat),(en.w.heap.size≤b∨en.X b)→RepEs C z es b 0→RepD C (.sl z es) (.slice (some ⟨b,0,none⟩) n cap)→RepD C y (.slice (some ⟨b,0,none⟩) n cap))
  {a:Act}{w:World} (hs:SimS en s a w):SimS en { s with fr:=(t,.d y)::s.fr,bx:=(k,none)::s.bx } a w:=by
 obtain ⟨G,hG⟩:=hs
 obtain ⟨b,hE,⟨vs,ty,g1,g2,g3,g4⟩,g5⟩:=hG.ok.box k _ h2
 have hlk:s.mem.live k:=.inl (by rw [show s.mem.bx k=some (es.flatten.map .d) from h2];rfl)
 let G':Gh:={ G with C:=fun b' o u=>G.C b' o u∨(b'=b∧vs[o]?=some u) }
 have hle:∀ p,G.Le p G':=fun p=>⟨fun _ _=>rfl,fun _ _=>rfl,fun _ _ _ hc=>.inl hc⟩
 have hm:({ s with fr:=(t,.d y)::s.fr,bx:=(k,none)::s.bx }:St).mem={ s.mem with bx:=upd s.mem.bx k none }:=by
  unfold St.mem;simp only [lk_cons]
 have hlive:∀ j,({ s.mem with bx:=upd s.mem.bx k none }:Mem).live j→s.mem.live j∧(j=k→False):=fun j hj=>by
  rcases hj with hj|hj
  ·by_cases e:j=k
   ·subst e;simp at hj
   ·exact ⟨.inl (by simpa [upd_ne _ _ e] using hj),e⟩
  ·refine ⟨.inr hj,fun e=>?_⟩
   subst e
   have:=hG.ok.sep j (by rw [show s.mem.bx j=some (es.flatten.map .d) from h2];rfl)
   have hj':(s.mem.al j).isSome=true:=hj
   rw [this] at hj';cases hj'
 have hb':∀ j b'',s.mem.live j→j≠k→G.E j=some b''→b''≠b:=fun j b'' hj hne hE'' e=>hne (hG.ok.inj j k b hj hlk (e▸hE'') hE)
 refine ⟨G',⟨?_,fun t'=>?_,fun t'=>?_,hG.sz,hG.df,hG.fw,fun b o u hc=>.inl (hG.c0 b o u hc),fun b' o u hc hlt hx=>?_,fun b' ⟨j,hj,hE'⟩=>?_,hG.e0,hG.p0,hG.ks,hG.am,fun b' hb'=>⟨(hG.az b' hb').1,fun ⟨j,hj,hE'⟩=>(hG.az b' hb').2.1 ⟨j,(hlive j (by rw [hm] at hj;exact hj)).1,hE'⟩,fun o u hc=>hc.elim ((hG.az b' hb').2.2 o u) fun he=>(hG.az b' hb').2.1 ⟨k,hlk,by rw [he.1];exact hE⟩⟩⟩⟩
 ·rw [hm]
  refine ⟨⟨fun b' o u hc=>?_,fun b' o u hc hb2=>?_,hG.ok.cok.gl.mono (hle fun _=>True).C,hG.ok.cok.tb⟩,fun j cs hj=>?_,fun j m e y hj b'' hE''=>?_,fun j j' b'' hj hj'=>hG.ok.inj j j' b'' (hlive j hj).1 (hlive j' hj').1,fun j hj=>hG.ok.lt j (hlive j hj).1,fun j hj=>?_⟩
  ·rcases hc with hc|⟨rfl,hv⟩
   ·exact hG.ok.cell b' o u hc
   ·refine ⟨?_,g3 u (List.mem_of_getElem? hv)⟩
    simp [World.cell?,g1,hv]
  ·rcases hc with hc|⟨rfl,_⟩
   ·exact hG.ok.cok.nf b' o u hc hb2
   ·exact frz_of_cells g1
  ·by_cases e:j=k
   ·subst e;simp at hj
   ·rw [show ({ s.mem with bx:=upd s.mem.bx k none }:Mem).bx j=s.mem.bx j from upd_ne _ _ e] at hj
    obtain ⟨b1,q1,⟨us,ty',q2,q3,q4,q5⟩,q6⟩:=hG.ok.box j cs hj
    refine ⟨b1,q1,⟨us,ty',q2,RepAL.mono (hle _) _ _ q6 q3,q4,fun i u hc=>?_⟩,q6⟩
    rcases hc with hc|⟨rfl,_⟩
    ·exact q5 i u hc
    ·exact hb' j _ (.inl (by rw [hj];rfl)) e q1 rfl
  ·have hj':s.mem.al j=some (m,e,y):=hj
   obtain ⟨cur,q1,q2,q3,q4⟩:=hG.ok.row j m e y hj' b'' hE''
   refine ⟨cur,q1,q2,q3,fun i u hi hc=>?_⟩
   rcases hc with hc|⟨rfl,_⟩
   ·exact q4 i u hi hc
   ·have hlj:s.mem.live j:=.inr (by rw [hj'];rfl)
    have hne:j≠k:=fun e'=>by
     subst e'
     have:=hG.ok.sep j (by rw [show s.mem.bx j=some (es.flatten.map .d) from h2];rfl)
     rw [this] at hj';cases hj'
    exact hb' j _ hlj hne hE'' rfl
  ·by_cases e:j=k
   ·subst e;simp at hj
   ·exact hG.ok.sep j (by simpa [upd_ne _ _ e] using hj)
 ·show RepA G' (lk .top ((t,.d y)::s.fr) t') _
  rw [lk_cons]
  by_cases e:t'=t
  ·subst e
   rw [upd_same]
   have hr:=hG.rep t'
   rw [h1] at hr
   unfold RepA at hr ⊢
   obtain ⟨b1,cap,q1,q2,qc,q3⟩:=hr
   rw [hE] at q1
   have:=Option.some.inj q1;subst this
   have hes:RepEs G'.C z es b 0:=by
    refine RepEs.ofList h4 (us:=vs) (RepL.mono (fun _ _ _ hc=>.inl hc) _ _ (RepAL_unmap g2)) fun i u hi=>?_
    right
    exact ⟨rfl,by simpa using hi⟩
   rw [q2]
   refine hy G'.C b cap (hG.lv b ⟨k,hlk,hE⟩) hes ?_
   unfold RepD
   exact ⟨_,cap,by rw [h3],by rw [h3];exact qc,q3,.inr ⟨b,0,rfl,hes⟩⟩
  ·rw [upd_ne _ _ e]
   exact RepA.mono (hle _) _ _ (hG.kf t') (hG.rep t')
 ·show (lk .top ((t,.d y)::s.fr) t').lt _
  rw [lk_cons]
  by_cases e:t'=t
  ·subst e;rw [upd_same];unfold A.lt;trivial
  ·rw [upd_ne _ _ e];exact hG.kf t'
 ·rcases hc with hc|⟨rfl,_⟩
  ·exact hG.c1 b' o u hc hlt hx
  ·rcases hG.lv _ ⟨k,hlk,hE⟩ with h5|h5
   ·omega
   ·exact absurd h5 hx
 ·rw [hm] at hj
  exact hG.lv b' ⟨j,(hlive j hj).1,hE'⟩
theorem ow_freezeA {ops:Array Oper}{l:List Oper}{K:St→Prop} (y:D) (t k z n:Nat) (es:List (List D)) (hy:y=.sl z es) (h1:s.f t=.arr k z n) (h2:lk none s.bx k=some (es.flatten.map .d)) (h3:es.length=n) (h4:∀ e∈es,e.length=z) (hks:∀ k,en.ks k→k=0) (hk0:k≠0)
  (h:OWs P en ops l K { s with fr:=(t,.d y)::s.fr,bx:=(k,none)::s.bx }):OWs P en ops l K s:=fun a w hs=>h a w (simS_freezeY y t k z n es h1 h2 h3 h4 hks hk0 (fun _ _ _ _ _ h=>hy▸h) hs)
theorem zero_row (n:Nat):(List.replicate n [D.v (.int .u8 0)]).flatten.map A.d=(((List.replicate n (0:UInt8)).map fun c=>[D.v (.int .u8 c.toNat)]).flatten).map A.d:=by
 rw [List.map_replicate];rfl
end
theorem wkD_own1 (z k:Nat) (e:TypeId) (c:List D):wkD (.sl z [c]) (.own k e z [c])=True:=eq_true (by unfold wkD;exact .inr ⟨_,_,_,rfl,dleLL_refl _⟩)
theorem wkDS2 {p:Prop} (h:p:=by first|exact wkD_self _|(simp (decide:=true) only [wkD_own1,wkD_selfT,wkD_ownB,wkD_ownB0,wkD_ownV0,wkD_nilB,wkD_ownV,wkD_nilV,wkD_agg,wkD_tup,wkDL_nil,wkDL_cons,encVs_append,encVs_one,encVs_nil,encV_mk,V0,dle_agg,dle_tup,dleL_nil,dleL_cons,dle_nil,dle_nilB,wkD_tupd,wkD_aggd,dle_selfT,and_true,true_and,List.map_cons,List.map_nil])):p:=h
end Go.Proofs.YtndnefealooolaaGreatDoor.Eng
namespace Go.Proofs.YtndnefealooolaaGreatDoor.Eng
open Go Go.RowKit

theorem newBoxW {G:Gh}{w w':World}{m:Mem}{κ:Nat}{cs:List A}{us:List Value}{t:TypeId} (hok:MemOk G w m) (hf:m.fresh κ) (hr:RepAL G cs us) (h1:∀ x∈us,x.oneCell'=true) (hl:A.ltL m.us cs)
  (hh:w'.heap=w.heap.push (.cells ⟨us⟩ t)) (hos:w'.os=w.os∧w'.tape=w.tape∧w'.output=w.output) :
  ∃ G',Evo G w m G' w' (m.box κ cs)∧MemOk G' w' (m.box κ cs)∧G'.E κ=some w.heap.size:=by
 have hne:∀ k,m.us k→k≠κ:=fun k hk e=>hf κ (Nat.le_refl _) (by omega) (e▸hk)
 have hle:G.Le m.us { G with E:=upd G.E κ (some w.heap.size) }:=⟨fun k hk=>upd_ne _ _ (hne k hk),fun _ _=>rfl,fun _ _ _ hc=>hc⟩
 have hmine:∀ b,Mine { G with E:=upd G.E κ (some w.heap.size) } m b→Mine G m b:=fun b ⟨k,hk,hE⟩=>⟨k,hk,by rw [←hle.E k (hok.lt k hk)];exact hE⟩
 have hold:∀ b,b<w.heap.size→w'.heap[b]?=w.heap[b]?:=fun b hb=>by rw [hh];simp [Array.getElem?_push,Nat.ne_of_lt hb]
 have hnew:w'.heap[w.heap.size]?=some (.cells ⟨us⟩ t):=by rw [hh];simp
 have hg:=hok.grow (w':=w') (us':=Eng.bump m.us κ) hle (fun b hb=>hold b hb) (fun _ _ _ hc=>.inl hc) (fun b o u hc hb=>by have:=hok.lt_size hc;omega) (fun _ hk=>.inl hk)
 have hl':A.ltL (Eng.bump m.us κ) cs:=A.ltL.mono (fun _ hk=>.inl hk) _ hl
 have hb:=hg.addBox (κ:=κ) (b:=w.heap.size) (cs:=cs) (upd_same _ _ _) ⟨us,t,hnew,RepAL.mono hle _ _ hl hr,h1,fun j u hc=>by have:=hok.lt_size hc;omega⟩ hl' (fun hk=>hne κ (hok.lt κ hk) rfl)
  (fun hm=>by have:=Mine.lt hok (hmine _ hm);omega) (.inr ⟨Nat.le_refl _,by omega⟩)
 refine ⟨_,⟨hle,⟨hos.1,hos.2.1,hos.2.2,by rw [hh];simp,fun k hk _=>hold k hk⟩,fun _ _ _ hc=>.inl hc,fun b hm=>?_,fun _ hk=>.inl hk⟩,hb,upd_same _ _ _⟩
 obtain ⟨k,hk,hE⟩:=hm
 by_cases e:k=κ
 ·subst e
  simp only [upd_same,Option.some.injEq] at hE
  omega
 ·right
  refine ⟨k,?_,by simpa [upd_ne _ _ e] using hE⟩
  rcases hk with hk|hk
  ·left;simpa [Mem.box,upd_ne _ _ e] using hk
  ·exact .inr hk

section
variable {P:Program}{o:Oper}{ρ:Operand→A}{m:Mem}{κ:Nat}{t e:TypeId}
theorem does_bs0 {z:Nat} (h:o.op=.buildSlice t 0 #[]) (ht:tyElem P t=some e) (he:tyRow P e=some z) (hf:m.fresh κ):DoesR P o ρ m fun v m'=>∃ ad,v=.d (.v (.slice (some ad) 0 0))∧m'=m.box κ []:=fun G w a hok hr hlt Kc Q hK=>by
 obtain ⟨i,zv,hi,hzv,hsz,hzc,hpos,hby⟩:=tyRow_spec he
 obtain ⟨G',e1,e2,e3⟩:=newBoxW (w':={ w with heap:=w.heap.push (.cells #[] e) }) (us:=[]) (t:=e) (cs:=[]) hok hf (by unfold RepAL;rfl) (by simp) (by unfold A.ltL;trivial) rfl ⟨rfl,rfl,rfl⟩
 refine wp_of_value (u:=.slice (some ⟨w.heap.size,0,none⟩) 0 0) ?_ (hK _ _ _ _ G' ⟨_,rfl,rfl⟩ e1 e2 (by unfold RepA RepD;rfl) (by unfold A.lt;trivial))
 unfold execOp
 rw [h]
 simp [Instr.buildSlice,run_underlying (tyElem_run ht),sizeOf,typeInfo,run_program,hi,hsz,Instr.fill,newRow]
 congr 2
 exact Array.eq_empty_of_size_eq_zero (by simp)
theorem does_appendA {s x:Operand}{z:Nat}{zs:List Value}{ad:Addr}{es2:List (List D)} (h:o.op=.call { callee:=.builtin .append,args:=#[s,x],argTypes:=#[t,t] }) (ht:tyElem P t=some e) (he:tyRow P e=some z) (hzz:tyZero P e=some zs) (hs:ρ s=.d (.v (.slice (some ad) 0 0))) (hx:elemsN z (ρ x)=some es2) (h0:0<es2.length) (hm:es2.length≤268435456) (hf:m.fresh κ) :
  DoesR P o ρ m fun v m'=>∃ tl:List Value,v=.arr κ z es2.length∧m'=m.box κ (es2.flatten.map A.d++tl.map fun x=>A.d (.v x)):=fun G w a hok hr hlt Kc Q hK=>by
 have hsv:=v_rep hs hr
 obtain ⟨i,zv,hi,hzv,hsz,hzc,hpos,hby⟩:=tyRow_spec he
 have htu:=tyElem_run ht
 obtain ⟨z',q1,q2,q3⟩:=tyZero_run hzz w
 have hzcs:zv.cells=⟨zs⟩:=by
  unfold tyZero at hzz
  rw [hi] at hzz
  simp only [Option.bind_some,hzv] at hzz
  split at hzz
  ·have:=Option.some.inj hzz;rw [←this]
  ·cases hzz
 rcases elemsN_rep hok hx (hr x) with ⟨rfl,c,hu⟩|⟨bd,c,news,hu,hl,hrl,hc,h1,hz2⟩
 ·simp at h0
 ·have hbytes:es2.length*i.bytes≤140737488355328:=by
   have:es2.length*i.bytes≤268435456*4096:=Nat.mul_le_mul hm hby
   omega
  have hrun:=run_append_grow (P:=P) (w:=w) t o.type e i zv htu hi hzv ad 0 0 [] (by simp) (by simp) bd es2.length c news (by rw [hsz];exact hl) hc (by omega) (by omega) (by
   have:Builtin.nextslicecap (0+es2.length) 0=es2.length:=by rw [Nat.zero_add];exact nextslicecap_zero h0
   rw [this];omega)
  simp only [Nat.zero_add,Array.empty_append] at hrun
  have hge:=grownCap_ge w es2.length 0 e
  have hcm:=grownCap_le_maxLen w es2.length 0 e (by unfold maxLen;omega)
  generalize grownCap w es2.length 0 e=gc at hrun hge hcm
  have hzl:∀ v∈(Builtin.zeroCells zv.cells (gc - es2.length)).toList,v.oneCell'=true:=fun v hv=>by
   unfold Builtin.zeroCells at hv
   simp only [Array.toList_map,List.mem_map] at hv
   obtain ⟨j,_,rfl⟩:=hv
   rw [hzcs]
   have hzl':0<zs.length:=by rw [hzcs] at hzc;simp at hzc;omega
   have hj:j % zs.length<zs.length:=Nat.mod_lt _ hzl'
   have:((⟨zs⟩:Array Value)[j % (⟨zs⟩:Array Value).size]!)=zs[j % zs.length]:=by
    show ((⟨zs⟩:Array Value)[j % zs.length]!)=_
    rw [getElem!_pos (⟨zs⟩:Array Value) (j % zs.length) (by simpa using hj)];rfl
   rw [this]
   exact q3 _ (List.getElem_mem hj)
  generalize Builtin.zeroCells zv.cells (gc - es2.length)=tail at hrun hzl
  obtain ⟨G',e1,e2,e3⟩:=newBoxW (w':=w.drew.alloc (.cells (news.toArray++tail) e)) (us:=news++tail.toList) (t:=e) (cs:=es2.flatten.map .d++tail.toList.map fun x=>.d (.v x)) hok hf (RepAL.append (RepL_map hrl) (RepAL_v _)) (fun y hy=>(List.mem_append.1 hy).elim (h1 y) (hzl y)) (by
   rw [show es2.flatten.map A.d++tail.toList.map (fun x=>A.d (.v x))=(es2.flatten++tail.toList.map D.v).map A.d by rw [List.map_append,List.map_map];rfl]
   exact ltL_map _) (by
   show w.heap.push _=w.heap.push _
   congr 2
   apply Array.ext'
   simp) ⟨rfl,rfl,rfl⟩
  refine wp_append h ?_ (hK _ _ (.slice (some ⟨w.heap.size,0,none⟩) es2.length gc) _ G' ⟨_,rfl,rfl⟩ e1 e2 (by unfold RepA;exact ⟨_,gc,e3,rfl,hge,hcm⟩) (by unfold A.lt;exact .inr ⟨Nat.le_refl _,by omega⟩))
  rw [hsv,hu]
  exact hrun
def argT (k z:Nat) (es:List (List D)):A→Option A
 | .arr j z' n=>if j=k∧z'=z∧n=es.length then some (.d (.sl z es)) else none
 | x=>argOf none x
def argsT (k z:Nat) (es:List (List D)):List A→Option (List A)
 | []=>some []
 | x::xs=>match argT k z es x,argsT k z es xs with
  | some y,some ys=>some (y::ys)
  | _,_=>none
def withBox (C:CellR) (b:Nat) (vs:List Value):CellR:=fun b' o u=>C b' o u∨(b'=b∧vs[o]?=some u)
theorem argsT_rep {G:Gh}{k z b:Nat}{es:List (List D)}{vs:List Value} (hE:G.E k=some b) (hz:∀ e∈es,e.length=z) (hvs:RepL G.C es.flatten (vs.take es.flatten.length)) {n:Nat→Prop} :
  ∀ {xs ys:List A}{us:List Value},argsT k z es xs=some ys→A.ltL n xs→RepAL G xs us→RepAL (argG (withBox G.C b vs) none 0) ys us
 | [],ys,us,h,_,hr=>by
  simp only [argsT,Option.some.injEq] at h
  subst h
  unfold RepAL at hr ⊢
  exact hr
 | x::xs,ys,us,h,hl,hr=>by
  simp only [argsT] at h
  unfold A.ltL at hl
  split at h
  ·rename_i y ys' h1 h2
   simp only [Option.some.injEq] at h
   subst h
   unfold RepAL at hr
   obtain ⟨u,us',rfl,h3,h4⟩:=hr
   unfold RepAL
   refine ⟨u,us',rfl,?_,argsT_rep hE hz hvs h2 hl.2 h4⟩
   unfold argT at h1
   split at h1
   ·rename_i j z' m'
    split at h1
    ·rename_i hj
     obtain ⟨rfl,rfl,rfl⟩:=hj
     have:=Option.some.inj h1;subst this
     unfold RepA at h3 ⊢
     obtain ⟨b',cap,e1,rfl,e2,e3⟩:=h3
     rw [hE] at e1
     have:=Option.some.inj e1;subst this
     unfold RepD
     refine ⟨_,cap,rfl,e2,e3,.inr ⟨b,0,rfl,RepEs.ofList hz (us:=vs.take es.flatten.length) (RepL.mono (fun _ _ _ hc=>.inl hc) _ _ hvs) fun i u hi=>.inr ⟨rfl,?_⟩⟩⟩
     rw [List.getElem?_take] at hi
     split at hi
     ·simpa using hi
     ·cases hi
    ·cases h1
   ·have hm:=RepA.mono (G:=G) (G':={ G with C:=withBox G.C b vs }) (n:=n) ⟨fun _ _=>rfl,fun _ _=>rfl,fun _ _ _ hc=>.inl hc⟩ _ _ hl.1 h3
    exact argOf_rep (G:={ G with C:=withBox G.C b vs }) h1 (fun j hj=>by cases hj) hm
  ·cases h
theorem does_callT {f:FuncId}{xs:Array Operand}{ats:Array TypeId}{ys:List A}{k z:Nat}{es:List (List D)}{tl:List A}{x0:Value} (h:o.op=.call { callee:=.value (.func f),args:=xs,argTypes:=ats }) (hb:m.bx k=some (es.flatten.map A.d++tl)) (hz:∀ e∈es,e.length=z)
  (ha:argsT k z es (xs.toList.map ρ)=some ys) (hc:AC P f ys none fun r _=>r=.d (.v x0)):Does P o ρ m (.d (.v x0)) m:=fun G w a hok hr hlt Kc Q hK=>by
 obtain ⟨b,hE,⟨vs,ty,h1,h2,h3,h4⟩,h5⟩:=hok.box k _ hb
 have hvs:RepL G.C es.flatten (vs.take es.flatten.length):=by
  have:=RepAL.take es.flatten.length h2
  rw [List.take_left' (List.length_map _)] at this
  exact RepAL_unmap this
 have hok1:Cok (withBox G.C b vs) w:=by
  refine ⟨fun b' o u hc'=>?_,fun b' o u hc' hb2=>?_,hok.cok.gl.mono fun _ _ _ hc'=>.inl hc',hok.cok.tb⟩
  ·rcases hc' with hc'|⟨rfl,hv⟩
   ·exact hok.cell b' o u hc'
   ·exact ⟨by simp [World.cell?,h1,hv],h3 u (List.mem_of_getElem? hv)⟩
  ·rcases hc' with hc'|⟨rfl,_⟩
   ·exact hok.cok.nf b' o u hc' hb2
   ·exact frz_of_cells h1
 have hll:A.ltL m.us (xs.toList.map ρ):=by
  generalize xs.toList=l
  induction l with
  | nil=>unfold A.ltL;trivial
  | cons x l ih=>simp only [List.map_cons];unfold A.ltL;exact ⟨hlt x,ih⟩
 refine wp_call h hc.1 ((hc.2 w _ 0 [] _ hok1 (argsT_rep hE hz hvs ha hll (RepAL_map hr xs.toList)) rfl (by simp [XO])).mono fun e w' hpost=>?_)
 obtain ⟨v,r,bx',C',F,F',he,hQ,hbx,hC,hC',hfw,hcn,hrz,hbo,hnd,hloc⟩:=hpost
 cases bx' with
 | some zs=>simp at hbx
 | none=>
  unfold BoxO at hbo
  subst hbo
  simp only [XO,List.not_mem_nil,or_false] at hfw
  subst hQ
  unfold RepZ at hrz
  obtain ⟨_,hrz⟩:=hrz
  unfold RepD at hrz
  have hok2:MemOk G w' m:=hok.after (C':=G.C) (X:=fun _=>False) (fun _ _ _ hh=>hh) ⟨fun b o u hh=>hC'.cell b o u (hC b o u (.inl hh)),fun b o u hh=>hC'.nf b o u (hC b o u (.inl hh)),hok.cok.gl.mono fun _ _ _ hh=>hh,hC'.tb⟩ hfw (fun _ _ _ hh=>.inl hh) (fun _ _ hh=>hh) (fun _ _ hh=>hh) rfl (fun _ _ _ _ hh=>hh)
  exact ⟨v,he,hK v w' G ⟨⟨fun _ _=>rfl,fun _ _=>rfl,fun _ _ _ hh=>hh⟩,⟨hfw.os,hfw.tape,hfw.output,hfw.size,fun k hk _=>hfw.block k hk id⟩,fun _ _ _ hh=>.inl hh,fun b hh=>.inr hh,fun _ hh=>hh⟩ hok2 (by unfold RepA RepD;exact hrz) (by unfold A.lt;trivial)⟩
end
section
variable {P:Program}{en:En}{ops:Array Oper}{o:Oper}{l:List Oper}{K:St→Prop}{s:St}
theorem ow_bs0 {t e:TypeId}{z:Nat} (hg:Wanted s ops o) (hd:∀ x,o.dst=some x→x<en.sz) (h:o.op=.buildSlice t 0 #[]) (ht:tyElem P t=some e) (he:tyRow P e=some z)
  (hK:∀ ad,OWs P en ops l K ({ s with bx:=(s.nx,some [])::s.bx,nx:=s.nx+16 }.set o.dst (.d (.v (.slice (some ad) 0 0))))):OWs P en ops (o::l) K s:=
 ow_step hg hd (does_bs0 h ht he (mem_fresh s)) fun v m' ⟨ad,e1,e2⟩=>by
  subst e1 e2
  exact ⟨{ s with bx:=(s.nx,some [])::s.bx,nx:=s.nx+16 },by rw [St.mem_bump (s:=s) (h:=rfl),lk_cons];rfl,rfl,hK ad⟩
theorem ow_appendA {t e:TypeId}{y x:Operand}{z:Nat}{zs:List Value}{ad:Addr}{es2:List (List D)} (hg:Wanted s ops o) (hd:∀ x,o.dst=some x→x<en.sz) (h:o.op=.call { callee:=.builtin .append,args:=#[y,x],argTypes:=#[t,t] }) (ht:tyElem P t=some e) (he:tyRow P e=some z) (hzz:tyZero P e=some zs)
  (hs:ev s.f y=.d (.v (.slice (some ad) 0 0))) (hx:elemsN z (ev s.f x)=some es2) (h0:0<es2.length) (hm:es2.length≤268435456)
  (hK:∀ tl:List Value,OWs P en ops l K ({ s with bx:=(s.nx,some (es2.flatten.map A.d++tl.map fun x=>A.d (.v x)))::s.bx,nx:=s.nx+16 }.set o.dst (.arr s.nx z es2.length))):OWs P en ops (o::l) K s:=
 ow_step hg hd (does_appendA h ht he hzz hs hx h0 hm (mem_fresh s)) fun v m' ⟨tl,e1,e2⟩=>by
  subst e1 e2
  exact ⟨{ s with bx:=(s.nx,some (es2.flatten.map A.d++tl.map fun x=>A.d (.v x)))::s.bx,nx:=s.nx+16 },by rw [St.mem_bump (s:=s) (h:=rfl),lk_cons];rfl,rfl,hK tl⟩
theorem ow_callT {f:FuncId}{xs:Array Operand}{ats:Array TypeId}{ys:List A}{z:Nat}{tl:List A}{x0:Value} (k:Nat) (es:List (List D)) (hg:Wanted s ops o) (hd:∀ x,o.dst=some x→x<en.sz) (h:o.op=.call { callee:=.value (.func f),args:=xs,argTypes:=ats }) (hb:lk none s.bx k=some (es.flatten.map A.d++tl)) (hz:∀ e∈es,e.length=z)
  (ha:argsT k z es (xs.toList.map (ev s.f))=some ys) (hc:AC P f ys none fun r _=>r=.d (.v x0)) (hK:OWs P en ops l K (s.set o.dst (.d (.v x0)))):OWs P en ops (o::l) K s:=
 ow_does hg hd (does_callT h hb hz ha hc) s rfl rfl hK
theorem simS_freezeT (y:D) (t k z n:Nat) (es:List (List D)) (tl:List A) (h1:s.f t=.arr k z n) (h2:lk none s.bx k=some (es.flatten.map A.d++tl)) (h3:es.length=n) (h4:∀ e∈es,e.length=z) (hks:∀ k,en.ks k→k=0) (hk0:k≠0)
  (hy:∀ (C:CellR) (b cap:Nat),(en.w.heap.size≤b∨en.X b)→RepEs C z es b 0→RepD C (.sl z es) (.slice (some ⟨b,0,none⟩) n cap)→RepD C y (.slice (some ⟨b,0,none⟩) n cap))
  {a:Act}{w:World} (hs:SimS en s a w):SimS en { s with fr:=(t,.d y)::s.fr,bx:=(k,none)::s.bx } a w:=by
 obtain ⟨G,hG⟩:=hs
 obtain ⟨b,hE,⟨vs,ty,g1,g2,g3,g4⟩,g5⟩:=hG.ok.box k _ h2
 have hlk:s.mem.live k:=.inl (by rw [show s.mem.bx k=some (es.flatten.map A.d++tl) from h2];rfl)
 let G':Gh:={ G with C:=fun b' o u=>G.C b' o u∨(b'=b∧vs[o]?=some u) }
 have hle:∀ p,G.Le p G':=fun p=>⟨fun _ _=>rfl,fun _ _=>rfl,fun _ _ _ hc=>.inl hc⟩
 have hm:({ s with fr:=(t,.d y)::s.fr,bx:=(k,none)::s.bx }:St).mem={ s.mem with bx:=upd s.mem.bx k none }:=by
  unfold St.mem;simp only [lk_cons]
 have hlive:∀ j,({ s.mem with bx:=upd s.mem.bx k none }:Mem).live j→s.mem.live j∧(j=k→False):=fun j hj=>by
  rcases hj with hj|hj
  ·by_cases e:j=k
   ·subst e;simp at hj
   ·exact ⟨.inl (by simpa [upd_ne _ _ e] using hj),e⟩
  ·refine ⟨.inr hj,fun e=>?_⟩
   subst e
   have:=hG.ok.sep j (by rw [show s.mem.bx j=some (es.flatten.map A.d++tl) from h2];rfl)
   have hj':(s.mem.al j).isSome=true:=hj
   rw [this] at hj';cases hj'
 have hb':∀ j b'',s.mem.live j→j≠k→G.E j=some b''→b''≠b:=fun j b'' hj hne hE'' e=>hne (hG.ok.inj j k b hj hlk (e▸hE'') hE)
 refine ⟨G',⟨?_,fun t'=>?_,fun t'=>?_,hG.sz,hG.df,hG.fw,fun b o u hc=>.inl (hG.c0 b o u hc),fun b' o u hc hlt hx=>?_,fun b' ⟨j,hj,hE'⟩=>?_,hG.e0,hG.p0,hG.ks,hG.am,fun b' hb'=>⟨(hG.az b' hb').1,fun ⟨j,hj,hE'⟩=>(hG.az b' hb').2.1 ⟨j,(hlive j (by rw [hm] at hj;exact hj)).1,hE'⟩,fun o u hc=>hc.elim ((hG.az b' hb').2.2 o u) fun he=>(hG.az b' hb').2.1 ⟨k,hlk,by rw [he.1];exact hE⟩⟩⟩⟩
 ·rw [hm]
  refine ⟨⟨fun b' o u hc=>?_,fun b' o u hc hb2=>?_,hG.ok.cok.gl.mono (hle fun _=>True).C,hG.ok.cok.tb⟩,fun j cs hj=>?_,fun j m e y hj b'' hE''=>?_,fun j j' b'' hj hj'=>hG.ok.inj j j' b'' (hlive j hj).1 (hlive j' hj').1,fun j hj=>hG.ok.lt j (hlive j hj).1,fun j hj=>?_⟩
  ·rcases hc with hc|⟨rfl,hv⟩
   ·exact hG.ok.cell b' o u hc
   ·refine ⟨?_,g3 u (List.mem_of_getElem? hv)⟩
    simp [World.cell?,g1,hv]
  ·rcases hc with hc|⟨rfl,_⟩
   ·exact hG.ok.cok.nf b' o u hc hb2
   ·exact frz_of_cells g1
  ·by_cases e:j=k
   ·subst e;simp at hj
   ·rw [show ({ s.mem with bx:=upd s.mem.bx k none }:Mem).bx j=s.mem.bx j from upd_ne _ _ e] at hj
    obtain ⟨b1,q1,⟨us,ty',q2,q3,q4,q5⟩,q6⟩:=hG.ok.box j cs hj
    refine ⟨b1,q1,⟨us,ty',q2,RepAL.mono (hle _) _ _ q6 q3,q4,fun i u hc=>?_⟩,q6⟩
    rcases hc with hc|⟨rfl,_⟩
    ·exact q5 i u hc
    ·exact hb' j _ (.inl (by rw [hj];rfl)) e q1 rfl
  ·have hj':s.mem.al j=some (m,e,y):=hj
   obtain ⟨cur,q1,q2,q3,q4⟩:=hG.ok.row j m e y hj' b'' hE''
   refine ⟨cur,q1,q2,q3,fun i u hi hc=>?_⟩
   rcases hc with hc|⟨rfl,_⟩
   ·exact q4 i u hi hc
   ·have hlj:s.mem.live j:=.inr (by rw [hj'];rfl)
    have hne:j≠k:=fun e'=>by
     subst e'
     have:=hG.ok.sep j (by rw [show s.mem.bx j=some (es.flatten.map A.d++tl) from h2];rfl)
     rw [this] at hj';cases hj'
    exact hb' j _ hlj hne hE'' rfl
  ·by_cases e:j=k
   ·subst e;simp at hj
   ·exact hG.ok.sep j (by simpa [upd_ne _ _ e] using hj)
 ·show RepA G' (lk .top ((t,.d y)::s.fr) t') _
  rw [lk_cons]
  by_cases e:t'=t
  ·subst e
   rw [upd_same]
   have hr:=hG.rep t'
   rw [h1] at hr
   unfold RepA at hr ⊢
   obtain ⟨b1,cap,q1,q2,qc,q3⟩:=hr
   rw [hE] at q1
   have:=Option.some.inj q1;subst this
   have hes:RepEs G'.C z es b 0:=by
    have hvs:RepL G.C es.flatten (vs.take es.flatten.length):=by
     have:=RepAL.take es.flatten.length g2
     rw [List.take_left' (List.length_map _)] at this
     exact RepAL_unmap this
    refine RepEs.ofList h4 (us:=vs.take es.flatten.length) (RepL.mono (fun _ _ _ hc=>.inl hc) _ _ hvs) fun i u hi=>.inr ⟨rfl,?_⟩
    rw [List.getElem?_take] at hi
    split at hi
    ·simpa using hi
    ·cases hi
   rw [q2]
   refine hy G'.C b cap (hG.lv b ⟨k,hlk,hE⟩) hes ?_
   unfold RepD
   exact ⟨_,cap,by rw [h3],by rw [h3];exact qc,q3,.inr ⟨b,0,rfl,hes⟩⟩
  ·rw [upd_ne _ _ e]
   exact RepA.mono (hle _) _ _ (hG.kf t') (hG.rep t')
 ·show (lk .top ((t,.d y)::s.fr) t').lt _
  rw [lk_cons]
  by_cases e:t'=t
  ·subst e;rw [upd_same];unfold A.lt;trivial
  ·rw [upd_ne _ _ e];exact hG.kf t'
 ·rcases hc with hc|⟨rfl,_⟩
  ·exact hG.c1 b' o u hc hlt hx
  ·rcases hG.lv _ ⟨k,hlk,hE⟩ with h5|h5
   ·omega
   ·exact absurd h5 hx
 ·rw [hm] at hj
  exact hG.lv b' ⟨j,(hlive j hj).1,hE'⟩
theorem aw_freezeT {c:Code}{K:Exit→St→Prop} (y:D) (t k z n:Nat) (es:List (List D)) (tl:List A) (h1:s.f t=.arr k z n) (h2:lk none s.bx k=some (es.flatten.map A.d++tl)) (h3:es.length=n) (h4:∀ e∈es,e.length=z) (hks:∀ k,en.ks k→k=0) (hk0:k≠0)
  (hy:∀ (C:CellR) (b cap:Nat),(en.w.heap.size≤b∨en.X b)→RepEs C z es b 0→RepD C (.sl z es) (.slice (some ⟨b,0,none⟩) n cap)→RepD C y (.slice (some ⟨b,0,none⟩) n cap))
  (h:AWs P en c K { s with fr:=(t,.d y)::s.fr,bx:=(k,none)::s.bx }):AWs P en c K s:=fun a w hs=>h a w (simS_freezeT y t k z n es tl h1 h2 h3 h4 hks hk0 hy hs)
theorem aw_ownI {c:Code}{K:Exit→St→Prop} (t k z:Nat) (e:TypeId) (es:List (List D)) (h1:s.f t=.own k e z es) (h2:(lk none s.al k).isSome=true) (hf:flatEs es) (hX:∀ b,¬en.X b)
  (h:AWs P en c K { s with fr:=(t,.d (.iv (fun b=>en.w.heap.size≤b) (.sl z es)))::s.fr }):AWs P en c K s:=fun a w ⟨G,hG⟩=>by
 refine h a w ⟨G,sim_say (fun u hr=>?_) (fun _ _=>by unfold A.lt;trivial) hG⟩
 rw [h1] at hr
 unfold RepA at hr ⊢
 rw [repD_iv]
 unfold RepD
 rcases hr with ⟨_,rfl,rfl⟩|⟨b,hE,rfl,q1,q2,q3⟩
 ·exact ⟨none,0,rfl,Nat.le_refl _,by decide,.inl rfl⟩
 ·refine ⟨_,G.cp k,rfl,q1,q2,.inr ⟨b,0,rfl,repEs_on ?_ hf q3⟩⟩
  exact (hG.lv b ⟨k,.inr h2,hE⟩).resolve_right (hX b)
end
end Go.Proofs.YtndnefealooolaaGreatDoor.Eng
