/-
 The engine, part 30: data in new blocks; data that is kept while other data is written over.
-/
import Derived.Test.YtaammoodcgfhpaaDoorKE4
import Derived.Test.YtaammoodcgfhpaaDoorKE3
set_option linter.unusedSimpArgs false
set_option linter.unusedVariables false
set_option linter.defProp false
set_option maxRecDepth 100000
set_option maxHeartbeats 4000000
namespace Go.Proofs.YtaammoodcgfhpaaDoor.Eng
open Go Go.RowKit

theorem repD_iv {C:CellR}{p:Nat→Prop}{x:D}{u:Value}:RepD C (.iv p x) u↔RepD (C.on p) x u:=by rw [RepD]
theorem repD_v {C:CellR}{x u:Value}:RepD C (.v x) u↔u=x:=by rw [RepD]

/-! ### A call that answers with data in new blocks -/
def ACN (P:Program) (f:FuncId) (args:List A) (Dn:Nat→D):Prop:=ACW P f args none fun w r _=>r=.d (Dn w.heap.size)
abbrev ACI (P:Program) (f:FuncId) (args:List A) (X:D):Prop:=ACN P f args fun n=>.iv (fun b=>n≤b) X
theorem ACN.sem {P:Program}{f:FuncId}{args:List A}{Dn:Nat→D}{X:D} (h:ACN P f args Dn) (hX:∀ (n:Nat) (C:CellR) u,RepD C (Dn n) u→RepD C X u):AC P f args none fun r _=>r=.d X:=
 ⟨h.1,fun w C β F0 vs h1 h2 h3 h4=>(h.2 w C β F0 vs h1 h2 h3 h4).mono fun e w' ⟨v,r,bx',C',F,F',he,hq,hb,g1,g2,g3,g4,g5,g6⟩=>by
  subst hq
  refine ⟨v,.d X,bx',C',F,F',he,rfl,hb,g1,g2,g3,g4,?_,g6⟩
  unfold RepZ at g5 ⊢
  exact ⟨g5.1,hX _ _ _ g5.2⟩⟩
theorem calls_bodyI {P:Program}{f:FuncId}{fn:Func}{c:Code}{args:List A}{Dn:Nat→D} (hf:P.funcs[f]?=some fn) (hb:fn.body=some c) (he:∀ vs w,(callFunc f vs).run P w=.ok (.enter f vs) w) {n:Nat} (hn:fn.ntmps=n) (hl:args.length≤n) (ha:ArgsOk args)
  (h:∀ en:En,en.sz=n→Cok en.C en.w→(∀ b,¬en.X b)→(∀ k,en.ks k→k=0)→AWs P en c (Fin P fn none fun r _=>r=.d (Dn en.w.heap.size)) (St.init args none)):ACN P f args Dn:=
 calls_bodyW hf hb he hn hl ha (fun zs h=>by cases h) fun en h1 h2 h3 h4 _=>h en h1 h2 (h3 rfl) h4

theorem calls_bodyL {P:Program}{f:FuncId}{fn:Func}{c:Code}{args:List A}{Q:Rz→Option (List Rz)→Prop} (hf:P.funcs[f]?=some fn) (hb:fn.body=some c) (he:∀ vs w,(callFunc f vs).run P w=.ok (.enter f vs) w) {n:Nat} (hn:fn.ntmps=n) (hl:args.length≤n) (ha:ArgsOk args)
  (h:∀ en:En,en.sz=n→Cok en.C en.w→(∀ b,¬en.X b)→(∀ k,en.ks k→k=0)→AWs P en c (Fin P fn none Q) (St.init args none)):AC P f args none Q:=
 calls_bodyW (Q:=fun _=>Q) hf hb he hn hl ha (fun zs h=>by cases h) fun en h1 h2 h3 h4 _=>h en h1 h2 (h3 rfl) h4
/-! What is handed over as it stands. -/
theorem toZ_own {m:Mem}{k z:Nat}{e:TypeId}{es:List (List D)} (h:m.al k=some (es.length,e,z)):ToZ m (.own k e z es) (.own e z es) [k]:=by unfold ToZ;exact ⟨rfl,rfl,h⟩
theorem on_agg1 {p:Nat→Prop}{x:D} (C:CellR) (u:Value) (k:RepD C (.agg [.iv p x]) u):RepD (C.on p) (.agg [x]) u:=by
 unfold RepD at k ⊢
 obtain ⟨us,h1,h2,h3⟩:=k
 refine ⟨us,h1,?_,h3⟩
 unfold RepL at h2 ⊢
 obtain ⟨v,vs,f1,f2,f3⟩:=h2
 refine ⟨v,vs,f1,repD_iv.1 f2,?_⟩
 unfold RepL at f3 ⊢
 exact f3
theorem on_iv {p:Nat→Prop}{x:D} (C:CellR) (u:Value) (k:RepD C (.iv p x) u):RepD (C.on p) x u:=repD_iv.1 k

/-! ### Arguments in certain blocks -/
def IvL (xs ys:List A):Prop:=∀ (C:CellR) bx β us,RepAL (argG C bx β) xs us→RepAL (argG C bx β) ys us
theorem IvL.nil:IvL [] []:=fun _ _ _ _ h=>h
theorem IvL.same {x:A}{xs ys:List A} (h:IvL xs ys):IvL (x::xs) (x::ys):=fun C bx β us k=>by
 unfold RepAL at k ⊢
 obtain ⟨u,us',h1,h2,h3⟩:=k
 exact ⟨u,us',h1,h2,h _ _ _ _ h3⟩
theorem IvL.iv {p:Nat→Prop}{x:D}{xs ys:List A} (h:IvL xs ys):IvL (.d (.iv p x)::xs) (.d x::ys):=fun C bx β us k=>by
 unfold RepAL at k ⊢
 obtain ⟨u,us',h1,h2,h3⟩:=k
 refine ⟨u,us',h1,?_,h _ _ _ _ h3⟩
 unfold RepA at h2 ⊢
 exact RepD.mono (fun _ _ _ hc=>hc.1) _ _ (repD_iv.1 h2)
theorem IvL.agg1 {p:Nat→Prop}{x:D}{xs ys:List A} (h:IvL xs ys):IvL (.d (.agg [.iv p x])::xs) (.d (.agg [x])::ys):=fun C bx β us k=>by
 unfold RepAL at k ⊢
 obtain ⟨u,us',h1,h2,h3⟩:=k
 refine ⟨u,us',h1,?_,h _ _ _ _ h3⟩
 unfold RepA at h2 ⊢
 unfold RepD at h2 ⊢
 obtain ⟨vs,e1,e2,e3⟩:=h2
 refine ⟨vs,e1,?_,e3⟩
 unfold RepL at e2 ⊢
 obtain ⟨v,vs',f1,f2,f3⟩:=e2
 exact ⟨v,vs',f1,RepD.mono (fun _ _ _ hc=>hc.1) _ _ (repD_iv.1 f2),f3⟩
theorem AC.iv {P:Program}{f:FuncId}{xs ys:List A}{bx:Option (List Rz)}{Q:Rz→Option (List Rz)→Prop} (h:AC P f ys bx Q) (k:IvL xs ys:=by repeat (first|exact IvL.nil|refine IvL.iv ?_|refine IvL.agg1 ?_|refine IvL.same ?_)):AC P f xs bx Q:=
 ⟨h.1,fun w C β F0 vs h1 h2 h3 h4=>h.2 w C β F0 vs h1 (k _ _ _ _ h2) h3 h4⟩
theorem ACN.iv {P:Program}{f:FuncId}{xs ys:List A}{Dn:Nat→D} (h:ACN P f ys Dn) (k:IvL xs ys:=by repeat (first|exact IvL.nil|refine IvL.iv ?_|refine IvL.agg1 ?_|refine IvL.same ?_)):ACN P f xs Dn:=
 ⟨h.1,fun w C β F0 vs h1 h2 h3 h4=>h.2 w C β F0 vs h1 (k _ _ _ _ h2) h3 h4⟩

/-! ### What a slot is said to hold -/
section
variable {P:Program}{en:En}{ops:Array Oper}{o:Oper}{l:List Oper}{K:St→Prop}{s:St}
theorem sim_say {t:Nat}{y:A}{a:Act}{w:World}{G:Gh} (h:∀ u,RepA G (s.f t) u→RepA G y u) (hl:∀ n,(s.f t).lt n→y.lt n) (hG:Sim en s.f s.mem a w G):Sim en ({ s with fr:=(t,y)::s.fr }:St).f ({ s with fr:=(t,y)::s.fr }:St).mem a w G:=by
 refine ⟨hG.ok,fun t'=>?_,fun t'=>?_,hG.sz,hG.df,hG.fw,hG.c0,hG.c1,hG.lv,hG.e0,hG.p0,hG.ks,hG.am,hG.az⟩
 ·show RepA G (lk .top ((t,y)::s.fr) t') _
  rw [lk_cons]
  by_cases e:t'=t
  ·subst e;rw [upd_same];exact h _ (hG.rep t')
  ·rw [upd_ne _ _ e];exact hG.rep t'
 ·show (lk .top ((t,y)::s.fr) t').lt _
  rw [lk_cons]
  by_cases e:t'=t
  ·subst e;rw [upd_same];exact hl _ (hG.kf t')
  ·rw [upd_ne _ _ e];exact hG.kf t'
def boundA (n:Nat):A→A
 | .d (.iv q x)=>.d (.iv (fun b=>q b∧b<n) x)
 | .d x=>.d (.iv (fun b=>b<n) x)
 | .sow k e z es p=>.sow k e z es fun b=>p b∧b<n
 | y=>y
theorem boundA_rep {G:Gh}{n:Nat} (h:∀ b o u,G.C b o u→b<n) {x:A}{u:Value} (k:RepA G x u):RepA G (boundA n x) u:=by
 unfold boundA
 split
 ·unfold RepA at k ⊢
  rw [repD_iv] at k ⊢
  exact RepD.mono (fun b o u hc=>⟨hc.1,hc.2,h _ _ _ hc.1⟩) _ _ k
 ·unfold RepA at k ⊢
  rw [repD_iv]
  exact RepD.mono (fun b o u hc=>⟨hc,h _ _ _ hc⟩) _ _ k
 ·unfold RepA at k ⊢
  exact k.mono (fun _ _ _ hc=>hc) fun b o u hc hp=>⟨hp,h b o u hc⟩
 ·exact k
theorem boundA_lt {n:Nat}{x:A}{m:Nat→Prop} (k:x.lt m):(boundA n x).lt m:=by
 unfold boundA
 split
 ·unfold A.lt;trivial
 ·unfold A.lt;trivial
 ·unfold A.lt at k ⊢;exact k
 ·exact k
def St.bound (n:Nat) (ts ks:List Nat) (s:St):St:={ s with fr:=ts.map (fun t=>(t,boundA n (s.f t)))++s.fr,bx:=ks.map (fun k=>(k,(lk none s.bx k).map fun cs=>cs.map (boundA n)))++s.bx }
theorem lk_over {α:Type} (d:α) (g:Nat→α):∀ (ts:List Nat) (l:List (Nat × α)) (t:Nat),lk d (ts.map (fun t=>(t,g t))++l) t=if t∈ts then g t else lk d l t
 | [],l,t=>by simp
 | x::ts,l,t=>by
  rw [List.map_cons,List.cons_append,lk_cons]
  by_cases e:t=x
  ·subst e;simp
  ·rw [upd_ne _ _ e,lk_over d g ts l t];simp [e]
theorem boundL_rep {G:Gh}{n:Nat} (h:∀ b o u,G.C b o u→b<n):∀ {cs:List A}{us:List Value},RepAL G cs us→RepAL G (cs.map (boundA n)) us
 | [],us,k=>k
 | c::cs,us,k=>by
  rw [List.map_cons]
  unfold RepAL at k ⊢
  obtain ⟨u,us',h1,h2,h3⟩:=k
  exact ⟨u,us',h1,boundA_rep h h2,boundL_rep h h3⟩
theorem boundL_lt {n:Nat}{m:Nat→Prop}:∀ {cs:List A},A.ltL m cs→A.ltL m (cs.map (boundA n))
 | [],k=>k
 | c::cs,k=>by
  rw [List.map_cons]
  unfold A.ltL at k ⊢
  exact ⟨boundA_lt k.1,boundL_lt k.2⟩
theorem bound_bx {n:Nat}{ts ks:List Nat}{s:St} (k:Nat):(s.bound n ts ks).mem.bx k=(if k∈ks then (lk none s.bx k).map (fun cs:List A=>cs.map (boundA n)) else s.mem.bx k):=lk_over (α:=Option (List A)) none (fun k=>(lk none s.bx k).map (fun cs:List A=>cs.map (boundA n))) ks s.bx k
theorem bound_live {n:Nat}{ts ks:List Nat}{s:St} (k:Nat):(s.bound n ts ks).mem.live k↔s.mem.live k:=by
 unfold Mem.live
 rw [bound_bx]
 split
 ·rw [Option.isSome_map];rfl
 ·rfl
theorem sim_bound {n:Nat}{a:Act}{w:World}{G:Gh} (h:∀ b o u,G.C b o u→b<n) (ts ks:List Nat) (s:St) (hG:Sim en s.f s.mem a w G):Sim en (s.bound n ts ks).f (s.bound n ts ks).mem a w G:=by
 have hf:∀ t,(s.bound n ts ks).f t=if t∈ts then boundA n (s.f t) else s.f t:=fun t=>lk_over A.top (fun t=>boundA n (s.f t)) ts s.fr t
 have hmine:∀ b,Mine G (s.bound n ts ks).mem b↔Mine G s.mem b:=fun b=>⟨fun ⟨k,hk,hE⟩=>⟨k,(bound_live k).1 hk,hE⟩,fun ⟨k,hk,hE⟩=>⟨k,(bound_live k).2 hk,hE⟩⟩
 refine ⟨⟨hG.ok.cok,fun k cs hk=>?_,hG.ok.row,fun k k' b hk hk'=>hG.ok.inj k k' b ((bound_live k).1 hk) ((bound_live k').1 hk'),fun k hk=>hG.ok.lt k ((bound_live k).1 hk),fun k hk=>?_⟩,fun t=>?_,fun t=>?_,hG.sz,hG.df,hG.fw,hG.c0,hG.c1,fun b hb=>hG.lv b ((hmine b).1 hb),hG.e0,hG.p0,hG.ks,hG.am,fun b hb=>⟨(hG.az b hb).1,fun hm=>(hG.az b hb).2.1 ((hmine b).1 hm),(hG.az b hb).2.2⟩⟩
 ·rw [bound_bx] at hk
  split at hk
  ·rw [Option.map_eq_some_iff] at hk
   obtain ⟨cs0,h0,rfl⟩:=hk
   obtain ⟨b,q1,⟨vs,ty,q2,q3,q4,q5⟩,q6⟩:=hG.ok.box k cs0 h0
   exact ⟨b,q1,⟨vs,ty,q2,boundL_rep h q3,q4,q5⟩,boundL_lt q6⟩
  ·exact hG.ok.box k cs hk
 ·refine hG.ok.sep k ?_
  rw [bound_bx] at hk
  split at hk
  ·rw [Option.isSome_map] at hk;exact hk
  ·exact hk
 ·rw [hf]
  split
  ·exact boundA_rep h (hG.rep t)
  ·exact hG.rep t
 ·rw [hf]
  split
  ·exact boundA_lt (hG.kf t)
  ·exact hG.kf t

theorem ACD.iv {f:FuncId}{xs ys:List A}{Dn:Nat→D} (h:ACD P f ys Dn) (k:IvL xs ys):ACD P f xs Dn:=⟨h.1,fun w C vs h1 h2=>h.2 w C vs h1 (k _ _ _ _ h2)⟩
theorem ACN.acd {f:FuncId}{args:List A}{Dn:Nat→D} (h:ACN P f args Dn):ACD P f args Dn:=
 ⟨h.1,fun w C vs h1 h2=>(h.2 w C 0 [] vs h1 h2 rfl (by simp [XO])).mono fun e w' ⟨v,r,bx',C',F,F',he,hq,hb,g1,g2,g3,g4,g5,g6⟩=>by
  subst hq
  unfold RepZ at g5
  exact ⟨v,C',he,g1,g2,⟨g3.os,g3.tape,g3.output,g3.size,fun k hk _=>g3.block k hk (by simp [XO])⟩,fun b o u hc=>(g4 b o u hc).imp id fun h=>h.elim id fun h=>by simp [XO] at h,g5.2⟩⟩

def flatEs (es:List (List D)):Prop:=∀ e∈es,∀ x∈e,∃ v,x=.v v
theorem repCs_on {C:CellR}{p:Nat→Prop}{b:Nat} (hp:p b):∀ {cs:List D}{o:Nat},(∀ x∈cs,∃ v,x=.v v)→RepCs C cs b o→RepCs (C.on p) cs b o
 | [],o,_,_=>by unfold RepCs;trivial
 | c::cs,o,hf,h=>by
  unfold RepCs at h ⊢
  obtain ⟨⟨u,h1,h2⟩,h3⟩:=h
  refine ⟨⟨u,⟨h1,hp⟩,?_⟩,repCs_on hp (fun x hx=>hf x (List.mem_cons_of_mem _ hx)) h3⟩
  obtain ⟨v,rfl⟩:=hf c (List.mem_cons_self ..)
  unfold RepD at h2 ⊢
  exact h2
theorem repEs_on {C:CellR}{p:Nat→Prop}{z b:Nat} (hp:p b):∀ {es:List (List D)}{o:Nat},flatEs es→RepEs C z es b o→RepEs (C.on p) z es b o
 | [],o,_,_=>by unfold RepEs;trivial
 | e::es,o,hf,h=>by
  unfold RepEs at h ⊢
  exact ⟨h.1,repCs_on hp (hf e (List.mem_cons_self ..)) h.2.1,repEs_on hp (fun x hx=>hf x (List.mem_cons_of_mem _ hx)) h.2.2⟩
theorem flat_map {α:Type} (f:α→Value) (l:List α):flatEs (l.map fun x=>[.v (f x)]):=fun e he x hx=>by
 obtain ⟨y,_,rfl⟩:=List.mem_map.1 he
 rw [List.mem_singleton] at hx
 exact ⟨_,hx⟩
mutual
def rzI (n:Nat):Rz→D
 | .d x=>x
 | .own _ z es=>.iv (fun b=>n≤b) (.sl z es)
 | .box _=>.v .nilIface
 | .arr _ _ _=>.v .nilIface
 | .agg zs=>.agg (rzIL n zs)
 | .tup zs=>.tup (rzIL n zs)
def rzIL (n:Nat):List Rz→List D
 | []=>[]
 | z::zs=>rzI n z::rzIL n zs
end
mutual
def rzOk:Rz→Prop
 | .d _=>True
 | .own _ _ es=>flatEs es
 | .box _=>False
 | .arr _ _ _=>False
 | .agg zs=>rzOkL zs
 | .tup zs=>rzOkL zs
def rzOkL:List Rz→Prop
 | []=>True
 | z::zs=>rzOk z∧rzOkL zs
end
mutual
theorem rzI_rep {C:CellR}{w:World}{n:Nat}:∀ {r:Rz}{v:Value}{F:List Nat},rzOk r→(∀ b∈F,n≤b)→RepZ C w r v F→RepD C (rzI n r) v
 | .d x,v,F,_,_,h=>by unfold RepZ at h;unfold rzI;exact h.2
 | .own e z es,v,F,hf,hF,h=>by
  unfold RepZ at h
  unfold rzOk at hf
  unfold rzI
  rw [repD_iv]
  unfold RepD
  rcases h with ⟨rfl,rfl,rfl⟩|⟨b,cp,rfl,h1,_⟩
  ·exact ⟨none,0,rfl,Nat.le_refl _,by decide,.inl rfl⟩
  ·rcases h1 with ⟨h1,_⟩|⟨b',h1,rfl,h2,h3,h4⟩
   ·cases h1
   ·obtain rfl:=Option.some.inj h1
    exact ⟨_,cp,rfl,h2,h3,.inr ⟨b,0,rfl,repEs_on (hF b (by simp)) hf h4⟩⟩
 | .box _,v,F,hf,_,_=>by unfold rzOk at hf;exact hf.elim
 | .arr _ _ _,v,F,hf,_,_=>by unfold rzOk at hf;exact hf.elim
 | .agg zs,v,F,hf,hF,h=>by
  unfold RepZ at h
  obtain ⟨us,rfl,h1,h2⟩:=h
  unfold rzOk at hf
  unfold rzI RepD
  exact ⟨us,rfl,rzIL_rep hf hF h1,h2⟩
 | .tup zs,v,F,hf,hF,h=>by
  unfold RepZ at h
  obtain ⟨us,rfl,h1⟩:=h
  unfold rzOk at hf
  unfold rzI RepD
  exact ⟨us,rfl,rzIL_rep hf hF h1⟩
theorem rzIL_rep {C:CellR}{w:World}{n:Nat}:∀ {rs:List Rz}{vs:List Value}{F:List Nat},rzOkL rs→(∀ b∈F,n≤b)→RepZL C w rs vs F→RepL C (rzIL n rs) vs
 | [],vs,F,_,_,h=>by unfold RepZL at h;unfold rzIL RepL;exact h.1
 | z::zs,vs,F,hf,hF,h=>by
  unfold RepZL at h
  obtain ⟨u,us',F1,F2,rfl,rfl,h1,h2⟩:=h
  unfold rzOkL at hf
  unfold rzIL RepL
  exact ⟨u,us',rfl,rzI_rep hf.1 (fun b hb=>hF b (List.mem_append_left _ hb)) h1,rzIL_rep hf.2 (fun b hb=>hF b (List.mem_append_right _ hb)) h2⟩
end
theorem AC.acd {f:FuncId}{args:List A}{r0:Rz} (h:AC P f args none fun r _=>r=r0) (hf:rzOk r0):ACD P f args fun n=>rzI n r0:=
 ⟨h.1,fun w C vs h1 h2=>(h.2 w C 0 [] vs h1 h2 rfl (by simp [XO])).mono fun e w' ⟨v,r,bx',C',F,F',he,hq,hb,g1,g2,g3,g4,g5,g6,g7,g8⟩=>by
  subst hq
  refine ⟨v,C',he,g1,g2,⟨g3.os,g3.tape,g3.output,g3.size,fun k hk _=>g3.block k hk (by simp [XO])⟩,fun b o u hc=>(g4 b o u hc).imp id fun h=>h.elim id fun h=>by simp [XO] at h,rzI_rep hf (fun b hb=>?_) g5⟩
  rcases g8 b (List.mem_append_right _ hb) with h|h
  ·exact h
  ·simp [XO] at h⟩

theorem ow_callD {f:FuncId}{xs:Array Operand}{ats:Array TypeId}{ys:List A}{Dn:Nat→D} (ts ks:List Nat) (hg:Wanted s ops o) (hd:∀ x,o.dst=some x→x<en.sz) (ho:o.op=.call { callee:=.value (.func f),args:=xs,argTypes:=ats })
  (ha:argsOf none (xs.toList.map (ev s.f))=some ys) (hc:ACD P f ys Dn) (hK:∀ n,en.w.heap.size≤n→OWs P en ops l K ((s.bound n ts ks).set o.dst (.d (Dn n)))):OWs P en ops (o::l) K s:=fun a w hs Q hQ=>by
 obtain ⟨G,hG⟩:=hs
 refine wpList_step fun K' hK'=>?_
 rw [if_pos (wanted_run hg hG.rep)]
 have hb:=sim_bound (n:=w.heap.size) (fun b o u hc=>cell_lt (hG.ok.cell b o u hc).1) ts ks s hG
 refine wp_call ho hc.1 ((hc.2 w G.C _ hG.ok.cok (argsOf_rep ha (fun j hj=>by cases hj) (RepAL_map (ev_rep hG.ok.cok.gl hG.rep) xs.toList))).mono fun e w' ⟨v,C',he,hC,hC',hfw,hcn,hr⟩=>?_)
 refine ⟨v,he,hK' _ _ (hK w.heap.size hG.fw.size _ _ ⟨{ G with C:=C' },?_⟩ Q hQ)⟩
 have hok1:MemOk { G with C:=C' } w' (s.bound w.heap.size ts ks).mem:=hb.ok.after (X:=fun _=>False) hC hC' hfw (fun b o u hc'=>by rcases hcn b o u hc' with h|h<;>simp [h]) (fun _ _ h=>h) (fun _ _ h=>h) rfl (fun _ _ _ _ h=>h)
 have:=hb.step (G':={ G with C:=C' }) (d:=o.dst) (v:=.d (Dn w.heap.size)) (u:=v) ⟨⟨fun _ _=>rfl,fun _ _=>rfl,hC⟩,⟨hfw.os,hfw.tape,hfw.output,hfw.size,fun k hk _=>hfw.block k hk id⟩,fun b o u hc'=>(hcn b o u hc').imp id .inl,fun b hb'=>.inr hb',fun _ h=>h⟩ hok1 hd (by unfold RepA;exact hr) (by unfold A.lt;trivial)
 rw [St.set_f,St.set_mem]
 exact this
theorem ow_callF {f:FuncId}{xs:Array Operand}{ats:Array TypeId}{ys:List A}{Dn:Nat→D} (hg:Wanted s ops o) (hd:∀ x,o.dst=some x→x<en.sz) (ho:o.op=.call { callee:=.value (.func f),args:=xs,argTypes:=ats })
  (ha:argsOf none (xs.toList.map (ev s.f))=some ys) (hc:ACN P f ys Dn) (hm:∀ m n,m≤n→∀ (C:CellR) u,RepD C (Dn n) u→RepD C (Dn m) u) (hK:OWs P en ops l K (s.set o.dst (.d (Dn en.w.heap.size)))):OWs P en ops (o::l) K s:=
 ow_callD [] [] hg hd ho ha hc.acd fun n hn a w ⟨G,hG⟩=>by
  refine hK a w ⟨G,?_⟩
  cases hd':o.dst with
  | none=>rw [hd'] at hG;exact hG
  | some d=>
   rw [hd'] at hG
   have:=sim_say (en:=en) (s:=(s.bound n [] []).set (some d) (.d (Dn n))) (t:=d) (y:=.d (Dn en.w.heap.size)) (a:=a) (w:=w) (G:=G) (fun u k=>by
    have e:((s.bound n [] []).set (some d) (.d (Dn n))).f d=.d (Dn n):=by show lk .top ((d,A.d (Dn n))::s.fr) d=_;rw [lk_cons,upd_same]
    rw [e] at k
    unfold RepA at k ⊢
    exact hm _ _ hn _ _ k) (fun n _=>by unfold A.lt;trivial) hG
   have ef:({ (s.bound n [] []).set (some d) (.d (Dn n)) with fr:=(d,.d (Dn en.w.heap.size))::((s.bound n [] []).set (some d) (.d (Dn n))).fr }:St).f=(s.set (some d) (.d (Dn en.w.heap.size))).f:=by
    funext j
    show lk .top ((d,A.d (Dn en.w.heap.size))::(d,A.d (Dn n))::s.fr) j=lk .top ((d,A.d (Dn en.w.heap.size))::s.fr) j
    rw [lk_cons,lk_cons,lk_cons]
    by_cases e:j=d
    ·subst e;rw [upd_same,upd_same]
    ·rw [upd_ne _ _ e,upd_ne _ _ e,upd_ne _ _ e]
   rw [ef] at this
   exact this

/-! ### A call that writes over some data, while other data is kept -/
def CokM (C:CellR) (w:World):Prop:=∀ b o u,C b o u→w.cell? ⟨b,o,none⟩=some u∧u.oneCell'=true∧w.frozen? ⟨b,o,none⟩=false
def ACM (P:Program) (f:FuncId) (X:D) (k k':Int) (X':Option D):Prop:=
 (∀ vs w,(callFunc f vs).run P w=.ok (.enter f vs) w)∧
 ∀ (w:World) (Ce C:CellR) (u:Value),Cok Ce w→(∀ b o v,Ce b o v→¬∃ o v,C b o v)→CokM C w→RepD C X u→Calls P f ⟨[u,.int .i64 k]⟩ w fun e w'=>e=.returned (.int .i64 k')∧BelowX (fun b=>∃ o v,C b o v) w.heap.size w w'∧
  ∀ x,X'=some x→∃ C2:CellR,(∀ b o v,C2 b o v→∃ o v,C b o v)∧CokM C2 w'∧RepD C2 x u
def Safe (p:Nat→Prop) (x:A):Prop:=∀ (G:Gh) (C':CellR) u,(∀ b o v,G.C b o v→¬p b→C' b o v)→RepA G x u→RepA { G with C:=C' } x u
theorem Safe.v {p:Nat→Prop}{v:Value}:Safe p (.d (.v v)):=fun G C u _ h=>by
 unfold RepA at h ⊢
 rw [repD_v] at h ⊢
 exact h
theorem Safe.ptr {p:Nat→Prop}{k o:Nat}:Safe p (.ptr k o):=fun G C u _ h=>by unfold RepA at h ⊢;exact h
theorem Safe.top {p:Nat→Prop}:Safe p .top:=fun G C u _ h=>by unfold RepA;trivial
theorem Safe.iv {p q:Nat→Prop}{x:D} (h:∀ b,q b→p b→False):Safe p (.d (.iv q x)):=fun G C u hC k=>by
 unfold RepA at k ⊢
 rw [repD_iv] at k ⊢
 exact RepD.mono (fun b o u hc=>⟨hC _ _ _ hc.1 fun hp=>h b hc.2 hp,hc.2⟩) _ _ k
def SafeL (p:Nat→Prop):List A→Prop
 | []=>True
 | c::cs=>Safe p c∧SafeL p cs
theorem SafeL.rep {p:Nat→Prop}{G:Gh}{C':CellR} (hC:∀ b o v,G.C b o v→¬p b→C' b o v):∀ {cs:List A}{us:List Value},SafeL p cs→RepAL G cs us→RepAL { G with C:=C' } cs us
 | [],us,_,k=>by unfold RepAL at k ⊢;exact k
 | c::cs,us,h,k=>by
  unfold RepAL at k ⊢
  obtain ⟨u,us',h1,h2,h3⟩:=k
  exact ⟨u,us',h1,h.1 G C' u hC h2,SafeL.rep hC h.2 h3⟩
def St.keep (s:St) (ts ks:List Nat):St:={ fr:=ts.map fun t=>(t,s.f t),bx:=ks.map fun k=>(k,lk none s.bx k),al:=[],nx:=s.nx }
theorem keep_f (s:St) (ts ks:List Nat) (t:Nat):(s.keep ts ks).f t=if t∈ts then s.f t else .top:=by
 have:=lk_over A.top s.f ts [] t
 rw [List.append_nil] at this
 exact this
theorem keep_bx (s:St) (ts ks:List Nat) (k:Nat):(s.keep ts ks).mem.bx k=if k∈ks then s.mem.bx k else none:=by
 have:=lk_over none (lk none s.bx) ks [] k
 rw [List.append_nil] at this
 exact this
def markFr (p:Nat→Prop):Option Nat→Option D→List (Nat × A)
 | some t,some x=>[(t,.d (.iv p x))]
 | _,_=>[]
def SafeTs (p:Nat→Prop) (s:St):List Nat→Prop
 | []=>True
 | t::ts=>Safe p (s.f t)∧SafeTs p s ts
theorem SafeTs.all {p:Nat→Prop}{s:St}:∀ {ts:List Nat},SafeTs p s ts→∀ t∈ts,Safe p (s.f t)
 | _::_,h,t,ht=>(List.mem_cons.1 ht).elim (fun e=>e▸h.1) (SafeTs.all h.2 t)
def SafeKs (p:Nat→Prop) (s:St):List Nat→Prop
 | []=>True
 | k::ks=>(∀ cs,lk none s.bx k=some cs→SafeL p cs)∧SafeKs p s ks
theorem SafeKs.all {p:Nat→Prop}{s:St}:∀ {ks:List Nat},SafeKs p s ks→∀ k∈ks,∀ cs,lk none s.bx k=some cs→SafeL p cs
 | _::_,h,k,hk=>(List.mem_cons.1 hk).elim (fun e=>e▸h.1) (SafeKs.all h.2 k)
structure MarkOk (P:Program) (en:En) (s:St) (f:FuncId) (y:D) (p:Nat→Prop) (X:D) (k k':Int) (X':Option D) (ts ks:List Nat):Prop where
 c:ACM P f X k k' X'
 on:∀ (C:CellR) u,RepD C y u→RepD (C.on p) X u
 cok:Cok en.C en.w
 hp:∀ b,p b→en.w.heap.size≤b
 ts:SafeTs p s ts
 ks:SafeKs p s ks
theorem mark_core {f:FuncId}{x0 x1:Operand}{ats:Array TypeId}{y:D}{p:Nat→Prop}{X:D}{k k':Int}{X':Option D}{ts ks:List Nat}{tx:Option Nat}{a:Act}{w:World}{G:Gh}{Q:Exit→Act→World→Prop} (hm:MarkOk P en s f y p X k k' X' ts ks) (hG:Sim en s.f s.mem a w G) (hg:Wanted s ops o) (hd:∀ x,o.dst=some x→x<en.sz) (ho:o.op=.call { callee:=.value (.func f),args:=#[x0,x1],argTypes:=ats })
  (hx:ev s.f x0=.d y) (hk:ev s.f x1=.d (.v (.int .i64 k))) (htx:∀ t,tx=some t→a.tmps.getD t undef=a.eval x0∧X'.isSome=true)
  (hK:OWs P en ops l K (({ s.keep ts ks with fr:=markFr p tx X'++(s.keep ts ks).fr }:St).set o.dst (.d (.v (.int .i64 k'))))) (hQ:∀ s' a' w',SimS en s' a' w'→K s'→Q .normal a' w'):wpList P ops Q (o::l) a w:=by
 obtain ⟨hc,hon,hcok,hp,hts0,hks0⟩:=hm
 have hts:=hts0.all
 have hks:=hks0.all
 refine wpList_step fun K' hK'=>?_
 rw [if_pos (wanted_run hg hG.rep)]
 have hr0:=ev_rep hG.ok.cok.gl hG.rep x0
 have hr1:=ev_rep hG.ok.cok.gl hG.rep x1
 rw [hx] at hr0
 rw [hk] at hr1
 unfold RepA at hr0 hr1
 replace hr0:=hon _ _ hr0
 rw [repD_v] at hr1
 have hnl:∀ b,p b→¬Lst b:=fun b hb hl=>by
  obtain ⟨u,hu⟩:=lst_cell hcok.gl hl
  have:=cell_lt (hcok.cell _ _ _ hu).1
  have:=hp b hb
  omega
 have hcm:CokM (G.C.on p) w:=fun b o u h=>⟨(hG.ok.cell b o u h.1).1,(hG.ok.cell b o u h.1).2,hG.ok.cok.nf b o u h.1 (hnl b h.2)⟩
 have hce:Cok (G.C.on fun b=>¬p b) w:=⟨fun b o u h=>hG.ok.cell b o u h.1,fun b o u h hl=>hG.ok.cok.nf b o u h.1 hl,hcok.gl.mono fun b o u h=>⟨hG.c0 b o u h,fun hpb=>by
  have:=cell_lt (hcok.cell _ _ _ h).1
  have:=hp b hpb
  omega⟩,hG.ok.cok.tb⟩
 have hca:=hc.2 w _ _ _ hce (fun b o v h ⟨_,_,h'⟩=>h.2 h'.2) hcm hr0
 refine wp_call ho hc.1 ?_
 have e0:(#[x0,x1]:Array Operand).toList.map a.eval=[a.eval x0,.int .i64 k]:=by rw [←hr1];rfl
 rw [e0]
 refine hca.mono fun e w' ⟨he,hfw,hX⟩=>⟨_,he,hK' _ _ ?_⟩
 have hblk:∀ b,b<w.heap.size→(∀ o v,¬(G.C b o v∧p b))→w'.heap[b]?=w.heap[b]?:=fun b hb hn=>hfw.block b hb fun ⟨o,v,h⟩=>hn o v h
 have hblkp:∀ b,b<w.heap.size→¬p b→w'.heap[b]?=w.heap[b]?:=fun b hb hn=>hblk b hb fun o v h=>hn h.2
 -- the cells behind
 obtain ⟨C2,c1,c2,c3⟩:∃ C2:CellR,(∀ b o v,C2 b o v→p b∧∃ o v,G.C b o v)∧CokM C2 w'∧∀ x,X'=some x→RepD C2 x (a.eval x0):=by
  cases X' with
  | none=>exact ⟨fun _ _ _=>False,fun _ _ _ h=>h.elim,fun _ _ _ h=>h.elim,fun x hx=>by cases hx⟩
  | some x=>
   obtain ⟨C2,k1,k2,k3⟩:=hX x rfl
   exact ⟨C2,fun b o v h=>by obtain ⟨o',v',h'⟩:=k1 b o v h;exact ⟨h'.2,o',v',h'.1⟩,k2,fun y hy=>by cases hy;exact k3⟩
 let G':Gh:={ G with C:=fun b o u=>(G.C b o u∧¬p b)∨C2 b o u }
 have hGG:∀ b o v,G.C b o v→¬p b→G'.C b o v:=fun b o v h hn=>.inl ⟨h,hn⟩
 have hcok':Cok G'.C w':=by
  refine ⟨fun b o u h=>?_,fun b o u h hl=>?_,?_,hG.ok.cok.tb.keep hcok.gl fun b _ _ _ h1 h0 hC=>hblkp b (heap_lt h1) fun hpb=>by
   obtain ⟨u,hu⟩:=hC 0 h0
   have:=cell_lt (hcok.cell _ _ _ hu).1
   have:=hp b hpb
   omega⟩
  ·rcases h with h|h
   ·have:=hG.ok.cell b o u h.1
    exact ⟨(World.cell?_of_block (w:=w) (a:=⟨b,o,none⟩) (hblkp b (cell_lt this.1) h.2)).trans this.1,this.2⟩
   ·exact ⟨(c2 b o u h).1,(c2 b o u h).2.1⟩
  ·rcases h with h|h
   ·rw [frz_of_block (hblkp b (cell_lt (hG.ok.cell b o u h.1).1) h.2)]
    exact hG.ok.cok.nf b o u h.1 hl
   ·exact (c2 b o u h).2.2
  ·exact hcok.gl.mono fun b o u h=>.inl ⟨hG.c0 b o u h,fun hpb=>by
    have:=cell_lt (hcok.cell _ _ _ h).1
    have:=hp b hpb
    omega⟩
 have hlive:∀ j,(s.keep ts ks).mem.live j→s.mem.live j:=fun j hj=>by
  rcases hj with hj|hj
  ·rw [keep_bx] at hj
   split at hj
   ·exact .inl hj
   ·cases hj
  ·simp [St.keep,St.mem,lk] at hj
 have hmine:∀ b,Mine G' (s.keep ts ks).mem b→Mine G s.mem b:=fun b ⟨j,hj,hE⟩=>⟨j,hlive j hj,hE⟩
 have hsim:Sim en ({ s.keep ts ks with fr:=markFr p tx X'++(s.keep ts ks).fr }:St).f (s.keep ts ks).mem a w' G':=by
  have hbase:∀ t,RepA G' ((s.keep ts ks).f t) (a.tmps.getD t undef)∧((s.keep ts ks).f t).lt (s.keep ts ks).mem.us:=fun t=>by
   rw [keep_f]
   split
   ·rename_i ht
    exact ⟨hts t ht G _ _ hGG (hG.rep t),hG.kf t⟩
   ·exact ⟨by unfold RepA;trivial,by unfold A.lt;trivial⟩
  have hall:∀ t,RepA G' (({ s.keep ts ks with fr:=markFr p tx X'++(s.keep ts ks).fr }:St).f t) (a.tmps.getD t undef)∧(({ s.keep ts ks with fr:=markFr p tx X'++(s.keep ts ks).fr }:St).f t).lt (s.keep ts ks).mem.us:=fun t=>by
   cases tx with
   | none=>exact hbase t
   | some t0=>
    obtain ⟨e1,e2⟩:=htx t0 rfl
    obtain ⟨x,rfl⟩:=Option.isSome_iff_exists.1 e2
    show RepA G' (lk .top ((t0,_)::(s.keep ts ks).fr) t) _∧(lk .top ((t0,_)::(s.keep ts ks).fr) t).lt _
    rw [lk_cons]
    by_cases e:t=t0
    ·subst e
     rw [upd_same]
     refine ⟨?_,by unfold A.lt;trivial⟩
     unfold RepA
     rw [repD_iv,e1]
     exact RepD.mono (fun b o u hc=>⟨.inr hc,(c1 b o u hc).1⟩) _ _ (c3 x rfl)
    ·rw [upd_ne _ _ e]
     exact hbase t
  refine ⟨⟨hcok',fun k cs h=>?_,fun k n e z h=>?_,fun k k' b h h'=>hG.ok.inj k k' b (hlive k h) (hlive k' h'),fun k h=>hG.ok.lt k (hlive k h),fun k h=>rfl⟩,fun t=>(hall t).1,fun t=>(hall t).2,hG.sz,hG.df,?_,fun b o u h=>?_,fun b o u h hb hx=>?_,fun b hb=>hG.lv b (hmine b hb),hG.e0,hG.p0,hG.ks,?_,fun b hb=>?_⟩
  ·rw [keep_bx] at h
   split at h
   ·rename_i hk'
    obtain ⟨b,q1,⟨vs,ty,q2,q3,q4,q5⟩,q6⟩:=hG.ok.box k cs h
    refine ⟨b,q1,⟨vs,ty,(hblk b (heap_lt q2) fun o v hc=>q5 o v hc.1).trans q2,(hks k hk' cs h).rep hGG q3,q4,fun j u hc=>?_⟩,q6⟩
    rcases hc with hc|hc
    ·exact q5 j u hc.1
    ·obtain ⟨_,o',v',h'⟩:=c1 _ _ _ hc
     exact q5 o' v' h'
   ·cases h
  ·simp [St.keep,St.mem,lk] at h
  ·refine ⟨hfw.os.trans hG.fw.os,hfw.tape.trans hG.fw.tape,hfw.output.trans hG.fw.output,Nat.le_trans hG.fw.size hfw.size,fun b hb hx=>?_⟩
   refine (hblkp b (Nat.lt_of_lt_of_le hb hG.fw.size) fun hpb=>?_).trans (hG.fw.block b hb hx)
   have:=hp b hpb
   omega
  ·exact .inl ⟨hG.c0 b o u h,fun hpb=>by
    have:=cell_lt (hcok.cell _ _ _ h).1
    have:=hp b hpb
    omega⟩
  ·rcases h with h|h
   ·exact hG.c1 b o u h.1 hb hx
   ·have:=hp b (c1 b o u h).1
    omega
  ·refine en.stab w w' (fun b hb=>hfw.block b (hG.az b hb).1 fun ⟨o,v,h⟩=>(hG.az b hb).2.2 o v h.1) hG.am
  ·obtain ⟨a1,a2,a3⟩:=hG.az b hb
   refine ⟨Nat.lt_of_lt_of_le a1 hfw.size,fun hm'=>a2 (hmine b hm'),fun o u h=>?_⟩
   rcases h with h|h
   ·exact a3 o u h.1
   ·obtain ⟨_,o',v',h'⟩:=c1 b o u h
    exact a3 o' v' h'
 refine hK _ _ ⟨G',?_⟩ Q hQ
 have:=hsim.step Evo.refl hsim.ok (d:=o.dst) (v:=.d (.v (.int .i64 k'))) (u:=.int .i64 k') hd (by unfold RepA RepD;rfl) (by unfold A.lt;trivial)
 rw [St.set_f,St.set_mem]
 exact this
theorem ow_mark {f:FuncId}{x0 x1:Operand}{ats:Array TypeId}{y:D}{p:Nat→Prop}{X:D}{k k':Int}{X':Option D} (ts ks:List Nat) (hg:Wanted s ops o) (hd:∀ x,o.dst=some x→x<en.sz) (ho:o.op=.call { callee:=.value (.func f),args:=#[x0,x1],argTypes:=ats })
  (hx:ev s.f x0=.d y) (hk:ev s.f x1=.d (.v (.int .i64 k))) (hm:MarkOk P en s f y p X k k' X' ts ks)
  (hK:OWs P en ops l K ((s.keep ts ks).set o.dst (.d (.v (.int .i64 k'))))):OWs P en ops (o::l) K s:=fun a w ⟨_,hG⟩ _ hQ=>
 mark_core (tx:=none) hm hG hg hd ho hx hk (fun t h=>by cases h) hK hQ
theorem ow_mark3 {o1 o2:Oper}{f:FuncId}{t0 t1 t2 td:Nat}{x1:Operand}{ats:Array TypeId}{y:D}{p:Nat→Prop}{X X1:D}{k k':Int} (ts ks:List Nat) (h1:o1.op=.move (.tmp t0)) (d1:o1.dst=some t1) (g1:o1.guard=none) (h2:o2.op=.move x1) (d2:o2.dst=some t2) (g2:o2.guard=none) (g3:o.guard=none) (hd3:o.dst=some td)
  (hl1:t1<en.sz) (hl2:t2<en.sz) (hl3:td<en.sz) (hn:t1≠t2∧t0≠t1∧t0≠t2) (ho:o.op=.call { callee:=.value (.func f),args:=#[.tmp t1,.tmp t2],argTypes:=ats })
  (hx:s.f t0=.d y) (hk:ev (s.set (some t1) (.d y)).f x1=.d (.v (.int .i64 k))) (hm:MarkOk P en ((s.set (some t1) (.d y)).set (some t2) (.d (.v (.int .i64 k)))) f y p X k k' (some X1) ts ks)
  (hK:OWs P en ops l K (({ ((s.set (some t1) (.d y)).set (some t2) (.d (.v (.int .i64 k)))).keep ts ks with fr:=(t0,.d (.iv p X1))::(((s.set (some t1) (.d y)).set (some t2) (.d (.v (.int .i64 k)))).keep ts ks).fr }:St).set (some td) (.d (.v (.int .i64 k'))))):OWs P en ops (o1::o2::o::l) K s:=fun a w ⟨G,hG⟩ Q hQ=>by
 have hw:∀ (s:St) (o:Oper) (a:Act),o.guard=none→Region.wanted o (yielded ops a.tmps)=true:=fun s o a h=>by unfold Region.wanted;rw [h]
 refine wpList_step fun K1 hK1=>?_
 rw [if_pos (hw s o1 a g1)]
 refine wp_of_value (u:=a.eval (.tmp t0)) (w':=w) (by unfold execOp;rw [h1];simp) (hK1 _ _ ?_)
 have hG1:=hG.step Evo.refl hG.ok (d:=o1.dst) (v:=.d y) (u:=a.eval (.tmp t0)) (fun x hx=>by rw [d1] at hx;cases hx;exact hl1) (by
  have:=ev_rep hG.ok.cok.gl hG.rep (.tmp t0)
  have e:ev s.f (.tmp t0)=s.f t0:=rfl
  rw [e,hx] at this
  exact this) (by unfold A.lt;trivial)
 rw [←St.set_f,←St.set_mem s o1.dst (.d y),d1] at hG1
 rw [d1]
 have hv:(a.put (some t1) (a.eval (.tmp t0))).eval x1=.int .i64 k:=by
  have:=ev_rep hG1.ok.cok.gl hG1.rep x1
  rw [hk] at this
  unfold RepA at this
  exact repD_v.1 this
 refine wpList_step fun K2 hK2=>?_
 rw [if_pos (hw s o2 _ g2)]
 refine wp_of_value (u:=.int .i64 k) (w':=w) (by unfold execOp;rw [h2];simp [hv]) (hK2 _ _ ?_)
 have hG2:=hG1.step Evo.refl hG1.ok (d:=o2.dst) (v:=.d (.v (.int .i64 k))) (u:=.int .i64 k) (fun x hx=>by rw [d2] at hx;cases hx;exact hl2) (by unfold RepA RepD;rfl) (by unfold A.lt;trivial)
 rw [←St.set_f,←St.set_mem (s.set (some t1) (.d y)) o2.dst,d2] at hG2
 rw [d2]
 have hget:∀ (a:Act) (x:Nat) (u:Value) (t:Nat),t≠x→(a.put (some x) u).tmps.getD t undef=a.tmps.getD t undef:=fun a x u t h=>by
  simp [Act.put,Array.getElem?_setIfInBounds,Ne.symm h]
 have hsame:∀ (a:Act) (x:Nat) (u:Value),x<a.tmps.size→(a.put (some x) u).tmps.getD x undef=u:=fun a x u h=>by
  simp [Act.put,h]
 refine mark_core (tx:=some t0) hm hG2 (by unfold Wanted;rw [g3];trivial) (fun x hx=>by rw [hd3] at hx;cases hx;exact hl3) ho ?_ ?_ (fun t h=>?_) (by rw [hd3];exact hK) hQ
 ·show lk .top ((t2,_)::(t1,_)::s.fr) t1=_
  rw [lk_cons,lk_cons,upd_ne _ _ hn.1,upd_same]
 ·show lk .top ((t2,_)::(t1,_)::s.fr) t2=_
  rw [lk_cons,upd_same]
 ·obtain rfl:=Option.some.inj h
  refine ⟨?_,rfl⟩
  show _=Array.getD _ t1 undef
  rw [hget _ _ _ _ hn.2.2,hget _ _ _ _ hn.2.1,hget _ _ _ _ hn.1,hsame _ _ _ (by rw [hG.sz];exact hl1)]
  rfl
end

/-! ### Data in new blocks, said of the whole -/
theorem anti_iv {X:D}:∀ m n,m≤n→∀ (C:CellR) u,RepD C (.iv (fun b=>n≤b) X) u→RepD C (.iv (fun b=>m≤b) X) u:=fun m n h C u k=>by
 rw [repD_iv] at k ⊢
 exact RepD.mono (fun b o u hc=>⟨hc.1,Nat.le_trans h hc.2⟩) _ _ k
theorem repL_semv {C C':CellR}{v:Value}{xs ys:List D}{us:List Value} (h:∀ us,RepL C xs us→RepL C' ys us) (k:RepL C (.v v::xs) us):RepL C' (.v v::ys) us:=by
 unfold RepL at k ⊢
 obtain ⟨u,us',h1,h2,h3⟩:=k
 exact ⟨u,us',h1,by unfold RepD at h2 ⊢;exact h2,h _ h3⟩
theorem repL_semi {C:CellR}{m n:Nat} (hmn:m≤n) {x:D}{xs ys:List D}{us:List Value} (h:∀ us,RepL C xs us→RepL C ys us) (k:RepL C (.iv (fun b=>n≤b) x::xs) us):RepL C (.iv (fun b=>m≤b) x::ys) us:=by
 unfold RepL at k ⊢
 obtain ⟨u,us',h1,h2,h3⟩:=k
 exact ⟨u,us',h1,anti_iv _ _ hmn _ _ h2,h _ h3⟩
theorem anti_agg {f:Nat→List D} (h:∀ m n,m≤n→∀ (C:CellR) us,RepL C (f n) us→RepL C (f m) us):∀ m n,m≤n→∀ (C:CellR) u,RepD C (.agg (f n)) u→RepD C (.agg (f m)) u:=fun m n hmn C u k=>by
 unfold RepD at k ⊢
 obtain ⟨us,h1,h2,h3⟩:=k
 exact ⟨us,h1,h m n hmn C us h2,h3⟩
def Sem (x y:D):Prop:=∀ (C:CellR) u,RepD C x u→RepD C y u
def OnS (p:Nat→Prop) (x y:D):Prop:=∀ (C:CellR) u,RepD C x u→RepD (C.on p) y u
theorem OnS.v {p:Nat→Prop}{v:Value}:OnS p (.v v) (.v v):=fun C u h=>by unfold RepD at h ⊢;exact h
theorem OnS.iv {p:Nat→Prop}{x:D}:OnS p (.iv p x) x:=fun C u h=>repD_iv.1 h
inductive OnSL (p:Nat→Prop):List D→List D→Prop
 | nil:OnSL p [] []
 | cons {x y xs ys}:OnS p x y→OnSL p xs ys→OnSL p (x::xs) (y::ys)
theorem OnSL.len {p:Nat→Prop}{xs ys:List D} (h:OnSL p xs ys):xs.length=ys.length:=by
 induction h with
 | nil=>rfl
 | cons _ _ ih=>simp [ih]
theorem OnSL.repCs {p:Nat→Prop}{C:CellR}{b:Nat} (hp:p b) {xs ys:List D} (h:OnSL p xs ys):∀ {o:Nat},RepCs C xs b o→RepCs (C.on p) ys b o:=by
 induction h with
 | nil=>intro o k;unfold RepCs;trivial
 | cons hx _ ih=>
  intro o k
  unfold RepCs at k ⊢
  obtain ⟨⟨u,h1,h2⟩,h3⟩:=k
  exact ⟨⟨u,⟨h1,hp⟩,hx _ _ h2⟩,ih h3⟩
theorem repEs_onS {α:Type}{p:Nat→Prop}{C:CellR}{z b:Nat} (hp:p b) {f g:α→List D} (hf:∀ a,OnSL p (f a) (g a)):∀ {l:List α}{o:Nat},RepEs C z (l.map f) b o→RepEs (C.on p) z (l.map g) b o
 | [],o,k=>by simp only [List.map_nil];unfold RepEs;trivial
 | a::l,o,k=>by
  simp only [List.map_cons] at k ⊢
  unfold RepEs at k ⊢
  exact ⟨(hf a).len▸k.1,(hf a).repCs hp k.2.1,repEs_onS hp hf k.2.2⟩
theorem freeze_new {α:Type}{en:En} (hX:∀ b,¬en.X b) {z n:Nat}{f g:α→List D}{l:List α} (hf:∀ a,OnSL (fun b=>en.w.heap.size≤b) (f a) (g a)) (C:CellR) (b cap:Nat) (hb:en.w.heap.size≤b∨en.X b) (he:RepEs C z (l.map f) b 0)
  (h:RepD C (.sl z (l.map f)) (.slice (some ⟨b,0,none⟩) n cap)):RepD C (.iv (fun b=>en.w.heap.size≤b) (.sl z (l.map g))) (.slice (some ⟨b,0,none⟩) n cap):=by
 rw [repD_iv]
 unfold RepD at h ⊢
 obtain ⟨a,cap,h1,h2,h3,_⟩:=h
 simp only [List.length_map] at h1 h2 ⊢
 exact ⟨a,cap,h1,h2,h3,.inr ⟨b,0,(by injection h1 with h1;exact h1.symm),repEs_onS (hb.resolve_right (hX b)) hf he⟩⟩
section
variable {P:Program}{en:En}{ops:Array Oper}{o:Oper}{l:List Oper}{K:St→Prop}{s:St}
theorem ow_callFA {f:FuncId}{xs:Array Operand}{ats:Array TypeId}{as ys:List A}{Dn:Nat→D} (hg:Wanted s ops o) (hd:∀ x,o.dst=some x→x<en.sz) (ho:o.op=.call { callee:=.value (.func f),args:=xs,argTypes:=ats })
  (hc:ACN P f ys Dn) (hK:OWs P en ops l K (s.set o.dst (.d (Dn en.w.heap.size)))) (hm:∀ m n,m≤n→∀ (C:CellR) u,RepD C (Dn n) u→RepD C (Dn m) u:=by first|exact anti_iv|assumption) (ha:xs.toList.map (ev s.f)=as:=by exact evT) (hy:argsOf none as=some ys:=by exact rfl):OWs P en ops (o::l) K s:=
 ow_callF hg hd ho (by rw [ha];exact hy) hc hm hK
theorem ow_callDA {f:FuncId}{xs:Array Operand}{ats:Array TypeId}{as ys:List A}{Dn:Nat→D} (ts ks:List Nat) (hg:Wanted s ops o) (hd:∀ x,o.dst=some x→x<en.sz) (ho:o.op=.call { callee:=.value (.func f),args:=xs,argTypes:=ats })
  (hc:ACD P f ys Dn) (hK:∀ n,en.w.heap.size≤n→OWs P en ops l K ((s.bound n ts ks).set o.dst (.d (Dn n)))) (ha:xs.toList.map (ev s.f)=as:=by exact evT) (hy:argsOf none as=some ys:=by exact rfl):OWs P en ops (o::l) K s:=
 ow_callD ts ks hg hd ho (by rw [ha];exact hy) hc hK
end
end Go.Proofs.YtaammoodcgfhpaaDoor.Eng
