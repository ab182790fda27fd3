/-
 The engine, part 50: regions that draw their order, whose last operations are walked in the raw (rounds of ranges over functions).
-/
import Derived.CallsIn
import Derived.OrdersIn
import Derived.TacticsIn
import Derived.Test.YtaammoodcgfhpaaDoorKE41
set_option linter.unusedSimpArgs false
set_option linter.unusedVariables false
set_option linter.defProp false
set_option maxRecDepth 100000
set_option maxHeartbeats 4000000
namespace Go.Proofs.YtaammoodcgfhpaaDoor.Eng
open Go Go.RowKit

section
variable {P:Program}{ops:Array Oper}
theorem wpIn_of_wp {n:Nat}{o:Oper}{a:Act}{w:World}{next:Act→World→Prop}{Q:Exit→Act→World→Prop} (h:o.wp P a w next Q):o.wpIn Fence.wide n P a w next Q:=by
 unfold Oper.wpIn
 refine ⟨fun _ _=>trivial,?_⟩
 rw [show Fence.wide.round=none from rfl,Oper.semAt_none]
 unfold Oper.wp at h
 generalize (execOp a.eval o).run P w=r at *
 cases r with
 | ok x w'=>
  cases x<;>simp only [Oper.upon] at h<;>simp only [Oper.uponIn]<;>
   first
    | exact h
    | exact ⟨(fun h=>by cases h),callsIn_wide.2 h⟩
    | exact ⟨(fun h=>by cases h),fun c cs _=>let ⟨v,w',r,s⟩:=(by assumption:Rows _ _ _ _ _) c cs;⟨v,w',r,stepsIn_wide.2 s⟩⟩
 | halt x w'=>cases x<;>simp only [Oper.upon] at h<;>simp only [Oper.uponIn]<;>exact h
def PutOf (o:Oper) (a a':Act):Prop:=∃ ds v,a'=({ a with defers:=ds }:Act).put o.dst v
theorem wp_keep {o:Oper}{a:Act}{w:World}{next next':Act→World→Prop}{Q Q':Exit→Act→World→Prop} (hn:∀ a' w',next a' w'→PutOf o a a'→next' a' w') (hq:∀ e a w,e≠.normal→Q e a w→Q' e a w) (h:o.wp P a w next Q):o.wp P a w next' Q':=by
 have hl:LetsOut Q→LetsOut Q':=fun ⟨a,w,h⟩=>⟨a,w,hq _ _ _ (by simp) h⟩
 unfold Oper.wp at *
 generalize (execOp a.eval o).run P w=r at *
 cases r with
 | ok x w'=>
  cases x<;>simp only [Oper.upon] at h ⊢<;>
   first
    | exact h
    | exact hn _ _ h ⟨_,_,rfl⟩
    | exact Calls.mono h (fun e w'' he=>by cases e<;>first|exact hn _ _ he ⟨a.defers,_,rfl⟩|exact hq _ _ _ (by simp) he|exact hl he)
    | exact Rows.mono h (fun v w'' he=>hn _ _ he ⟨a.defers,_,rfl⟩)
 | halt x w'=>cases x<;>simp only [Oper.upon] at h ⊢<;>first|exact h|exact hq _ _ _ (by simp) h
theorem wpList_keep {R:Act→Prop}{Q Q':Exit→Act→World→Prop} (hq:∀ e a w,e≠.normal→Q e a w→Q' e a w) (hk:∀ a w,Q .normal a w→R a→Q' .normal a w) :
  ∀ (l:List Oper) (a:Act) (w:World),(∀ o∈l,∀ a a',R a→PutOf o a a'→R a')→R a→wpList P ops Q l a w→wpList P ops Q' l a w
 | [],a,w,_,hR,h=>hk a w h hR
 | o::l,a,w,hst,hR,h=>by
  have hl:LetsOut Q→LetsOut Q':=fun ⟨a,w,h⟩=>⟨a,w,hq _ _ _ (by simp) h⟩
  have ih:=wpList_keep (R:=R) hq hk l
  unfold wpList at h ⊢
  split
  ·rename_i hw
   rw [if_pos hw] at h
   refine h.imp (fun h=>wp_keep (fun a' w' h1 h2=>?_) hq h) fun h=>⟨h.1,hl h.2⟩
   exact ih a' w' (fun o ho=>hst o (List.mem_cons_of_mem _ ho)) (hst o List.mem_cons_self a a' hR h2) h1
  ·rename_i hw
   rw [if_neg hw] at h
   exact ih _ w (fun o ho=>hst o (List.mem_cons_of_mem _ ho)) (hst o List.mem_cons_self a _ hR ⟨a.defers,_,rfl⟩) h
theorem wpOpIn_of {n i:Nat}{a:Act}{w:World}{R:Act→Prop}{K:Act→World→Prop}{Q:Exit→Act→World→Prop} (hno:¬LetsOut Q) (hR:R a) (hst:∀ o∈ops.toList,∀ a a',R a→PutOf o a a'→R a') {o:Oper} (ho:ops[i]?=some o) (h:wpOp P ops Q i (fun a' w'=>R a'→K a' w') a w):wpOpIn Fence.wide n P ops Q i K a w:=by
 have hm:o∈ops.toList:=by rw [Array.mem_toList_iff];exact Array.mem_of_getElem? ho
 unfold wpOp at h
 unfold wpOpIn
 simp only [ho] at h ⊢
 split
 ·rename_i hw
  rw [if_pos hw] at h
  exact wpIn_of_wp (wp_keep (fun a' w' h1 h2=>h1 (hst o hm a a' hR h2)) (fun _ _ _ _ h=>h) (h.resolve_right fun hx=>hno hx.2))
 ·rename_i hw
  rw [if_neg hw] at h
  exact ⟨fun _ _=>trivial,h (hst o hm a _ hR ⟨a.defers,_,rfl⟩)⟩
theorem suf_chainW {N:Nat}{Q:Exit→Act→World→Prop}{last:Nat} (hd:downs ops=true) (hrc:∀ j i,last≤j→j<ops.size→i<j→reach ops ops.size j i=true) :
  ∀ (suf:List Oper) (k n:Nat) (listed:Array Bool) (a:Act) (w:World),last≤k→k+suf.length=ops.size→ops.toList.drop k=suf→listed.size=ops.size→Closed ops listed→(∀ i,listed.getD i true=false↔(k≤i∧i<ops.size))→suf.length≤n→wpListIn Fence.wide N P ops Q suf a w→wpAnyIn Fence.wide N P .any ops Q n listed a w
 | [],k,n,listed,a,w,hk,hl,hs,hz,hc,hu,hn,h=>by
  have hr:Region.ready .any ops listed=[]:=by
   cases hq:Region.ready .any ops listed with
   | nil=>rfl
   | cons j js=>
    have hj:j∈Region.ready .any ops listed:=by rw [hq];simp
    have h1:=(hu j).1 (mem_ready.1 hj).1
    simp only [List.length_nil,Nat.add_zero] at hl
    omega
  have hq:Q .normal a w:=h
  cases n with
  | zero=>exact ⟨hr,hq⟩
  | succ n=>exact ⟨fun _=>hq,fun j hj=>by rw [hr] at hj;cases hj⟩
 | o::suf,k,0,listed,a,w,hk,hl,hs,hz,hc,hu,hn,h=>by simp at hn
 | o::suf,k,n+1,listed,a,w,hk,hl,hs,hz,hc,hu,hn,h=>by
  simp only [List.length_cons] at hl hn
  have hlt:k<ops.size:=by omega
  have hget:ops[k]?=some o:=by
   have h1:ops.toList[k]?=some o:=by
    have:=congrArg (fun l:List Oper=>l[0]?) hs
    simpa using this
   simpa using h1
  have hkr:k∈Region.ready .any ops listed:=mem_ready.2 ⟨(hu k).2 ⟨Nat.le_refl _,hlt⟩,o,hget,fun e he hb=>by
   have hlo:=downs_spec hd hget e he hb
   rw [←getD_tf (by rw [hz];omega)]
   cases hq:listed.getD e.on true with
   | true=>rfl
   | false=>
    have:=(hu e.on).1 hq
    omega⟩
  refine ⟨fun hr=>(by rw [hr] at hkr;cases hkr),fun i hi=>?_⟩
  obtain ⟨h0,ox,hox,hal⟩:=mem_ready.1 hi
  have hi2:=(hu i).1 h0
  have hik:i=k:=by
   by_cases e:i=k
   ·exact e
   ·have h1:=reach_listed hc hox (hrc i k (by omega) hi2.2 (by omega)) hal
    have h2:=(hu k).2 ⟨Nat.le_refl _,hlt⟩
    rw [getD_tf (by rw [hz];omega),h1] at h2
    cases h2
  subst hik
  obtain rfl:ox=o:=Option.some.inj (hox.symm.trans hget)
  have hlt':i<listed.size:=by rw [hz];omega
  have hK:∀ a w,wpListIn Fence.wide N P ops Q suf a w→wpAnyIn Fence.wide N P .any ops Q n (listed.setIfInBounds i true) a w:=fun a w h=>by
   refine suf_chainW hd hrc suf (i+1) n _ a w (by omega) (by omega) ?_ (by simp [hz]) (fun j o' ho hl' e he hb=>?_) (fun j=>?_) (by omega) h
   ·rw [←List.drop_drop,hs];rfl
   ·by_cases hj:i=j
    ·subst hj
     rw [hox] at ho
     have:=Option.some.inj ho;subst this
     exact getD_set_true (hal e he hb)
    ·rw [getD_set_ne false hj] at hl'
     exact getD_set_true (hc j o' ho hl' e he hb)
   ·rw [set_getD hlt',hu]
    constructor
    ·rintro ⟨h1,h2⟩
     omega
    ·rintro ⟨h1,h2⟩
     exact ⟨⟨by omega,h2⟩,by omega⟩
  unfold wpOpIn
  rw [hox]
  simp only
  unfold wpListIn at h
  split
  ·rename_i hw
   rw [if_pos hw] at h
   exact Oper.wpIn_mono hK h
  ·rename_i hw
   rw [if_neg hw] at h
   exact ⟨h.1,hK _ _ h.2⟩
theorem any_chainW {N:Nat}{en:En}{R:Act→Prop}{Q:Exit→Act→World→Prop} (hno:¬LetsOut Q) (hst:∀ o∈ops.toList,∀ a a',R a→PutOf o a a'→R a') {fr':Nat→A}{m':Mem}{last:Nat} (hlast:last≤ops.size) (hrc:∀ j i,last≤j→j<ops.size→i<j→reach ops ops.size j i=true) (hd:downs ops=true) (hQ:∀ a w G,Sim en fr' m' a w G→R a→wpListIn Fence.wide N P ops Q (ops.toList.drop last) a w) (hds:∀ (i:Nat) o,ops[i]?=some o→∀ x,o.dst=some x→x<en.sz) :
  ∀ (n:Nat) (l:List It) (listed:Array Bool) (fr:Nat→A) (m:Mem) (a:Act) (w:World) (G:Gh),l.length+(ops.size - last)≤n→LeftT ops last listed l→Frs l m→Ch P en.w.heap.size ops l fr m fr' m'→Sim en fr m a w G→R a→wpAnyIn Fence.wide N P .any ops Q n listed a w
 | n,[],listed,fr,m,a,w,G,hn,hl,hf,hc,hs,hR=>by
  cases hc with
  | nil=>
   refine suf_chainW hd hrc (ops.toList.drop last) last n listed a w (Nat.le_refl _) (by simp;omega) rfl hl.sz hl.cl (fun i=>?_) (by simp at hn ⊢;omega) (hQ a w G hs hR)
   rw [hl.un]
   simp
 | 0,x::l,listed,fr,m,a,w,G,hn,hl,hf,hc,hs,hR=>by simp at hn
 | n+1,y0::l0,listed,fr,m,a,w,G,hn,hl,hf,hc,hs,hR=>by
  refine ⟨fun hr=>absurd hr (hl.ready hlast hd),fun i hi=>?_⟩
  rcases (hl.un i).1 (mem_ready.1 hi).1 with hm|hm
  ·obtain ⟨x,hx,rfl⟩:=List.mem_map.1 hm
   obtain ⟨pre,post,hpp⟩:=List.append_of_mem hx
   rw [hpp] at hl hf hc hn
   have hg:Good fr m:=⟨hs.kf,hs.ok.lt,fun k cs hb=>by
    obtain ⟨_,_,_,h⟩:=hs.ok.box k cs hb
    exact h⟩
   have hap:∀ y∈pre,Apt ops y x:=fun y hy=>okPair_apt hl.cl ((hl.un y.i).2 (.inl (List.mem_map.2 ⟨y,by simp [hy],rfl⟩))) hi ((List.pairwise_append.1 hl.ok).2.2 y hy x (by simp))
   have hc':=hc.front hg hf hap
   have hl':=hl.set hi
   have hf':Frs (x::(pre++post)) m:=hf.perm List.perm_middle
   cases hc' with
   | @cons _ _ o _ fr1 _ _ m1 _ ho hex t=>
    refine wpOpIn_of hno hR hst ho (ex_wpOp ho (hds _ o ho) (hf'.1 x (by simp)) hs hex fun a' w' G' hs' hR'=>?_)
    exact any_chainW hno hst hlast hrc hd hQ hds n (pre++post) _ fr1 m1 a' w' G' (by simp only [List.length_append,List.length_cons] at hn ⊢;omega) hl' (hf'.tail rfl hex.us) t hs' hR'
  ·exfalso
   obtain ⟨h0,ox,hox,hal⟩:=mem_ready.1 hi
   have hxl:=hl.lt y0 List.mem_cons_self
   have h1:=reach_listed hl.cl hox (hrc i y0.i hm.1 hm.2 (by omega)) hal
   have h2:=(hl.un y0.i).2 (.inl (by simp))
   rw [getD_tf (by rw [hl.sz];omega),h1] at h2
   cases h2
end
section
variable {P:Program}{en:En}{ops:Array Oper}{s:St}
theorem aw_anyW (last:Nat) {N:Nat}{id:Nat}{Q:Exit→Act→World→Prop}{R:Act→Prop} (hno:¬LetsOut Q) (hkR:∀ o∈ops.toList,∀ a a',R a→PutOf o a a'→R a') (hm:P.follows .mixedOrders=true) (hd:downs ops=true) (hlast:decide (last≤ops.size)=true) (hrc:(List.range ops.size).all (fun j=>decide (j<last) || (List.range j).all fun i=>reach ops ops.size j i)=true) (hsz:ops.toList.all (fun o=>match o.dst with|some d=>decide (d<en.sz)|none=>true)=true)
  (h0:∀ T:St→Prop,(∀ s',(∀ a w,SimS en s' a w→R a→wpListIn Fence.wide N P ops Q (ops.toList.drop last) a w)→T s')→OL P en.w.heap.size ops (ops.toList.take last) [] (fun acc s'=>okAll ops (zipI acc 0)=true∧T s') s) {a:Act}{w:World} (hs0:SimS en s a w) (hR0:R a):(Code.region id ops true).wpIn Fence.wide N P Q a w:=by
 have h:=h0 (fun s'=>∀ a w,SimS en s' a w→R a→wpListIn Fence.wide N P ops Q (ops.toList.drop last) a w) fun _ h=>h
 obtain ⟨G,hs⟩:=hs0
 have hlast:=of_decide_eq_true hlast
 have hdrop:ops.toList.drop ([]:List Nat).length=ops.toList.take last++ops.toList.drop last:=by simp
 obtain ⟨L,s',h1,h2,h3,h4,h5,h6⟩:=ol_chainL (ops.toList.take last) _ [] s hdrop h
 simp only [List.length_nil,List.nil_append,Nat.sub_zero] at h1 h2 h5
 have hlt0:(ops.toList.take last).length=last:=by simp;omega
 rw [hlt0] at h1
 have hlen:L.length=last:=by
  have:=congrArg List.length h1
  simpa using this
 have hx:∀ x∈L,∀ k,rng x.κ k→s.nx+16*x.i≤k∧k<s.nx+16*x.i+16:=fun x hx k hk=>by
  unfold rng at hk
  rw [←h2 x hx] at hk
  exact hk
 rw [zipI_map L 0 (by rw [h1,hlen])] at h5
 have hpw:=okAll_pw h5
 rw [List.pairwise_map] at hpw
 have hst:L.Pairwise fun x y=>x.i<y.i:=by
  have:=range'_pw 0 last
  rw [←h1,List.pairwise_map] at this
  exact this
 have hrc':∀ j i,last≤j→j<ops.size→i<j→reach ops ops.size j i=true:=fun j i hj hjs hij=>by
  rw [List.all_eq_true] at hrc
  have:=hrc j (List.mem_range.2 hjs)
  rw [Bool.or_eq_true,decide_eq_true_eq,List.all_eq_true] at this
  rcases this with h|h
  ·omega
  ·exact h i (List.mem_range.2 hij)
 refine wpIn_region_any hm ?_
 have hs':Sim en s.f s.mem a { w with drawn:=w.drawn+1 } G:=by
  exact ⟨⟨⟨hs.ok.cok.cell,hs.ok.cok.nf,hs.ok.cok.gl,hs.ok.cok.tb⟩,hs.ok.box,hs.ok.row,hs.ok.inj,hs.ok.lt,hs.ok.sep⟩,hs.rep,hs.kf,hs.sz,hs.df,⟨hs.fw.os,hs.fw.tape,hs.fw.output,hs.fw.size,hs.fw.block⟩,hs.c0,hs.c1,hs.lv,hs.e0,hs.p0,hs.ks,en.stab w _ (fun _ _=>rfl) hs.am,hs.az⟩
 refine any_chainW hno hkR hlast hrc' hd (fun a' w' G' hs'=>h6 a' w' ⟨G',hs'⟩) (fun i o ho x hx=>?_) ops.size L _ _ _ a _ G (by omega) ⟨by simp,?_,?_,hst,hpw,fun x hx=>?_⟩ ⟨fun x hxL k k1 k2 hk=>?_,?_⟩ h3 hs' hR0
 ·rw [List.all_eq_true] at hsz
  have:=hsz o (by rw [Array.mem_toList_iff];exact Array.mem_of_getElem? ho)
  rw [hx] at this
  simpa using this
 ·intro j o ho hl
  by_cases hj:j<ops.size
  ·simp [hj] at hl
  ·simp [hj] at hl
 ·intro i
  rw [h1,List.mem_range']
  by_cases hi:i<ops.size
  ·simp only [hi,Array.getD_eq_getD_getElem?,Array.size_replicate,Array.getElem?_replicate,if_true,Option.getD_some,true_iff]
   by_cases e:last≤i
   ·exact .inr ⟨e,trivial⟩
   ·exact .inl ⟨i,by omega,by omega⟩
  ·simp only [hi,Array.getD_eq_getD_getElem?,Array.size_replicate,Array.getElem?_replicate,if_false,Option.getD_none,Bool.true_eq_false,false_iff]
   rintro (⟨j,hj,rfl⟩|⟨_,h⟩)
   ·omega
   ·exact h.elim
 ·have:x.i∈L.map It.i:=List.mem_map.2 ⟨x,hx,rfl⟩
  rw [h1,List.mem_range'] at this
  obtain ⟨j,hj,e⟩:=this
  omega
 ·have:=hx x hxL k ⟨k1,k2⟩
  have hk':k<s.nx:=hk
  omega
 ·refine hst.imp_of_mem ?_
  intro x y hxL hyL hxy k hk1 hk2
  have a1:=hx x hxL k hk1
  have a2:=hx y hyL k hk2
  omega
end
/-! ### The engine's state, from what one sees in the raw -/
def enOf (w:World) (C:CellR) (n:Nat):En:={ w:=w,C:=C,X:=fun _=>False,E:=fun _=>none,cp:=fun _=>0,ks:=fun _=>False,sz:=n }
def frD (l:List (Nat × D)):List (Nat × A):=l.map fun x=>(x.1,.d x.2)
theorem lk_frD:∀ (l:List (Nat × D)) (t:Nat),lk .top (frD l) t=.top∨∃ d,(t,d)∈l∧lk .top (frD l) t=.d d
 | [],t=>.inl rfl
 | (k,d)::l,t=>by
  show (if k=t then _ else _)=_∨_
  by_cases h:k=t
  ·subst h
   right
   exact ⟨d,by simp,by simp [frD,lk]⟩
  ·rcases lk_frD l t with h1|⟨d',h2,h3⟩
   ·left
    rw [if_neg h]
    exact h1
   ·right
    refine ⟨d',by simp [h2],?_⟩
    rw [←h3]
    simp only [frD,List.map_cons,lk]
    rw [if_neg h]
theorem sim_raw {w:World}{C:CellR} (hC:Cok C w) {a:Act}{n:Nat} (hn:a.tmps.size=n) (hdf:a.defers=[]) (l:List (Nat × D)) (hr:∀ t d,(t,d)∈l→RepD C d (a.tmps.getD t undef)) :
  SimS (enOf w C n) { fr:=frD l,bx:=[],al:=[],nx:=16 } a w:=by
 obtain ⟨G0,m1,m2,m3,m4⟩:=init_ok (args:=[]) (bx:=none) (β:=0) (F0:=[]) hC rfl (by simp [XO]) (fun zs h=>by cases h)
 have e:(St.init [] none).mem=(St.mem { fr:=frD l,bx:=[],al:=[],nx:=16 }):=rfl
 rw [e] at m1 m4
 refine ⟨G0,m1,fun t=>?_,fun t=>?_,hn,hdf,BelowX.refl _ _ _,fun b o u h=>by rw [m3];exact h,fun b o u h _ _=>by rw [m3] at h;exact h,fun b hb=>by have:=m4 b hb;simp [XO] at this,fun k hk=>hk.elim,fun k hk=>hk.elim,fun k hk=>hk.elim,trivial,fun b hb=>hb.elim⟩
 ·show RepA G0 (lk .top (frD l) t) _
  rcases lk_frD l t with h|⟨d,h1,h2⟩
  ·rw [h];unfold RepA;trivial
  ·rw [h2]
   unfold RepA
   rw [m3]
   exact hr t d h1
 ·show A.lt _ (lk .top (frD l) t)
  rcases lk_frD l t with h|⟨d,h1,h2⟩
  ·rw [h];unfold A.lt;trivial
  ·rw [h2];unfold A.lt;trivial
theorem ows_in {P:Program}{en:En}{id:Nat}{ops:Array Oper}{K:St→Prop}{s:St}{N:Nat}{R:Act→Prop}{Q:Exit→Act→World→Prop} (h:OWs P en ops ops.toList K s) (hst:∀ o∈ops.toList,∀ a a',R a→PutOf o a a'→R a') {a:Act}{w:World} (hs:SimS en s a w) (hR:R a)
  (hQ:∀ s' a' w',SimS en s' a' w'→K s'→R a'→Q .normal a' w'):(Code.region id ops false).wpIn Fence.wide N P Q a w:=
 wpIn_wide.2 (wp_region_list (wpList_keep (R:=R) (Q:=fun e a' w'=>e=.normal∧∃ s',SimS en s' a' w'∧K s') (fun e a w hne h=>absurd h.1 hne) (fun a w ⟨_,s',h1,h2⟩ h3=>hQ s' a w h1 h2 h3) ops.toList a w hst hR (h a w hs _ fun s' a' w' h1 h2=>⟨rfl,s',h1,h2⟩)))
theorem ows_inK {P:Program}{en:En}{id:Nat}{ops:Array Oper}{s:St}{N:Nat}{R:Act→Prop}{Q:Exit→Act→World→Prop} (hst:∀ o∈ops.toList,∀ a a',R a→PutOf o a a'→R a') {a:Act}{w:World} (hs:SimS en s a w) (hR:R a)
  (h:∀ K:St→Prop,(∀ s',(∀ a' w',SimS en s' a' w'→R a'→Q .normal a' w')→K s')→OWs P en ops ops.toList K s):(Code.region id ops false).wpIn Fence.wide N P Q a w:=
 ows_in (h (fun s'=>∀ a' w',SimS en s' a' w'→R a'→Q .normal a' w') fun _ h=>h) hst hs hR fun _ a' w' h1 h2 h3=>h2 a' w' h1 h3
theorem keep_slots {ops:Array Oper}{l:List (Nat × Value)}{n:Nat} (h:(ops.toList.all fun o=>match o.dst with|some d=>!(l.any fun x=>x.1==d)|none=>true)=true) :
  ∀ o∈ops.toList,∀ a a':Act,(a.tmps.size=n∧∀ x∈l,a.tmps.getD x.1 undef=x.2)→PutOf o a a'→a'.tmps.size=n∧∀ x∈l,a'.tmps.getD x.1 undef=x.2:=by
 intro o ho a a' ⟨h1,h2⟩ ⟨ds,v,e⟩
 subst e
 rw [List.all_eq_true] at h
 have hd:=h o ho
 cases hdst:o.dst with
 | none=>exact ⟨by simpa [Act.put] using h1,fun x hx=>by simpa [Act.put] using h2 x hx⟩
 | some d=>
  rw [hdst] at hd
  simp only [Bool.not_eq_true',List.any_eq_false,beq_iff_eq] at hd
  refine ⟨by simpa [Act.put] using h1,fun x hx=>?_⟩
  have hne:¬d=x.1:=fun e=>hd x hx e.symm
  have:=h2 x hx
  rw [←this]
  simp [Act.put,Array.getD_eq_getD_getElem?,Array.getElem?_setIfInBounds,hne]
end Go.Proofs.YtaammoodcgfhpaaDoor.Eng
