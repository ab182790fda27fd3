/-
 Lines that tell of rules, as the program yields them.
-/
import Derived.Test.YtomfggmmhkpeeaaDoorKNW4
import Derived.Test.YtomfggmmhkpeeaaDoorKE50
import Derived.Test.YtomfggmmhkpeeaaDoorKN95
set_option linter.unusedSimpArgs false
set_option linter.unusedVariables false
set_option linter.defProp false
set_option maxRecDepth 100000
set_option maxHeartbeats 4000000
namespace Go.Proofs.YtomfggmmhkpeeaaDoor.Eng
open Go Go.RowKit Go.Shelf
attribute [local go_sem] Oper.semAt_some

theorem simS_v {en:En}{s:St}{a:Act}{w:World} (h:SimS en s a w) (t:Nat) {v:Value} (hv:s.f t=.d (.v v)):a.tmps.getD t undef=v:=by
 obtain ⟨G,hG⟩:=h
 have:=hG.rep t
 rw [hv] at this
 unfold RepA RepD at this
 exact this
theorem simS_below {w0:World}{C:CellR}{n:Nat}{s:St}{a:Act}{w:World} (h:SimS (enOf w0 C n) s a w):Below w0.heap.size w0 w:=by
 obtain ⟨G,hG⟩:=h
 exact hG.fw.below fun k _ hx=>hx
theorem simS_df {en:En}{s:St}{a:Act}{w:World} (h:SimS en s a w):a.defers=[]:=by
 obtain ⟨G,hG⟩:=h
 exact hG.df
def slL0 (l Bd:Nat) (u:Value) (n:Nat):List (Nat × Value):=[(0,.func (.yield l) #[] #[]),(1,.pointer (some ⟨Bd,0,none⟩)),(6,u),(7,.int .i64 (n:Nat))]
def slL (l Bd:Nat) (u:Value) (n k:Nat):List (Nat × Value):=slL0 l Bd u n++[(8,.int .i64 (k:Nat))]
theorem put_get {a:Act}{d:Nat}{v:Value} (h:d<a.tmps.size):(a.put (some d) v).eval (.tmp d)=v:=by simp [Act.eval,Act.put,h]
theorem put_ne {a:Act}{d t:Nat}{v:Value} (h:t≠d):(a.put (some d) v).tmps.getD t undef=a.tmps.getD t undef:=by
 have h':¬d=t:=fun e=>h e.symm
 simp [Act.put,Array.getD_eq_getD_getElem?,Array.getElem?_setIfInBounds,h']
theorem put_size {a:Act}{d:Nat}{v:Value}:(a.put (some d) v).tmps.size=a.tmps.size:=by simp [Act.put]
theorem not_run {P:Program}{a:Act}{w:World}{t:Nat}{b:Bool}{ty:TypeId} (o:Oper) (h:a.eval (.tmp t)=.bool b) (ho:o.op=.unOp .not ty (.tmp t)):(execOp a.eval o).run P w=.ok (.value (.bool (!b))) w:=by
 simp [execOp,ho,h,Op.unary]
theorem not_runT {P:Program}{a:Act}{w:World}{t:Nat}{ty:TypeId} (o:Oper) (h:a.eval (.tmp t)=.bool true) (ho:o.op=.unOp .not ty (.tmp t)):(execOp a.eval o).run P w=.ok (.value (.bool false)) w:=not_run o h ho
theorem not_runF {P:Program}{a:Act}{w:World}{t:Nat}{ty:TypeId} (o:Oper) (h:a.eval (.tmp t)=.bool false) (ho:o.op=.unOp .not ty (.tmp t)):(execOp a.eval o).run P w=.ok (.value (.bool true)) w:=not_run o h ho
section
variable {D:List RuleD}{M:Nat}
theorem lnS_pre (D:List RuleD) {k n:Nat} (h:k≤n):lnS D k <+: lnS D n:=by
 have e:lnS D k=(lnS D n).take k:=by
  unfold lnS
  rw [←List.map_take,List.take_range,Nat.min_eq_left h]
 rw [e]
 exact List.take_prefix _ _
private def tyF:=ai (ai (ai tg39 tg26) (ai tg28 (ai tg40 tg30))) (ai (ai tg42 tg3) (ai tg4 (ai tg5 tg9)))
theorem linesIt (hD:DB M D) (hM:M≤1048576) (hv:vDesc D=true) {n:Nat}{w:World}{C:CellR} (hC:Cok C w) {n₀ B Bd:Nat} (h0n:n₀≤w.heap.size) (hB:B<w.heap.size) (hCl:∀ b o u,C b o u→b<n₀) {u:Value} (hu:C Bd 0 u) (hr:RepD C (encDs D) u) :
  SeqStopsK Fence.wide n Tryd.prog 23 #[.pointer (some ⟨Bd,0,none⟩)] (fun x:ByteArray=>#[Value.string x]) (KpW n₀ w.heap.size B) (fun xs=>xs=lnS D D.length) (fun pre=>pre <+: lnS D D.length) D.length w:=fun l J Jx W hW hJ hJx hY h0=>by
 have hCW:=hC.below hW
 have hV:descP D:=descP_of hv
 have h24:D.length≤24:=hV.1.2
 have hDl:=hD.len
 obtain ⟨hc,_⟩:=hCW.cell _ _ _ hu
 have hr':=hr
 unfold encDs RepD at hr
 obtain ⟨ra,cap,rfl,_⟩:=hr
 simp only [List.length_map] at hc hu hr'
 have hpd:RepD C (.rp [encDs D]) (.pointer (some ⟨Bd,0,none⟩)):=by
  unfold RepD
  exact ⟨Bd,0,rfl,⟨_,hu,hr'⟩,by unfold RepCs;trivial⟩
 refine callsIn_of_wp Tryd.func23 rfl trivial ?_ rfl
 simp only [Tryd.ntmps23,List.size_toArray,List.length_cons,List.length_nil,Nat.reduceAdd,Nat.reduceSub,Array.replicate_succ,Array.replicate_zero,List.push_toArray,List.append_toArray,List.nil_append,List.cons_append]
 gi_wp2
 rename_i Q'
 have hc0:∀ wr,KpW n₀ w.heap.size B W wr→Cok C wr:=fun wr h=>hCW.kept hCl h.old
 refine wpIn_loop (fun a wr=>∃ k:Nat,k≤D.length∧a.defers=[]∧(a.tmps.size=42∧∀ x∈slL l Bd (Value.slice ra D.length cap) D.length k,a.tmps.getD x.1 undef=x.2)∧J (lnS D k) wr∧KpW n₀ w.heap.size B W wr)
  (fun a _=>D.length - (intOf (a.tmps.getD 8 undef)).toNat) ⟨0,Nat.zero_le _,rfl,⟨rfl,fun x hx=>by
   simp only [slL,slL0,List.cons_append,List.nil_append,List.mem_cons,List.not_mem_nil,or_false] at hx
   rcases hx with rfl|rfl|rfl|rfl|rfl<;>rfl⟩,h0,KpW.refl _ _ _ _⟩ ?_
 rintro a wr ⟨k,hk,hdf,hR,hJk,hKp⟩
 have hCr:=hc0 wr hKp
 have hwr:W.heap.size≤wr.heap.size:=hKp.size
 have hWs:=hW.size
 have g0:a.tmps.getD 0 undef=.func (.yield l) #[] #[]:=hR.2 (0,_) (by simp [slL,slL0])
 have g1:a.tmps.getD 1 undef=.pointer (some ⟨Bd,0,none⟩):=hR.2 (1,_) (by simp [slL,slL0])
 have g6:a.tmps.getD 6 undef=.slice ra D.length cap:=hR.2 (6,_) (by simp [slL,slL0])
 have g7:a.tmps.getD 7 undef=.int .i64 (D.length:Nat):=hR.2 (7,_) (by simp [slL,slL0])
 have g8:a.tmps.getD 8 undef=.int .i64 (k:Nat):=hR.2 (8,_) (by simp [slL,slL0])
 have hs0:=sim_raw hCr (n:=42) hR.1 hdf [(0,.v (.func (.yield l) #[] #[])),(1,.rp [encDs D]),(6,encDs D),(7,iD (D.length:Nat)),(8,iD (k:Nat))] (by
  intro t d hm
  simp only [List.mem_cons,List.not_mem_nil,or_false,Prod.mk.injEq] at hm
  rcases hm with ⟨rfl,rfl⟩|⟨rfl,rfl⟩|⟨rfl,rfl⟩|⟨rfl,rfl⟩|⟨rfl,rfl⟩
  ·rw [g0];unfold RepD;rfl
  ·rw [g1];exact hpd
  ·rw [g6];exact hr'
  ·rw [g7];unfold iD RepD;rfl
  ·rw [g8];unfold iD RepD;rfl)
 have hbel:∀ {s:St}{a:Act}{w:World},SimS (enOf wr C 42) s a w→Below wr.heap.size wr w:=fun h=>simS_below h
 generalize hen:enOf wr C 42=en at hs0 hbel
 have hsz:en.sz=42:=by rw [←hen];rfl
 have hks:∀ k,en.ks k→k=0:=by rw [←hen];exact fun k h=>h.elim
 refine wpIn_seq (ows_inK (R:=fun a=>a.tmps.size=42∧∀ x∈slL l Bd (Value.slice ra D.length cap) D.length k,a.tmps.getD x.1 undef=x.2) (keep_slots (by kernel_rfl)) hs0 hR fun K hK=>?_)
 simp only [frD,List.map_cons,List.map_nil]
 refine walkS ?_
 refine hK _ ?_
 clear hK K
 intro a1 w1 hs1 hR1
 have e9:=simS_v hs1 9 rfl
 have hb1:=hbel hs1
 have hJ1:=hJ _ wr w1 none hJk (below_grow0 hb1 (Nat.le_refl _)) (fun r e=>by cases e)
 refine wpIn_seq (wpIn_cond_split e9 (fun h=>?_) (fun h=>?_))
 ·have hkl:k<D.length:=by simpa using h
  obtain ⟨r,hr⟩:∃ r,D[k]?=some r:=⟨_,List.getElem?_eq_getElem hkl⟩
  have hrb:=hD.rule r (List.mem_of_getElem? hr)
  have hrD:=ruleD_get hr
  refine wpIn_skip ?_
  refine wpIn_seq (wpIn_block (wpIn_seq (ows_inK (R:=fun a=>a.tmps.size=42∧∀ x∈slL l Bd (Value.slice ra D.length cap) D.length k,a.tmps.getD x.1 undef=x.2) (keep_slots (by kernel_rfl)) hs1 hR1 fun K hK=>?_)))
  refine walkS ?_
  refine hK _ ?_
  clear hK K
  intro a2 w2 hs2 hR2
  have b1:=minOf_in D k
  have b2:=maxOf_in D k
  have b3:=depOf_in D k
  have f1:=fmtI_any (n:=minOf D k) (by omega) (by omega)
  have f2:=fmtI_any (n:=maxOf D k) (by omega) (by omega)
  have f3:=fmtI_any (n:=depOf D k) (by omega) (by omega)
  have c1:=minSizeI_c hD hM k
  have c2:=maxSizeI_c hD hM k
  have c3:=depI_c hD hM k
  have hl:r.name++⟨#[32]⟩++kName r.kind++⟨#[32]⟩++itoB (minOf D k)++⟨#[45]⟩++itoB (maxOf D k)++⟨#[32]⟩++itoB (depOf D k)=lineT D k:=by
   unfold lineT
   rw [hrD]
  have z0:=hrb.name
  have z4:=kName_size r.kind
  have z1:=itoI_size (n:=minOf D k) b1.1 (by omega)
  have z2:=itoI_size (n:=maxOf D k) b2.1 (by omega)
  have z3:=itoI_size (n:=depOf D k) b3.1 (by omega)
  have c4:=kindI_c r.kind
  generalize minOf D k=n1 at *
  generalize maxOf D k=n2 at *
  generalize depOf D k=n3 at *
  generalize itoB n1=s1 at *
  generalize itoB n2=s2 at *
  generalize itoB n3=s3 at *
  generalize kName r.kind=kn at *
  generalize hnm:r.name=nm at *
  obtain ⟨y1,y2,y3,y4,y5,y6,y7,y8⟩:=line_sizes (nm:=nm) (kn:=kn) (s1:=s1) (s2:=s2) (s3:=s3) (by omega) z4 z1 z2 z3
  dsimp only [Exit.then]
  refine wpIn_seq (aw_anyW 26 (R:=fun a=>a.tmps.size=42∧∀ x∈slL l Bd (Value.slice ra D.length cap) D.length k,a.tmps.getD x.1 undef=x.2) (fun ⟨_,_,hq⟩=>by obtain ⟨⟨v,hv⟩,_⟩:=hq;cases hv) (keep_slots (by kernel_rfl)) (by kernel_rfl) (by kernel_rfl) (by kernel_rfl) (by kernel_rfl) (by simp only [hsz];kernel_rfl) (fun T hT=>?_) hs2 hR2)
  (repeat (first|refine ctlS ?_|(refine ol_go ?_ (fun K1 hK1=>?_);exact trS;refine evS ?_;(try simp only [hnm]);refine hK1 _ _ ?_;clear hK1 K1)|(refine ow_go ?_ dsS (fun K1 hK1=>?_);exact trS;refine evS ?_;(try simp only [hnm]);refine hK1 _ ?_;clear hK1 K1)|refine skipS ?_|refine cS (c4) ?_|refine cS (c1) ?_|refine cS (c2) ?_|refine cS (c3) ?_|refine cS (f1) ?_|refine cS (f2) ?_|refine cS (f3) ?_|(refine callPreV ?_;(first|refine callN_funS rfl (c4) ?_|refine callN_funS rfl (c1) ?_|refine callN_funS rfl (c2) ?_|refine callN_funS rfl (c3) ?_|refine callN_funS rfl (f1) ?_|refine callN_funS rfl (f2) ?_|refine callN_funS rfl (f3) ?_))))
  rw [hl]
  refine hT _ ?_
  clear hT T
  intro a3 w3 hs3 hR3
  have e13:a3.eval (.tmp 13)=.func (.yield l) #[] #[]:=simS_v hs3 13 rfl
  have e38:a3.eval (.tmp 38)=.string (lineT D k):=simS_v hs3 38 rfl
  have hb3:=hbel hs3
  have hdf3:=simS_df hs3
  have hJ3:=hJ _ wr w3 none hJk (below_grow0 hb3 (Nat.le_refl _)) (fun r e=>by cases e)
  obtain ⟨fn,tmps,assign,body,hy,hRd⟩:=hY _ (lineT D k) w3 hJ3 (by rw [lnS_len];exact hkl)
  simp only [range_line] at hRd
  have hw3:=hb3.size
  clear hs3 hs2 hs1 hs0 c1 c2 c3 c4 f1 f2 f3
  have key:∀ (o:Oper) (ats:Array TypeId),o.op=.call { callee:=.value (.tmp 13),args:=#[.tmp 38],argTypes:=ats }→(execOp a3.eval o).run Tryd.prog w3=.ok (.round l fn tmps assign body) w3:=fun o ats ho=>by
   simp [execOp,ho,resolve,invoke,Deferred.ofValue,e13,e38,hy]
  have hKW:KpW n₀ w.heap.size B W w3:=hKp.trans (KpW.of_below hb3 (by omega) (by omega))
  refine wpListIn_plain rfl fun K hK=>?_
  unfold Oper.wpIn
  refine ⟨fun _ _=>trivial,?_⟩
  rw [show Fence.wide.round=none from rfl,Oper.semAt_none,key _ _ rfl,Oper.uponIn_round]
  refine ⟨(fun h=>by cases h),hRd.mono ?_⟩
  have hz39:39<a3.tmps.size:=by rw [hR3.1];decide
  rintro e W' (⟨rfl,hJ',hKp'⟩|⟨rfl,hJx'⟩)
  ·refine hK _ _ ?_
   refine wpListIn_plain rfl fun K2 hK2=>?_
   unfold Oper.wpIn
   refine ⟨fun _ _=>trivial,?_⟩
   rw [show Fence.wide.round=none from rfl,Oper.semAt_none,not_runT _ (put_get hz39) rfl,Oper.uponIn_value]
   refine hK2 _ _ ?_
   clear hK2 K2 hK K
   have hz40:40<(a3.put (some 39) (.bool true)).tmps.size:=by rw [put_size,hR3.1];decide
   dsimp only [Exit.then,wpListIn,Bool.not_true,Bool.not_false]
   refine wpIn_cond_false (put_get hz40) (wpIn_skip ?_)
   dsimp only [Exit.inBlock,Exit.then]
   have hk5:∀ t,t≠40→t≠39→((a3.put (some 39) (.bool true)).put (some 40) (.bool false)).tmps.getD t undef=a3.tmps.getD t undef:=fun t h1 h2=>(put_ne h1).trans (put_ne h2)
   have hz5:((a3.put (some 39) (.bool true)).put (some 40) (.bool false)).tmps.size=42:=by rw [put_size,put_size,hR3.1]
   have hd5:((a3.put (some 39) (.bool true)).put (some 40) (.bool false)).defers=[]:=hdf3
   generalize (a3.put (some 39) (.bool true)).put (some 40) (.bool false)=a5 at *
   have hKW':KpW n₀ w.heap.size B W W':=hKW.trans hKp'
   have hW's:=hKW'.size
   have hs5:=sim_raw (hc0 W' hKW') (n:=42) hz5 hd5 [(8,iD (k:Nat))] (by
    intro t d hm
    simp only [List.mem_cons,List.not_mem_nil,or_false,Prod.mk.injEq] at hm
    obtain ⟨rfl,rfl⟩:=hm
    rw [hk5 8 (by decide) (by decide),hR3.2 (8,.int .i64 (k:Nat)) (by simp [slL,slL0])]
    unfold iD RepD
    rfl)
   have hbel5:∀ {s:St}{a:Act}{w:World},SimS (enOf W' C 42) s a w→Below W'.heap.size W' w:=fun h=>simS_below h
   generalize hen5:enOf W' C 42=en5 at hs5 hbel5
   have hsz:en5.sz=42:=by rw [←hen5];rfl
   have hks:∀ k,en5.ks k→k=0:=by rw [←hen5];exact fun k h=>h.elim
   have hR5:a5.tmps.size=42∧∀ x∈slL0 l Bd (Value.slice ra D.length cap) D.length,a5.tmps.getD x.1 undef=x.2:=⟨hz5,fun x hx=>by
    rw [hk5 x.1 (by rintro e;simp [slL0] at hx;rcases hx with rfl|rfl|rfl|rfl<;>cases e) (by rintro e;simp [slL0] at hx;rcases hx with rfl|rfl|rfl|rfl<;>cases e)]
    exact hR3.2 x (by unfold slL;exact List.mem_append_left _ hx)⟩
   refine ows_inK (R:=fun a=>a.tmps.size=42∧∀ x∈slL0 l Bd (Value.slice ra D.length cap) D.length,a.tmps.getD x.1 undef=x.2) (keep_slots (by kernel_rfl)) hs5 hR5 fun K hK=>?_
   simp only [frD,List.map_cons,List.map_nil]
   refine walkS ?_
   refine hK _ ?_
   clear hK K
   intro a6 w6 hs6 hR6
   have e8:=simS_v hs6 8 rfl
   have hb6:=hbel5 hs6
   refine ⟨⟨k+1,hkl,simS_df hs6,⟨hR6.1,fun x hx=>?_⟩,hJ _ W' w6 none hJ' (below_grow0 hb6 (Nat.le_refl _)) (fun r e=>by cases e),hKW'.trans (KpW.of_below hb6 (by omega) (by omega))⟩,?_⟩
   ·unfold slL at hx
    rcases List.mem_append.1 hx with hx|hx
    ·exact hR6.2 x hx
    ·rw [List.mem_singleton] at hx
     subst hx
     rw [e8]
     simp
   ·rw [e8,g8]
    simp [intOf]
    omega
  ·refine hK _ _ ?_
   refine wpListIn_plain rfl fun K2 hK2=>?_
   unfold Oper.wpIn
   refine ⟨fun _ _=>trivial,?_⟩
   rw [show Fence.wide.round=none from rfl,Oper.semAt_none,not_runF _ (put_get hz39) rfl,Oper.uponIn_value]
   refine hK2 _ _ ?_
   clear hK2 K2 hK K
   have hz40:40<(a3.put (some 39) (.bool false)).tmps.size:=by rw [put_size,hR3.1];decide
   dsimp only [Exit.then,wpListIn,Bool.not_true,Bool.not_false]
   refine wpIn_cond_true (put_get hz40) (wpIn_ret ?_)
   exact ⟨hdf3,_,results_none rfl _ _ _,⟨_,rfl⟩,.inr ⟨_,lnS_pre D hkl,hJx'⟩⟩
 ·have hkl:k=D.length:=by
   have:¬k<D.length:=by simpa using h
   omega
  subst hkl
  refine wpIn_exit ?_
  exact ⟨simS_df hs1,_,results_none rfl _ _ _,⟨_,rfl⟩,.inl ⟨_,rfl,hJ1⟩⟩
end
end Go.Proofs.YtomfggmmhkpeeaaDoor.Eng
