/-
 Lines that tell of code, as the program yields them.
-/
import Derived.Test.YtaammoodcgfhpaaDoorKNW5
import Derived.Test.YtaammoodcgfhpaaDoorKNC11
set_option linter.unusedSimpArgs false
set_option linter.unusedVariables false
set_option linter.defProp false
set_option maxRecDepth 100000
set_option maxHeartbeats 4000000
namespace Go.Proofs.YtaammoodcgfhpaaDoor.Eng
open Go Go.RowKit Go.Shelf
attribute [local go_sem] Oper.semAt_some

def slC00 (l Bd:Nat):List (Nat × Value):=[(0,.func (.yield l) #[] #[]),(1,.pointer (some ⟨Bd,0,none⟩))]
def slC0 (l:Nat) (u:Value) (n:Nat):List (Nat × Value):=[(0,.func (.yield l) #[] #[]),(7,u),(8,.int .i64 (n:Nat))]
def slC (l:Nat) (u:Value) (n k:Nat):List (Nat × Value):=slC0 l u n++[(9,.int .i64 (k:Nat))]
theorem Cok.keptB {C:CellR}{w w':World} (h:Cok C w) (hbl:∀ b o v,C b o v→w'.heap[b]?=w.heap[b]?):Cok C w':=by
 refine ⟨fun b' o v hc=>?_,fun b' o v hc hl=>?_,h.gl,h.tb.keep h.gl fun b' _ _ _ h1 h0 hC=>(hC 0 h0).elim fun u hu=>hbl b' 0 u hu⟩
 ·have:=h.cell _ _ _ hc
  exact ⟨(World.cell?_of_block (w:=w) (a:=⟨b',o,none⟩) (hbl _ _ _ hc)).trans this.1,this.2⟩
 ·rw [frz_of_block (hbl _ _ _ hc)]
  exact h.nf _ _ _ hc hl
section
variable {D:List RuleD}
private def tyF:=ai (ai (ai tg54 (ai tg26 tg28)) (ai tg38 (ai tg39 tg30))) (ai (ai tg41 (ai tg46 tg61)) (ai (ai tg3 tg4) (ai tg5 tg9)))
theorem codeIt {cs:List Ins}{es:List Int} (HP:AC Tryd.prog 20 [.d (encD D)] none (fun r' _=>r'=.d (prgE cs es))) (hlen:cs.length≤200000000) (hnth:∀ y,y<cs.length→∃ x,cs[y]?=some x∧insOK x∧cs.getD y (0,0,0)=x) {n:Nat}{w:World}{C:CellR} (hC:Cok C w) {n₀ B Bd:Nat} (h0n:n₀≤w.heap.size) (hB:B<w.heap.size) (hBm:∀ k,w.heap.size≤k→¬MineB w B k) (hCl:∀ b o u,C b o u→b<n₀) {u:Value} (hu:C Bd 0 u) (hr:RepD C (encDs D) u) :
  SeqStopsK Fence.wide n Tryd.prog 19 #[.pointer (some ⟨Bd,0,none⟩)] (fun x:ByteArray=>#[Value.string x]) (KpW n₀ w.heap.size B) (fun xs=>xs=lnC cs cs.length) (fun pre=>pre <+: lnC cs cs.length) cs.length w:=fun l J Jx W hW hJ hJx hY h0=>by
 have hCW:=hC.below hW
 obtain ⟨hc,_⟩:=hCW.cell _ _ _ hu
 have hpd:RepD C (.rp [encDs D]) (.pointer (some ⟨Bd,0,none⟩)):=by
  unfold RepD
  exact ⟨Bd,0,rfl,⟨_,hu,hr⟩,by unfold RepCs;trivial⟩
 refine callsIn_of_wp Tryd.func19 rfl trivial ?_ rfl
 simp only [Tryd.ntmps19,List.size_toArray,List.length_cons,List.length_nil,Nat.reduceAdd,Nat.reduceSub,Array.replicate_succ,Array.replicate_zero,List.push_toArray,List.append_toArray,List.nil_append,List.cons_append]
 have hWs:=hW.size
 have hs00:=sim_raw hCW (n:=24) (a:={ tmps:=#[.func (.yield l) #[] #[],.pointer (some ⟨Bd,0,none⟩),undef,undef,undef,undef,undef,undef,undef,undef,undef,undef,undef,undef,undef,undef,undef,undef,undef,undef,undef,undef,undef,undef],defers:=[] }) rfl rfl [(0,.v (.func (.yield l) #[] #[])),(1,.rp [encDs D])] (by
  intro t d hm
  simp only [List.mem_cons,List.not_mem_nil,or_false,Prod.mk.injEq] at hm
  rcases hm with ⟨rfl,rfl⟩|⟨rfl,rfl⟩
  ·unfold RepD;rfl
  ·exact hpd)
 have hbel00:∀ {s:St}{a:Act}{w:World},SimS (enOf W C 24) s a w→Below W.heap.size W w:=fun h=>simS_below h
 have hc100:∀ {s:St}{a:Act}{w:World}{G:Gh},Sim (enOf W C 24) s.f s.mem a w G→∀ b o u,G.C b o u→b<W.heap.size→C b o u:=fun hG b o u h hb=>hG.c1 b o u h hb id
 generalize hen0:enOf W C 24=en0 at hs00 hbel00 hc100
 have hsz:en0.sz=24:=by rw [←hen0];rfl
 have hks:∀ k,en0.ks k→k=0:=by rw [←hen0];exact fun k h=>h.elim
 have hR00:∀ a:Act,a={ tmps:=#[.func (.yield l) #[] #[],.pointer (some ⟨Bd,0,none⟩),undef,undef,undef,undef,undef,undef,undef,undef,undef,undef,undef,undef,undef,undef,undef,undef,undef,undef,undef,undef,undef,undef],defers:=[] }→a.tmps.size=24∧∀ x∈slC00 l Bd,a.tmps.getD x.1 undef=x.2:=by
  rintro a rfl
  refine ⟨rfl,fun x hx=>?_⟩
  simp only [slC00,List.mem_cons,List.not_mem_nil,or_false] at hx
  rcases hx with rfl|rfl<;>rfl
 refine wpIn_seq (ows_inK (R:=fun a=>a.tmps.size=24∧∀ x∈slC00 l Bd,a.tmps.getD x.1 undef=x.2) (keep_slots (by kernel_rfl)) hs00 (hR00 _ rfl) fun K hK=>?_)
 simp only [frD,List.map_cons,List.map_nil]
 (repeat (first|refine walkS ?_|refine cS (HP) ?_|(refine callPreV ?_;(first|refine callN_funS rfl (HP) ?_))))
 refine hK _ ?_
 clear hK K hR00 hs00
 rintro a0 W1 ⟨G,hG⟩ hR0
 have e9:a0.tmps.getD 9 undef=.int .i64 0:=simS_v ⟨G,hG⟩ 9 rfl
 have e8:a0.tmps.getD 8 undef=.int .i64 (cs.length:Nat):=simS_v ⟨G,hG⟩ 8 rfl
 have hbW1:=hbel00 ⟨G,hG⟩
 have hdf0:=simS_df ⟨G,hG⟩
 have hCx:Cok G.C W1:=hG.ok.cok
 have hrep7:RepA G (.d (codeE cs)) (a0.tmps.getD 7 undef):=hG.rep 7
 unfold RepA at hrep7
 obtain ⟨uc,huc⟩:∃ u,u=a0.tmps.getD 7 undef:=⟨_,rfl⟩
 rw [←huc] at hrep7
 have hCb:∀ b o v,G.C b o v→b<W.heap.size→b<n₀:=fun b o v h hb=>hCl _ _ _ (hc100 hG b o v h hb)
 have hW1s:=hbW1.size
 have hc0:∀ wr,KpW n₀ w.heap.size B W1 wr→Cok G.C wr:=fun wr h=>hCx.keptB fun b o v hcv=>by
  by_cases hb:b<W.heap.size
  ·exact h.old b (hCb b o v hcv hb)
  ·obtain ⟨og,hog,hogc⟩:=cells_of_cell (hCx.cell _ _ _ hcv).1
   have hm1:¬MineB W1 B b:=fun ⟨n1,c1,h1⟩=>hBm b (by omega) ⟨n1,c1,by
    rw [←h1]
    exact ((World.cell?_of_block (a:=⟨B,0,none⟩) ((hbW1.block B (by omega)).trans (hW.block B hB))).symm)⟩
   exact (h.new b og (by omega) hog hogc hm1).1.trans hog.symm
 have hJ0:J [] W1:=hJ [] W W1 none h0 (below_grow0 hbW1 (Nat.le_refl _)) (fun r e=>by cases e)
 clear hG hsz hks hen0 hbel00 hc100
 dsimp only [Exit.then]
 refine wpIn_block (wpIn_loop (fun a wr=>∃ k:Nat,k≤cs.length∧a.defers=[]∧(a.tmps.size=24∧∀ x∈slC l uc cs.length k,a.tmps.getD x.1 undef=x.2)∧J (lnC cs k) wr∧KpW n₀ w.heap.size B W1 wr)
  (fun a _=>cs.length - (intOf (a.tmps.getD 9 undef)).toNat) ⟨0,Nat.zero_le _,hdf0,⟨hR0.1,fun x hx=>by
   simp only [slC,slC0,List.cons_append,List.nil_append,List.mem_cons,List.not_mem_nil,or_false] at hx
   rcases hx with rfl|rfl|rfl|rfl
   ·exact hR0.2 (0,_) (by simp [slC00])
   ·exact huc.symm
   ·exact e8
   ·exact e9⟩,hJ0,KpW.refl _ _ _ _⟩ ?_)
 clear e9 e8 hdf0 hR0
 rintro a wr ⟨k,hk,hdf,hR,hJk,hKp⟩
 have hCr:=hc0 wr hKp
 have hwr:W1.heap.size≤wr.heap.size:=hKp.size
 have g0:a.tmps.getD 0 undef=.func (.yield l) #[] #[]:=hR.2 (0,_) (by simp [slC,slC0])
 have g7:a.tmps.getD 7 undef=uc:=hR.2 (7,_) (by simp [slC,slC0])
 have g8:a.tmps.getD 8 undef=.int .i64 (cs.length:Nat):=hR.2 (8,_) (by simp [slC,slC0])
 have g9:a.tmps.getD 9 undef=.int .i64 (k:Nat):=hR.2 (9,_) (by simp [slC,slC0])
 have hs0:=sim_raw hCr (n:=24) hR.1 hdf [(0,.v (.func (.yield l) #[] #[])),(7,codeE cs),(8,iD (cs.length:Nat)),(9,iD (k:Nat))] (by
  intro t d hm
  simp only [List.mem_cons,List.not_mem_nil,or_false,Prod.mk.injEq] at hm
  rcases hm with ⟨rfl,rfl⟩|⟨rfl,rfl⟩|⟨rfl,rfl⟩|⟨rfl,rfl⟩
  ·rw [g0];unfold RepD;rfl
  ·rw [g7];exact hrep7
  ·rw [g8];unfold iD RepD;rfl
  ·rw [g9];unfold iD RepD;rfl)
 have hbel:∀ {s:St}{a:Act}{w:World},SimS (enOf wr G.C 24) s a w→Below wr.heap.size wr w:=fun h=>simS_below h
 generalize hen:enOf wr G.C 24=en at hs0 hbel
 have hsz:en.sz=24:=by rw [←hen];rfl
 have hks:∀ k,en.ks k→k=0:=by rw [←hen];exact fun k h=>h.elim
 refine wpIn_seq (ows_inK (R:=fun a=>a.tmps.size=24∧∀ x∈slC l uc cs.length k,a.tmps.getD x.1 undef=x.2) (keep_slots (by kernel_rfl)) hs0 hR fun K hK=>?_)
 simp only [frD,List.map_cons,List.map_nil]
 refine walkS ?_
 refine hK _ ?_
 clear hK K
 intro a1 w1 hs1 hR1
 have e10:=simS_v hs1 10 rfl
 have hb1:=hbel hs1
 have hJ1:=hJ _ wr w1 none hJk (below_grow0 hb1 (Nat.le_refl _)) (fun r e=>by cases e)
 refine wpIn_seq (wpIn_cond_split e10 (fun h=>?_) (fun h=>?_))
 ·have hkl:k<cs.length:=by simpa using h
  obtain ⟨x,hx,hok,hgd⟩:=hnth k hkl
  refine wpIn_skip ?_
  refine wpIn_seq (wpIn_block (wpIn_seq (ows_inK (R:=fun a=>a.tmps.size=24∧∀ x∈slC l uc cs.length k,a.tmps.getD x.1 undef=x.2) (keep_slots (by kernel_rfl)) hs1 hR1 fun K hK=>?_)))
  refine walkS ?_
  refine hK _ ?_
  clear hK K
  intro a2 w2 hs2 hR2
  have f1:=fmtI_j (n:=(k:Nat)) (by unfold numOK;omega)
  have f2:=insI_c hok
  have z1:=itoJ_size (n:=(k:Nat)) (by unfold numOK;omega)
  have z2:=insT_size hok
  have hl:itoB (k:Nat)++⟨#[58,32]⟩++insT x=lineC cs k:=by unfold lineC;rw [hgd]
  generalize itoB (k:Nat)=s1 at *
  generalize insT x=s2 at *
  obtain ⟨y1,y2⟩:=code_sizes z1 z2
  dsimp only [Exit.then]
  refine wpIn_seq (aw_anyW 7 (R:=fun a=>a.tmps.size=24∧∀ x∈slC l uc cs.length k,a.tmps.getD x.1 undef=x.2) (fun ⟨_,_,hq⟩=>by obtain ⟨⟨v,hv⟩,_⟩:=hq;cases hv) (keep_slots (by kernel_rfl)) (by kernel_rfl) (by kernel_rfl) (by kernel_rfl) (by kernel_rfl) (by simp only [hsz];kernel_rfl) (fun T hT=>?_) hs2 hR2)
  (repeat (first|refine walkS ?_|refine cS (f1) ?_|refine cS (f2) ?_|(refine callPreV ?_;(first|refine callN_funS rfl (f1) ?_|refine callN_funS rfl (f2) ?_))))
  rw [hl]
  refine hT _ ?_
  clear hT T
  intro a3 w3 hs3 hR3
  have e14:a3.eval (.tmp 14)=.func (.yield l) #[] #[]:=simS_v hs3 14 rfl
  have e20:a3.eval (.tmp 20)=.string (lineC cs k):=simS_v hs3 20 rfl
  have hb3:=hbel hs3
  have hdf3:=simS_df hs3
  have hJ3:=hJ _ wr w3 none hJk (below_grow0 hb3 (Nat.le_refl _)) (fun r e=>by cases e)
  obtain ⟨fn,tmps,assign,body,hy,hRd⟩:=hY _ (lineC cs k) w3 hJ3 (by rw [lnC_len];exact hkl)
  simp only [range_lnC] at hRd
  have hw3:=hb3.size
  clear hs3 hs2 hs1 hs0 f1 f2
  have key:∀ (o:Oper) (ats:Array TypeId),o.op=.call { callee:=.value (.tmp 14),args:=#[.tmp 20],argTypes:=ats }→(execOp a3.eval o).run Tryd.prog w3=.ok (.round l fn tmps assign body) w3:=fun o ats ho=>by
   simp [execOp,ho,resolve,invoke,Deferred.ofValue,e14,e20,hy]
  have hKW:KpW n₀ w.heap.size B W1 w3:=hKp.trans (KpW.of_below hb3 (by omega) (by omega))
  refine wpListIn_plain rfl fun K hK=>?_
  unfold Oper.wpIn
  refine ⟨fun _ _=>trivial,?_⟩
  rw [show Fence.wide.round=none from rfl,Oper.semAt_none,key _ _ rfl,Oper.uponIn_round]
  refine ⟨(fun h=>by cases h),hRd.mono ?_⟩
  have hz39:21<a3.tmps.size:=by rw [hR3.1];decide
  rintro e W' (⟨rfl,hJ',hKp'⟩|⟨rfl,hJx'⟩)
  ·refine hK _ _ ?_
   refine wpListIn_plain rfl fun K2 hK2=>?_
   unfold Oper.wpIn
   refine ⟨fun _ _=>trivial,?_⟩
   rw [show Fence.wide.round=none from rfl,Oper.semAt_none,not_runT _ (put_get hz39) rfl,Oper.uponIn_value]
   refine hK2 _ _ ?_
   clear hK2 K2 hK K
   have hz40:22<(a3.put (some 21) (.bool true)).tmps.size:=by rw [put_size,hR3.1];decide
   dsimp only [Exit.then,wpListIn,Bool.not_true,Bool.not_false]
   refine wpIn_cond_false (put_get hz40) (wpIn_skip ?_)
   dsimp only [Exit.inBlock,Exit.then]
   have hk5:∀ t,t≠22→t≠21→((a3.put (some 21) (.bool true)).put (some 22) (.bool false)).tmps.getD t undef=a3.tmps.getD t undef:=fun t h1 h2=>(put_ne h1).trans (put_ne h2)
   have hz5:((a3.put (some 21) (.bool true)).put (some 22) (.bool false)).tmps.size=24:=by rw [put_size,put_size,hR3.1]
   have hd5:((a3.put (some 21) (.bool true)).put (some 22) (.bool false)).defers=[]:=hdf3
   generalize (a3.put (some 21) (.bool true)).put (some 22) (.bool false)=a5 at *
   have hKW':KpW n₀ w.heap.size B W1 W':=hKW.trans hKp'
   have hW's:=hKW'.size
   have hs5:=sim_raw (hc0 W' hKW') (n:=24) hz5 hd5 [(9,iD (k:Nat))] (by
    intro t d hm
    simp only [List.mem_cons,List.not_mem_nil,or_false,Prod.mk.injEq] at hm
    obtain ⟨rfl,rfl⟩:=hm
    rw [hk5 9 (by decide) (by decide),hR3.2 (9,.int .i64 (k:Nat)) (by simp [slC,slC0])]
    unfold iD RepD
    rfl)
   have hbel5:∀ {s:St}{a:Act}{w:World},SimS (enOf W' G.C 24) s a w→Below W'.heap.size W' w:=fun h=>simS_below h
   generalize hen5:enOf W' G.C 24=en5 at hs5 hbel5
   have hsz:en5.sz=24:=by rw [←hen5];rfl
   have hks:∀ k,en5.ks k→k=0:=by rw [←hen5];exact fun k h=>h.elim
   have hR5:a5.tmps.size=24∧∀ x∈slC0 l uc cs.length,a5.tmps.getD x.1 undef=x.2:=⟨hz5,fun x hx=>by
    rw [hk5 x.1 (by rintro e;simp [slC0] at hx;rcases hx with rfl|rfl|rfl<;>cases e) (by rintro e;simp [slC0] at hx;rcases hx with rfl|rfl|rfl<;>cases e)]
    exact hR3.2 x (by unfold slC;exact List.mem_append_left _ hx)⟩
   refine ows_inK (R:=fun a=>a.tmps.size=24∧∀ x∈slC0 l uc cs.length,a.tmps.getD x.1 undef=x.2) (keep_slots (by kernel_rfl)) hs5 hR5 fun K hK=>?_
   simp only [frD,List.map_cons,List.map_nil]
   refine walkS ?_
   refine hK _ ?_
   clear hK K
   intro a6 w6 hs6 hR6
   have e8:=simS_v hs6 9 rfl
   have hb6:=hbel5 hs6
   refine ⟨⟨k+1,hkl,simS_df hs6,⟨hR6.1,fun x hx=>?_⟩,hJ _ W' w6 none hJ' (below_grow0 hb6 (Nat.le_refl _)) (fun r e=>by cases e),hKW'.trans (KpW.of_below hb6 (by omega) (by omega))⟩,?_⟩
   ·unfold slC at hx
    rcases List.mem_append.1 hx with hx|hx
    ·exact hR6.2 x hx
    ·rw [List.mem_singleton] at hx
     subst hx
     rw [e8]
     simp
   ·rw [e8,g9]
    simp [intOf]
    omega
  ·refine hK _ _ ?_
   refine wpListIn_plain rfl fun K2 hK2=>?_
   unfold Oper.wpIn
   refine ⟨fun _ _=>trivial,?_⟩
   rw [show Fence.wide.round=none from rfl,Oper.semAt_none,not_runF _ (put_get hz39) rfl,Oper.uponIn_value]
   refine hK2 _ _ ?_
   clear hK2 K2 hK K
   have hz40:22<(a3.put (some 21) (.bool false)).tmps.size:=by rw [put_size,hR3.1];decide
   dsimp only [Exit.then,wpListIn,Bool.not_true,Bool.not_false]
   refine wpIn_cond_true (put_get hz40) (wpIn_ret ?_)
   exact ⟨hdf3,_,results_none rfl _ _ _,⟨_,rfl⟩,.inr ⟨_,lnC_pre cs hkl,hJx'⟩⟩
 ·have hkl:k=cs.length:=by
   have:¬k<cs.length:=by simpa using h
   omega
  subst hkl
  refine wpIn_exit ?_
  exact ⟨simS_df hs1,_,results_none rfl _ _ _,⟨_,rfl⟩,.inl ⟨_,rfl,hJ1⟩⟩
end
end Go.Proofs.YtaammoodcgfhpaaDoor.Eng
