/-
 Lines that tell of code, the program.
-/
import Derived.Test.YtaammoodcgfhpaaDoorKNC12
set_option linter.unusedSimpArgs false
set_option linter.unusedVariables false
set_option linter.defProp false
set_option maxRecDepth 100000
set_option maxHeartbeats 4000000
namespace Go.Proofs.YtaammoodcgfhpaaDoor.Eng
open Go Go.RowKit Go.Shelf
attribute [local go_sem] Oper.semAt_some
section
variable {D:List RuleD}
theorem collectC_of {cs:List Ins}{es:List Int} (HP:AC Tryd.prog 20 [.d (encD D)] none (fun r' _=>r'=.d (prgE cs es))) (hlen:cs.length≤200000000) (hnth:∀ y,y<cs.length→∃ x,cs[y]?=some x∧insOK x∧cs.getD y (0,0,0)=x) {w:World}{C:CellR} (hC:Cok C w) {Bd:Nat} (hCl:∀ b o u,C b o u→b<w.heap.size) {u:Value} (hu:C Bd 0 u) (hr:RepD C (encDs D) u) :
  Calls Tryd.prog 18 #[.func (.func 19) #[] #[.pointer (some ⟨Bd,0,none⟩)]] w fun e w'=>∃ v,e=.returned v∧w'.ownsRow w.heap.size 9 1 v (lnC cs cs.length).length ((lnC cs cs.length).map Value.string)∧Below w.heap.size w w':=by
 refine (callsIn_wide (n:=6)).1 ?_
 refine callsIn_of_wp_marks Tryd.func18 rfl trivial ?_ rfl
 simp only [Tryd.ntmps18,List.size_toArray,List.length_cons,List.length_nil,Nat.reduceAdd,Nat.reduceSub,Array.replicate_succ,Array.replicate_zero,List.push_toArray,List.append_toArray,List.nil_append,List.cons_append]
 gi_wp2
 obtain ⟨W0,hW0⟩:∃ W0,(w.alloc (.cells #[] 9)).alloc (.cells #[.slice (some ⟨w.heap.size,0,none⟩) 0 0] 26)=W0:=⟨_,rfl⟩
 rw [hW0]
 have hs0:W0.heap.size=w.heap.size+2:=by rw [←hW0];simp
 have br:W0.heap[w.heap.size]?=some (.cells #[] 9):=by rw [←hW0];exact heap_old (heap_al rfl)
 have b6:Boxed W0 (w.heap.size+1) 26 (.slice (some ⟨w.heap.size,0,none⟩) 0 0):=by rw [←hW0];exact boxed_at (by simp)
 have hbel:Below w.heap.size w W0:=by rw [←hW0];exact ((Below.refl _ w).alloc (Nat.le_refl _) _).alloc (by simp) _
 have hBm:∀ k,W0.heap.size≤k→¬MineB W0 (w.heap.size+1) k:=fun k hk ⟨n1,c1,h1⟩=>by
  rw [b6.cell] at h1
  simp only [Option.some.injEq,Value.slice.injEq,Addr.mk.injEq,and_true,true_and] at h1
  omega
 have hinf:(Tryd.prog.info? 9).map (fun i=>(i.zero,i.size,i.bytes))=some (some (.string ByteArray.empty),1,16):=by kernel_rfl
 obtain ⟨it,hit1,hit2,hit3,hit4⟩:=info_parts hinf
 refine wpIn_rangeFunc_ownF rfl (by decide) (gf:=19) (lb:=#[.pointer (some ⟨Bd,0,none⟩)]) rfl trivial (enters_of Tryd.func19 (by kernel_rfl) rfl)
  (codeIt (n:=5) HP hlen hnth (hC.below hbel) (n₀:=w.heap.size) (B:=w.heap.size+1) (by omega) (by omega) hBm hCl hu hr)
  (fun h k=>h.trans k) (fun W l o o' q1 q2 q3 q4=>KpW.book (by omega) (by omega) (Nat.le_refl _) W l o o' q1 q2 q3 q4) (Below.refl _ _) (fun _=>rfl)
  (fun pre W=>(∃ v,Boxed W (w.heap.size+1) 26 v∧W.ownsRow w.heap.size 9 1 v pre.length (pre.map Value.string)∧True)∧Below w.heap.size w W)
  (fun _ _ _=>False)
  (OwnFrom.and (Own.from (fun pre A B row hs hg hr=>holdsRow_own w.heap.size (w.heap.size+1) 26 9 1 (fun pre:List ByteArray=>pre.length) (fun pre=>pre.map Value.string) (fun _ _=>True) pre A B row hs hg hr) _) (ownFrom_below (Nat.le_refl _) (by omega)))
  (fun _=>fun pre A B row hs _ _=>hs)
  ⟨⟨_,b6,row0 br (Nat.le_refl _),trivial⟩,hbel⟩
  (fun x=>{ tmps:=#[.func (.func 19) #[] #[.pointer (some ⟨Bd,0,none⟩)],undef,.slice none 0 0,.pointer (some ⟨w.heap.size+1,0,none⟩),.string x,.slice (some ⟨w.heap.size,0,none⟩) 0 0,.func (.func 19) #[] #[.pointer (some ⟨Bd,0,none⟩)],.string x,undef,undef,undef,undef,undef],defers:=[] }) ?assign ?body ?done ?stop
 case assign=>
  intro l x W K hK
  gi_wp2
  exact hK
 case body=>
  rintro l pre x W ⟨⟨v,hb6,hrow,_⟩,hB⟩ hlt
  have hsz:=hB.size
  have hl6:=hb6.lt
  have hc6:=hb6.cell
  gi_wp2_with (gi_at_builtin;refine wpListIn_append_at _ rfl _ _ 26 rfl w.heap.size 9 it (.string ByteArray.empty) 16 Tryd.underlying26 hit1 hit2 hit3 hit4 rfl _ _ _ rfl (hrow.alloc _) ⟨W.heap.size,0,none⟩ (.string x) rfl (Boxed.new _ _ _).cell rfl (by unfold maxLen;omega) (by omega) (by simp;omega) ?_;intro v' w2 hown' hgrow hnew;obtain ⟨g',cap',rfl⟩:=ownsRow_succ hown';obtain ⟨hv1,hv2,hr2,hk2,hb2⟩:=hb6.appended (by decide) hrow (by omega) (by omega) hown' hgrow;have hc7:=hv1.cell;have hf7:=hv1.frozen)
  exact ⟨hk2,KpW.appended hb6 hrow (by omega) (by omega) (by omega) hgrow hnew hc7,⟨_,hv2,by simpa using hr2,trivial⟩,hB.trans hb2⟩
 case done=>
  rintro Dd xs W hD' rfl ⟨⟨v,hb6,hrow,_⟩,hB⟩ hK
  have hc6:=hb6.cell
  gi_wp2
  refine ⟨by simp,.inl ⟨_,_,rfl,run_takeDeferred hK,?_⟩⟩
  exact ⟨_,results_tmp rfl _ _ _,v,rfl,ownsRow_putObj hrow (.deferred none) hK rfl,hB.trans (belowK_b (w:=w) (Nat.le_refl _) W Dd _ _ (by omega) hK rfl rfl)⟩
 case stop=>
  intro Dd c pre W _ _ hf _
  exact hf.elim
theorem codeP (hD:DB 1048576 D):∃ (cs:List Ins) (es:List Int),codeT D=lnC cs cs.length∧AC Tryd.prog 20 [.d (encD D)] none (fun r' _=>r'=.d (prgE cs es))∧cs.length≤200000000∧∀ y,y<cs.length→∃ x,cs[y]?=some x∧insOK x∧cs.getD y (0,0,0)=x:=by
 cases hv:vDesc D with
 | true=>exact ⟨cmpP D,_,if_pos hv,cmpDI_c hD hv,(cmpP_len hD (descP_of hv).1.2).1,fun y=>code_nth hD (descP_of hv)⟩
 | false=>exact ⟨[],[],by rw [codeT,if_neg (by rw [hv];decide)];rfl,cmpDI_no hD hv,by simp,fun y hy=>by simp at hy⟩
theorem codeI_of (hD:DB 1048576 D) (w:World) (C:CellR) (vs:List Value) (hC:Cok C w) (hr:RepAL (argG C none 0) [.d (encD D)] vs):Calls Tryd.prog 7 ⟨vs⟩ w fun e w'=>∃ v,e=.returned v∧w'.ownsRow w.heap.size 9 1 v (codeT D).length ((codeT D).map Value.string)∧Below w.heap.size w w':=by
  obtain ⟨cs,es,hT,HP,hlen,hnth⟩:=codeP hD
  rw [hT]
  obtain ⟨u,rfl,h1⟩:=rep1 hr
  have hcell:∃ x,u=.agg #[x]∧RepD C (encDs D) x∧∃ a n cap,x=.slice a n cap:=by
   unfold encD RepD at h1
   obtain ⟨us,rfl,hL,_⟩:=h1
   unfold RepL at hL
   obtain ⟨x,us',rfl,hx,hL⟩:=hL
   unfold RepL at hL
   subst hL
   refine ⟨x,rfl,hx,?_⟩
   unfold encDs RepD at hx
   obtain ⟨a,cap,rfl,_⟩:=hx
   exact ⟨_,_,_,rfl⟩
  obtain ⟨x,rfl,hx,a,n,cap,rfl⟩:=hcell
  have hb1:Below w.heap.size w (w.alloc (.cells #[.slice a n cap] 30)):=(Below.refl _ w).alloc (Nat.le_refl _) _
  have hC1:=hC.below hb1
  have bx:=boxed_at (W:=w) (t:=30) (v:=.slice a n cap) rfl
  have hC2:=hC1.one bx.cell rfl bx.frozen
  have hcol:=collectC_of HP hlen hnth hC2 (fun b o u h=>cell_lt (hC2.cell _ _ _ h).1) (.inr ⟨rfl,rfl,rfl⟩) (RepD.mono (fun _ _ _ h=>.inl h) _ _ hx)
  refine (callsIn_wide (n:=7)).1 ?_
  refine callsIn_of_wp Tryd.func7 rfl trivial ?_ rfl
  simp only [Tryd.ntmps7,List.size_toArray,List.length_cons,List.length_nil,Nat.reduceAdd,Nat.reduceSub,Array.replicate_succ,Array.replicate_zero,List.push_toArray,List.append_toArray,List.nil_append,List.cons_append]
  gi_wp2_with (refine ⟨trivial,?_⟩;refine (callsIn_wide.2 hcol).mono ?_;rintro e w2 ⟨v,rfl,hrow,hb3⟩)
  have hs1:w.heap.size≤(w.alloc (.cells #[.slice a n cap] 30)).heap.size:=by simp
  refine bodyPost_ret (results_tmp rfl _ _ _) rfl ⟨v,rfl,row_base hrow hs1,hb1.trans (hb3.mono hs1)⟩
theorem codeI_c (hD:DB 1048576 D):AC Tryd.prog 7 [.d (encD D)] none (fun r' _=>r'=.d (encS (codeT D))):=
 AC.of_rowS (t:=9) Tryd.call7 (codeI_of hD)
theorem codeI_n (hD:DB 1048576 D):ACD Tryd.prog 7 [.d (encD D)] fun n=>.iv (fun b=>n≤b) (encS (codeT D)):=
 ACD.of_rowS (t:=9) Tryd.call7 (codeI_of hD)
end
end Go.Proofs.YtaammoodcgfhpaaDoor.Eng
