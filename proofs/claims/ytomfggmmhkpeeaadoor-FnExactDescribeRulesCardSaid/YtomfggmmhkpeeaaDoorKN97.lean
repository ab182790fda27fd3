/-
 Lines that tell of rules, the program.
-/
import Derived.Test.YtomfggmmhkpeeaaDoorKN96
set_option linter.unusedSimpArgs false
set_option linter.unusedVariables false
set_option linter.defProp false
set_option maxRecDepth 100000
set_option maxHeartbeats 4000000
namespace Go.Proofs.YtomfggmmhkpeeaaDoor.Eng
open Go Go.RowKit Go.Shelf
attribute [local go_sem] Oper.semAt_some
section
variable {D:List RuleD}{M:Nat}
theorem collectI_of (hD:DB M D) (hM:M≤1048576) (hv:vDesc D=true) {w:World}{C:CellR} (hC:Cok C w) {Bd:Nat} (hCl:∀ b o u,C b o u→b<w.heap.size) {u:Value} (hu:C Bd 0 u) (hr:RepD C (encDs D) u) :
  Calls Tryd.prog 22 #[.func (.func 23) #[] #[.pointer (some ⟨Bd,0,none⟩)]] w fun e w'=>∃ v,e=.returned v∧w'.ownsRow w.heap.size 9 1 v (lnS D D.length).length ((lnS D D.length).map Value.string)∧Below w.heap.size w w':=by
 have h24:D.length≤24:=(descP_of hv).1.2
 refine (callsIn_wide (n:=6)).1 ?_
 refine callsIn_of_wp_marks Tryd.func22 rfl trivial ?_ rfl
 simp only [Tryd.ntmps22,List.size_toArray,List.length_cons,List.length_nil,Nat.reduceAdd,Nat.reduceSub,Array.replicate_succ,Array.replicate_zero,List.push_toArray,List.append_toArray,List.nil_append,List.cons_append]
 gi_wp2
 obtain ⟨W0,hW0⟩:∃ W0,(w.alloc (.cells #[] 9)).alloc (.cells #[.slice (some ⟨w.heap.size,0,none⟩) 0 0] 26)=W0:=⟨_,rfl⟩
 rw [hW0]
 have hs0:W0.heap.size=w.heap.size+2:=by rw [←hW0];simp
 have br:W0.heap[w.heap.size]?=some (.cells #[] 9):=by rw [←hW0];exact heap_old (heap_al rfl)
 have b6:Boxed W0 (w.heap.size+1) 26 (.slice (some ⟨w.heap.size,0,none⟩) 0 0):=by rw [←hW0];exact boxed_at (by simp)
 have hbel:Below w.heap.size w W0:=by rw [←hW0];exact ((Below.refl _ w).alloc (Nat.le_refl _) _).alloc (by simp) _
 have hinf:(Tryd.prog.info? 9).map (fun i=>(i.zero,i.size,i.bytes))=some (some (.string ByteArray.empty),1,16):=by kernel_rfl
 obtain ⟨it,hit1,hit2,hit3,hit4⟩:=info_parts hinf
 refine wpIn_rangeFunc_ownF rfl (by decide) (gf:=23) (lb:=#[.pointer (some ⟨Bd,0,none⟩)]) rfl trivial (enters_of Tryd.func23 (by kernel_rfl) rfl)
  (linesIt (n:=5) hD hM hv (hC.below hbel) (n₀:=w.heap.size) (B:=w.heap.size+1) (by omega) (by omega) hCl hu hr)
  (fun h k=>h.trans k) (fun W l o o' q1 q2 q3 q4=>KpW.book (by omega) (by omega) (Nat.le_refl _) W l o o' q1 q2 q3 q4) (Below.refl _ _) (fun _=>rfl)
  (fun pre W=>(∃ v,Boxed W (w.heap.size+1) 26 v∧W.ownsRow w.heap.size 9 1 v pre.length (pre.map Value.string)∧True)∧Below w.heap.size w W)
  (fun _ _ _=>False)
  (OwnFrom.and (Own.from (fun pre A B row hs hg hr=>holdsRow_own w.heap.size (w.heap.size+1) 26 9 1 (fun pre:List ByteArray=>pre.length) (fun pre=>pre.map Value.string) (fun _ _=>True) pre A B row hs hg hr) _) (ownFrom_below (Nat.le_refl _) (by omega)))
  (fun _=>fun pre A B row hs _ _=>hs)
  ⟨⟨_,b6,row0 br (Nat.le_refl _),trivial⟩,hbel⟩
  (fun x=>{ tmps:=#[.func (.func 23) #[] #[.pointer (some ⟨Bd,0,none⟩)],undef,.slice none 0 0,.pointer (some ⟨w.heap.size+1,0,none⟩),.string x,.slice (some ⟨w.heap.size,0,none⟩) 0 0,.func (.func 23) #[] #[.pointer (some ⟨Bd,0,none⟩)],.string x,undef,undef,undef,undef,undef],defers:=[] }) ?assign ?body ?done ?stop
 case assign=>
  intro l x W K hK
  gi_wp2
  exact hK
 case body=>
  rintro l pre x W ⟨⟨v,hb6,hrow,_⟩,hB⟩ hlt
  have hsz:=hB.size
  have hl6:=hb6.lt
  have hc6:=hb6.cell
  gi_wp2_with (gi_at_builtin;refine wpListIn_append_at _ rfl _ _ 26 rfl w.heap.size 9 it (.string ByteArray.empty) 16 Tryd.underlying26 hit1 hit2 hit3 hit4 rfl _ _ _ rfl (hrow.alloc _) ⟨W.heap.size,0,none⟩ (.string x) rfl (Boxed.new _ _ _).cell rfl (by unfold maxLen;omega) (by omega) (by simp;omega) ?_;intro v' w2 hown' hgrow hnew;obtain ⟨g',cap',rfl⟩:=ownsRow_succ hown';obtain ⟨hv1,hv2,hr2,hk2,hb2⟩:=hb6.appended (by decide) hrow (by omega) (by omega) hown' hgrow;have hc7:=hv1.cell;have hf7:=hv1.frozen)
  exact ⟨hk2,KpW.appended hb6 hrow (by omega) (by omega) (by omega) hgrow hnew hc7,⟨_,hv2,by simpa using hr2,trivial⟩,hB.trans hb2⟩
 case done=>
  rintro Dd xs W hD' rfl ⟨⟨v,hb6,hrow,_⟩,hB⟩ hK
  have hc6:=hb6.cell
  gi_wp2
  refine ⟨by simp,.inl ⟨_,_,rfl,run_takeDeferred hK,?_⟩⟩
  exact ⟨_,results_tmp rfl _ _ _,v,rfl,ownsRow_putObj hrow (.deferred none) hK rfl,hB.trans (belowK_b (w:=w) (Nat.le_refl _) W Dd _ _ (by omega) hK rfl rfl)⟩
 case stop=>
  intro Dd c pre W _ _ hf _
  exact hf.elim
theorem row_base {w:World}{base base':Nat}{e:TypeId}{size:Nat}{v:Value}{n:Nat}{xs:List Value} (h:w.ownsRow base e size v n xs) (hb:base'≤base):w.ownsRow base' e size v n xs:=
 ⟨h.1,h.2.imp id fun ⟨g,cap,cur,q1,q2,q3⟩=>⟨g,cap,cur,q1,Nat.le_trans hb q2,q3⟩⟩
theorem Cok.one {C:CellR}{w:World}{b:Nat}{u:Value} (h:Cok C w) (hc:w.cell? ⟨b,0,none⟩=some u) (h1:u.oneCell'=true) (hf:w.frozen? ⟨b,0,none⟩=false):Cok (fun b' o v=>C b' o v∨(b'=b∧o=0∧v=u)) w:=by
 refine ⟨fun b' o v hcv=>?_,fun b' o v hcv hb=>?_,h.gl.mono fun _ _ _ h=>.inl h,h.tb⟩
 ·rcases hcv with hcv|⟨rfl,rfl,rfl⟩
  ·exact h.cell _ _ _ hcv
  ·exact ⟨hc,h1⟩
 ·rcases hcv with hcv|⟨rfl,rfl,rfl⟩
  ·exact h.nf _ _ _ hcv hb
  ·exact hf
theorem linesI_of (hD:DB M D) (hM:M≤1048576) (w:World) (C:CellR) (vs:List Value) (hC:Cok C w) (hr:RepAL (argG C none 0) [.d (encD D)] vs):Calls Tryd.prog 7 ⟨vs⟩ w fun e w'=>∃ v,e=.returned v∧w'.ownsRow w.heap.size 9 1 v (linesT D).length ((linesT D).map Value.string)∧Below w.heap.size w w':=by
  obtain ⟨u,rfl,h1⟩:=rep1 hr
  have hcell:∃ x,u=.agg #[x]∧RepD C (encDs D) x∧∃ a n cap,x=.slice a n cap:=by
   unfold encD RepD at h1
   obtain ⟨us,rfl,hL,_⟩:=h1
   unfold RepL at hL
   obtain ⟨x,us',rfl,hx,hL⟩:=hL
   unfold RepL at hL
   subst hL
   refine ⟨x,rfl,hx,?_⟩
   unfold encDs RepD at hx
   obtain ⟨a,cap,rfl,_⟩:=hx
   exact ⟨_,_,_,rfl⟩
  obtain ⟨x,rfl,hx,a,n,cap,rfl⟩:=hcell
  have hb1:Below w.heap.size w (w.alloc (.cells #[.slice a n cap] 30)):=(Below.refl _ w).alloc (Nat.le_refl _) _
  have hC1:=hC.below hb1
  have hV:=AC.flat1 ((validI_c hD hM).eqv (r1:=.d (.v (.bool (vDesc D)))) rfl) (ds:=[encD D]) hC1 (vs:=[.agg #[.slice a n cap]]) (by unfold RepL;exact ⟨_,_,rfl,h1,by unfold RepL;rfl⟩)
  refine (callsIn_wide (n:=7)).1 ?_
  refine callsIn_of_wp Tryd.func7 rfl trivial ?_ rfl
  simp only [Tryd.ntmps7,List.size_toArray,List.length_cons,List.length_nil,Nat.reduceAdd,Nat.reduceSub,Array.replicate_succ,Array.replicate_zero,List.push_toArray,List.append_toArray,List.nil_append,List.cons_append]
  cases hv:vDesc D
  ·rw [hv] at hV
   rw [show linesT D=[] from if_neg (by rw [hv];decide)]
   gi_wp2_with (refine ⟨trivial,?_⟩;refine (callsIn_wide.2 hV).mono ?_;rintro e w1 ⟨rfl,hb2⟩)
   have hs1:w.heap.size≤w1.heap.size:=by have:=hb2.size;simp at this;omega
   exact bodyPost_ret (results_tmp rfl _ _ _) rfl ⟨_,rfl,row0 (heap_al rfl) hs1,(hb1.trans (hb2.mono (by simp))).alloc hs1 _⟩
  ·rw [hv] at hV
   rw [show linesT D=lnS D D.length from if_pos hv]
   gi_wp2_with (first
    | (refine ⟨trivial,?_⟩;refine (callsIn_wide.2 hV).mono ?_;rintro e w1 ⟨rfl,hb2⟩
       have hc1:w1.cell? ⟨w.heap.size,0,none⟩=some (.slice a n cap):=(hb2.cell (p:=⟨w.heap.size,0,none⟩) (by simp)).trans (boxed_at (t:=30) rfl).cell
       have hf1:w1.frozen? ⟨w.heap.size,0,none⟩=false:=(Below.boxed hb2 (boxed_at (t:=30) (v:=.slice a n cap) rfl) (by simp)).frozen
       have hC2:=(hC1.below hb2).one hc1 rfl hf1
       have hcol:=collectI_of hD hM hv hC2 (fun b o u h=>cell_lt (hC2.cell _ _ _ h).1) (.inr ⟨rfl,rfl,rfl⟩) (RepD.mono (fun _ _ _ h=>.inl h) _ _ hx))
    | (refine ⟨trivial,?_⟩;refine (callsIn_wide.2 hcol).mono ?_;rintro e w2 ⟨v,rfl,hrow,hb3⟩))
   have hs1:w.heap.size≤w1.heap.size:=by have:=hb2.size;simp at this;omega
   refine bodyPost_ret (results_tmp rfl _ _ _) rfl ⟨v,rfl,row_base hrow hs1,(hb1.trans (hb2.mono (by simp))).trans (hb3.mono hs1)⟩
theorem linesI_c (hD:DB M D) (hM:M≤1048576):AC Tryd.prog 7 [.d (encD D)] none (fun r' _=>r'=.d (encS (linesT D))):=
 AC.of_rowS (t:=9) Tryd.call7 (linesI_of hD hM)
theorem linesI_n (hD:DB M D) (hM:M≤1048576):ACD Tryd.prog 7 [.d (encD D)] fun n=>.iv (fun b=>n≤b) (encS (linesT D)):=
 ACD.of_rowS (t:=9) Tryd.call7 (linesI_of hD hM)
end
end Go.Proofs.YtomfggmmhkpeeaaDoor.Eng
