/-
 Paths are split (the program).
-/
import Derived.Test.YtomfggmmhkpeeaaGreatDoorKNW1
import Derived.Test.YtomfggmmhkpeeaaGreatDoorKNL2
set_option linter.unusedSimpArgs false
set_option linter.unusedVariables false
set_option linter.defProp false
set_option maxRecDepth 100000
set_option maxHeartbeats 4000000
namespace Go.Proofs.YtomfggmmhkpeeaaGreatDoor.Eng
open Go Go.RowKit Go.Shelf
attribute [local go_sem] Oper.semAt_some

theorem stepsOf_of (s:ByteArray) (w:World):Calls Tryz.prog 173 #[.string s] w fun e w'=>e=.returned (.func (.func 186) #[] #[.pointer (some ⟨w.heap.size,0,none⟩)])∧w'=w.alloc (.cells #[.string s] 9):=by
 refine (callsIn_wide (n:=1)).1 ?_
 refine callsIn_of_wp Tryz.func173 rfl trivial ?_ rfl
 simp only [Tryz.ntmps173,List.size_toArray,List.length_cons,List.length_nil,Nat.reduceAdd,Nat.reduceSub,Array.replicate_succ,Array.replicate_zero,List.push_toArray,List.append_toArray,List.nil_append,List.cons_append]
 gi_wp2
 go_ret
 exact ⟨rfl,rfl⟩
theorem row0 {w:World}{n₀ g:Nat}{e:TypeId} (h:w.heap[g]?=some (.cells #[] e (0,0))) (hg:n₀≤g):w.ownsRow n₀ e 1 (.slice (some ⟨g,0,none⟩) 0 0) 0 []:=
 ⟨rfl,.inr ⟨g,0,#[],rfl,hg,h,Nat.le_refl _,Nat.zero_le _,rfl,rfl⟩⟩
theorem heap_al {w:World}{o:Obj}{k:Nat} (hk:k=w.heap.size):(w.alloc o).heap[k]?=some o:=hk▸World.alloc_heap_new w o
theorem heap_old {w:World}{o o':Obj}{k:Nat} (h:w.heap[k]?=some o):(w.alloc o').heap[k]?=some o:=(Below.heap_alloc w o' k (Array.getElem?_eq_some_iff.1 h).1).trans h
theorem below5 (w:World) (o1 o2 o3 o4 o5:Obj):Below w.heap.size w (((((w.alloc o1).alloc o2).alloc o3).alloc o4).alloc o5):=
 (((((Below.refl _ w).alloc (Nat.le_refl _) _).alloc (by simp) _).alloc (by simp;omega) _).alloc (by simp;omega) _).alloc (by simp;omega) _
theorem ne_emp {s:ByteArray} (h:1≤s.size):s.toList.isEmpty=false:=by
 rw [ByteArray.toList_eq]
 cases hq:s.data.toList with
 | nil=>
  have:=toL_len s
  rw [hq] at this
  simp at this
  omega
 | cons=>rfl
theorem boxed_keep {W W':World}{row:Option Nat}{B:Nat}{t:TypeId}{v:Value} (hv:Boxed W B t v) (hg:W.grownBy W' row) (hr:∀ r,row=some r→∃ o:Obj,W.heap[r]?=some o∧o.isCells=false):Boxed W' B t v:=
 hv.kept hg fun e=>by
  obtain ⟨o,ho,hc⟩:=hr B e.symm
  rw [show W.heap[B]?=_ from hv] at ho
  cases ho
  cases hc
theorem Below.boxed {n:Nat}{W W':World} (h:Below n W W') {B:Nat}{t:TypeId}{v:Value} (hv:Boxed W B t v) (hB:B<n):Boxed W' B t v:=(h.block B hB).trans hv
theorem boxed_other {W:World}{B:Nat}{t:TypeId}{v u:Value}{p:Addr} (h:Boxed W B t v) (hne:B≠p.block):Boxed (W.setCell p u) B t v:=(Below.heap_setCell W p u B hne).trans h
theorem heap_other {W:World}{k:Nat}{o:Obj}{u:Value}{p:Addr} (h:W.heap[k]?=some o) (hne:k≠p.block):(W.setCell p u).heap[k]?=some o:=(Below.heap_setCell W p u k hne).trans h
theorem keepsO_below {W W':World} (h:Below W.heap.size W W'):KeepsOthers W W':=⟨h.size,fun k o hk _=>(h.block k (Array.getElem?_eq_some_iff.1 hk).1).trans hk⟩
theorem KpW.of_below {n₀ n₁ B:Nat}{W W':World} (h:Below W.heap.size W W') (hn:n₀≤W.heap.size) (hB:B<W.heap.size):KpW n₀ n₁ B W W':=
 ⟨h.size,fun k hk=>h.block k (by omega),fun k o _ ho _ hm=>⟨(h.block k (Array.getElem?_eq_some_iff.1 ho).1).trans ho,fun ⟨n,c,h1⟩=>hm ⟨n,c,by
  rw [←h1]
  exact (World.cell?_of_block (a:=⟨B,0,none⟩) (h.block B hB)).symm⟩⟩⟩
theorem row_below {W W':World} (h:Below W.heap.size W W') {n₀:Nat}{e:TypeId}{v:Value}{k:Nat}{xs:List Value} (hr:W.ownsRow n₀ e 1 v k xs):W'.ownsRow n₀ e 1 v k xs:=
 hr.kept (below_grow0 h (Nat.le_refl _)) (by cases v.ownBlock<;>simp)
theorem splitI_of {s:ByteArray} (hs:s.size≤1048576) {w:World}{C:CellR} (hC:Cok C w):Calls Tryz.prog 151 #[.string s,.func (.func 152) #[] #[]] w fun e w'=>∃ v,e=.returned (.tuple #[v,.bool (splP s).2])∧w'.ownsRow w.heap.size 9 1 v (splP s).1.length ((splP s).1.map Value.string)∧Below w.heap.size w w':=by
 refine (callsIn_wide (n:=6)).1 ?_
 refine callsIn_of_wp_marks Tryz.func151 rfl trivial ?_ rfl
 simp only [Tryz.ntmps151,List.size_toArray,List.length_cons,List.length_nil,Nat.reduceAdd,Nat.reduceSub,Array.replicate_succ,Array.replicate_zero,List.push_toArray,List.append_toArray,List.nil_append,List.cons_append]
 by_cases h0:s.size=0
 ·have e:splP s=([],true):=by unfold splP;rw [if_pos h0]
  rw [e]
  obtain rfl:=emp_yes h0
  gi_wp2
  refine ⟨_,results_cells2 rfl tk86 tk4 rfl rfl (((((boxed_at (by simp)).alloc _).alloc _).alloc _).cell) ((((boxed_at (by simp)).alloc _).alloc _).cell),_,rfl,row0 (g:=w.heap.size+1+1+1) (heap_old (heap_al (by simp))) (by omega),below5 ..⟩
 have h1:s≠⟨#[]⟩:=fun e=>by subst e;exact h0 rfl
 have i0:s[0]?=some (s[0]'(by omega)):=getElem?_pos s 0 (by omega)
 by_cases h2:s[0]'(by omega)=47
 ·have i0':s[0]?=some 47:=by rw [i0,h2]
  obtain ⟨t,ht,htl⟩:=splT_hit i0' (by omega)
  have hsiz:∀ x∈t,x.size≤1048576:=fun x hx=>Nat.le_trans (splT_in (s:=s) (c:=47) (x:=x) (by rw [ht];exact List.mem_cons_of_mem _ hx)) hs
  obtain ⟨L,hL⟩:=tx_of hsiz
  have hLd:L.map Subtype.val=(splT s 47).drop 1:=by rw [hL,ht];rfl
  have hLl:L.length≤1048577:=by
   have h3:=congrArg List.length hL
   have h4:=splT_len s 47
   rw [ht] at h4
   simp only [List.length_map,List.length_cons] at h3 h4
   omega
  have hE:=ne_emp (s:=s) (by omega)
  gi_wp2_with (refine ⟨trivial,?_⟩;refine (callsIn_wide.2 (stepsOf_of s _)).mono ?_;rintro e w1 ⟨rfl,rfl⟩)
  obtain ⟨W0,hW0⟩:∃ W0,((((((w.alloc (.cells #[.func (.func 152) #[] #[]] 138)).alloc (.cells #[.slice none 0 0] 86)).alloc (.cells #[.bool false] 4)).alloc (.cells #[] 9)).alloc (.cells #[.slice (some ⟨w.heap.size+1+1+1,0,none⟩) 0 0] 86)).alloc (.cells #[.string s] 9))=W0:=⟨_,rfl⟩
  rw [hW0]
  have hs0:W0.heap.size=w.heap.size+6:=by rw [←hW0];simp
  have b3:Boxed W0 w.heap.size 138 (.func (.func 152) #[] #[]):=by rw [←hW0];exact (((((boxed_at rfl).alloc _).alloc _).alloc _).alloc _).alloc _
  have b4:Boxed W0 (w.heap.size+1) 86 (.slice none 0 0):=by rw [←hW0];exact ((((boxed_at (by simp)).alloc _).alloc _).alloc _).alloc _
  have b5:Boxed W0 (w.heap.size+1+1) 4 (.bool false):=by rw [←hW0];exact (((boxed_at (by simp)).alloc _).alloc _).alloc _
  have br:W0.heap[w.heap.size+1+1+1]?=some (.cells #[] 9 (0,0)):=by rw [←hW0];exact heap_old (heap_old (heap_al (by simp)))
  have b6:Boxed W0 (w.heap.size+1+1+1+1) 86 (.slice (some ⟨w.heap.size+1+1+1,0,none⟩) 0 0):=by rw [←hW0];exact (boxed_at (by simp)).alloc _
  have b7:Boxed W0 (w.heap.size+1+1+1+1+1) 9 (.string s):=by rw [←hW0];exact boxed_at (by simp)
  have hbel:Below w.heap.size w W0:=by rw [←hW0];exact (below5 ..).alloc (by simp;omega) _
  have hBm:∀ k,W0.heap.size≤k→¬MineB W0 (w.heap.size+1+1+1+1) k:=fun k hk ⟨n,c,h⟩=>by
   rw [b6.cell] at h
   have:=Option.some.inj h
   simp only [Value.slice.injEq,Option.some.injEq,Addr.mk.injEq] at this
   omega
  have hinf:(Tryz.prog.info? 9).map (fun i=>(i.zero,i.size,i.bytes))=some (some (.string ByteArray.empty),1,16):=by kernel_rfl
  obtain ⟨it,hit1,hit2,hit3,hit4⟩:=info_parts hinf
  refine wpIn_rangeFunc_ownF rfl (by decide) (gf:=186) (lb:=#[.pointer (some ⟨w.heap.size+1+1+1+1+1,0,none⟩)]) rfl trivial (enters_of Tryz.func186 (by kernel_rfl) rfl)
   (stepsIt (n:=5) hs (hC.below hbel) (n₀:=w.heap.size) (B:=w.heap.size+1+1+1+1) (by omega) (by omega) hBm (by omega) b7.cell hLd)
   (fun h k=>h.trans k) (fun W l o o' q1 q2 q3 q4=>KpW.book (by omega) (by omega) (Nat.le_refl _) W l o o' q1 q2 q3 q4) (Below.refl _ _) (fun _=>rfl)
   (fun pre W=>((Boxed W w.heap.size 138 (.func (.func 152) #[] #[])∧Boxed W (w.heap.size+1) 86 (.slice none 0 0)∧Boxed W (w.heap.size+1+1) 4 (.bool false))∧∃ v,Boxed W (w.heap.size+1+1+1+1) 86 v∧W.ownsRow w.heap.size 9 1 v pre.length (pre.map fun x=>Value.string x.1)∧True)∧(∀ x∈pre,stepP x.1=true)∧Below w.heap.size w W)
   (fun c pre W=>((c=.ret∧Boxed W (w.heap.size+1+1) 4 (.bool false))∧∃ v,Boxed W (w.heap.size+1) 86 v∧W.ownsRow w.heap.size 9 1 v 0 []∧True)∧(∃ x∈pre,stepP x.1=false)∧Below w.heap.size w W)
   (OwnFrom.and (Own.from (fun pre A B row hs hg hr=>⟨⟨boxed_keep hs.1.1 hg hr,boxed_keep hs.1.2.1 hg hr,boxed_keep hs.1.2.2 hg hr⟩,holdsRow_own w.heap.size (w.heap.size+1+1+1+1) 86 9 1 (fun pre:List Tx=>pre.length) (fun pre=>pre.map fun x=>Value.string x.1) (fun _ _=>True) pre A B row hs.2 hg hr⟩) _) (OwnFrom.and (fun pre A B row hs _ _=>hs) (ownFrom_below (Nat.le_refl _) (by omega))))
   (fun c=>OwnFrom.and (Own.from (fun pre A B row hs hg hr=>⟨⟨hs.1.1,boxed_keep hs.1.2 hg hr⟩,holdsRow_own w.heap.size (w.heap.size+1) 86 9 1 (fun _:List Tx=>0) (fun _=>[]) (fun _ _=>True) pre A B row hs.2 hg hr⟩) _) (OwnFrom.and (fun pre A B row hs _ _=>hs) (ownFrom_below (Nat.le_refl _) (by omega))))
   ⟨⟨⟨b3,b4,b5⟩,_,b6,row0 br (by omega),trivial⟩,(fun x hx=>by cases hx),hbel⟩
   (fun x=>{ tmps:=#[.string s,.func (.func 152) #[] #[],undef,.pointer (some ⟨w.heap.size,0,none⟩),.pointer (some ⟨w.heap.size+1,0,none⟩),.pointer (some ⟨w.heap.size+1+1,0,none⟩),.pointer (some ⟨w.heap.size+1+1+1+1,0,none⟩),.string x.1,.slice (some ⟨w.heap.size+1+1+1,0,none⟩) 0 0,.string s,.bool false,undef,.string s,.int .u8 47,.bool false,undef,.string s,.func (.func 186) #[] #[.pointer (some ⟨w.heap.size+1+1+1+1+1,0,none⟩)],.string x.1,undef,undef,undef,undef,undef,undef,undef,undef,undef,undef],defers:=[] }) ?assign ?body ?done ?stop
  case assign=>
   intro l x W K hK
   gi_wp2
   exact hK
  case body=>
   rintro l pre x W ⟨⟨⟨hb3,hb4,hb5⟩,v,hb6,hrow,_⟩,hall,hB⟩ hlt
   have hsz:=hB.size
   have hl4:=hb4.lt
   have hl5:=hb5.lt
   have hl6:=hb6.lt
   have hc3:=hb3.cell
   have hStep:=AC.flat1 (stepIm_c x.2) (hC.below hB) (vs:=[.string x.1]) repL_v1
   cases hx:stepP x.1
   ·rw [hx] at hStep
    gi_wp2_with (refine ⟨trivial,?_⟩;refine (CallsIn.inRound l (callsIn_wide.2 hStep)).mono ?_;rintro e w1 ⟨rfl,hb1⟩;have bb4:=(Below.boxed hb1 hb4 hl4).alloc (.cells #[] 9);have hc4:=bb4.cell;have hf4:=bb4.frozen;have bb5:=boxed_other (u:=.slice (some ⟨w1.heap.size,0,none⟩) 0 0) (p:=⟨w.heap.size+1,0,none⟩) ((Below.boxed hb1 hb5 hl5).alloc (.cells #[] 9)) (by simp);have hc5:=bb5.cell;have hf5:=bb5.frozen)
    have hs1:=hb1.size
    refine ⟨((((keepsO_below hb1).trans (KeepsOthers.alloc _ _)).trans (KeepsOthers.setCell _ _ _)).trans (KeepsOthers.setCell _ _ _)),⟨⟨rfl,(boxed_other ((Below.boxed hb1 hb5 hl5).alloc _) (by simp)).set _⟩,_,boxed_other (((Below.boxed hb1 hb4 hl4).alloc _).set _) (by simp),row0 (heap_other (heap_other (heap_al rfl) (by simp;omega)) (by simp;omega)) (by omega),trivial⟩,⟨x,by simp,hx⟩,?_⟩
    exact (((hB.trans (hb1.mono hsz)).alloc (by omega) _).setCell (p:=⟨w.heap.size+1,0,none⟩) (by simp) _).setCell (p:=⟨w.heap.size+1+1,0,none⟩) (by simp;omega) _
   ·rw [hx] at hStep
    gi_wp2_with (first
     | (refine ⟨trivial,?_⟩;refine (CallsIn.inRound l (callsIn_wide.2 hStep)).mono ?_;rintro e w1 ⟨rfl,hb1⟩;have hs1:=hb1.size;have hb6':=Below.boxed hb1 hb6 hl6;have hc6:=hb6'.cell;have hrow1:=row_below hb1 hrow)
     | (gi_at_builtin;refine wpListIn_append_at _ rfl _ _ 86 rfl w.heap.size 9 it (.string ByteArray.empty) 16 Tryz.underlying86 hit1 hit2 hit3 hit4 rfl _ _ _ rfl (hrow1.alloc _) ⟨w1.heap.size,0,none⟩ (.string x.1) rfl (Boxed.new _ _ _).cell rfl (by unfold maxLen;omega) (by omega) (by simp;omega) ?_;intro v' w2 hown' hgrow hnew;obtain ⟨g',cap',rfl⟩:=ownsRow_succ hown';obtain ⟨hv1,hv2,hr2,hk2,hb2⟩:=hb6'.appended (by decide) hrow1 (by omega) (by omega) hown' hgrow;have hc7:=hv1.cell;have hf7:=hv1.frozen))
    have nb:∀ {B:Nat}{t:TypeId}{u:Value},Boxed W B t u→t≠9→B≠w.heap.size+1+1+1+1→Boxed (w2.setCell ⟨w.heap.size+1+1+1+1,0,none⟩ (.slice (some ⟨g',0,none⟩) (pre.length+1) cap')) B t u:=fun hb ht hne=>by
     have h1:=Below.boxed hb1 hb hb.lt
     exact boxed_other ((h1.alloc _).kept hgrow (h1.not_row ht hrow1)) hne
    refine ⟨(keepsO_below hb1).trans hk2,(KpW.of_below hb1 hsz hl6).trans (KpW.appended hb6' hrow1 (by omega) (by omega) (by omega) hgrow hnew hc7),⟨⟨nb hb3 (by decide) (by omega),nb hb4 (by decide) (by omega),nb hb5 (by decide) (by omega)⟩,_,hv2,by simpa using hr2,trivial⟩,fun y hy=>?_,(hB.trans (hb1.mono hsz)).trans hb2⟩
    rcases List.mem_append.1 hy with hy|hy
    ·exact hall y hy
    ·rw [List.mem_singleton] at hy
     subst hy
     exact hx
  case done=>
   rintro D xs W hD rfl ⟨⟨⟨hb3,hb4,hb5⟩,v,hb6,hrow,_⟩,hall,hB⟩ hK
   have hsz:=hB.size
   have hxl:xs.length=t.length:=by rw [←hL,List.length_map]
   obtain ⟨g,cap,rfl⟩:∃ g cap,v=.slice (some ⟨g,0,none⟩) t.length cap:=by
    rcases hrow.2 with ⟨_,h⟩|⟨g,cap,_,h,_⟩
    ·omega
    ·exact ⟨g,cap,by rw [h,hxl]⟩
   rw [hxl] at hrow
   have hc6:=hb6.cell
   have hc4:=hb4.cell
   have hf4:=hb4.frozen
   have bb5:=boxed_other (u:=.slice (some ⟨g,0,none⟩) t.length cap) (p:=⟨w.heap.size+1,0,none⟩) hb5 (by simp)
   have hc5:=bb5.cell
   have hf5:=bb5.frozen
   have e:splP s=(t,true):=splP_yes (by omega) i0' ht fun j hj=>by
    subst hL
    rw [List.getElem_map]
    exact hall _ (List.getElem_mem _)
   gi_wp2
   refine ⟨by simp,.inl ⟨_,_,rfl,run_takeDeferred (((KeepsOthers.setCell _ _ _).trans (KeepsOthers.setCell _ _ _)).same D _ hK rfl),?_⟩⟩
   have hDlt:w.heap.size+6≤D:=by omega
   have bb4:=boxed_other (u:=.bool true) (p:=⟨w.heap.size+1+1,0,none⟩) (hb4.set (.slice (some ⟨g,0,none⟩) t.length cap)) (by simp)
   have bb5':=bb5.set (.bool true)
   have hKD:=((KeepsOthers.setCell W ⟨w.heap.size+1,0,none⟩ (.slice (some ⟨g,0,none⟩) t.length cap)).trans (KeepsOthers.setCell _ ⟨w.heap.size+1+1,0,none⟩ (.bool true))).same D _ hK rfl
   refine ⟨_,results_cells2 rfl tk86 tk4 rfl rfl (bb4.kept (grownBy_putObj' _ D _) (by simp;omega)).cell (bb5'.kept (grownBy_putObj' _ D _) (by simp;omega)).cell,.slice (some ⟨g,0,none⟩) t.length cap,?_,?_,?_⟩
   ·rw [e]
   ·have hr1:=((hrow.kept (grownBy_setCell' W (w.heap.size+1) (.slice (some ⟨g,0,none⟩) t.length cap)) (.inr (hb4.not_row (by decide) hrow).symm)).kept (grownBy_setCell' _ (w.heap.size+1+1) (.bool true)) (.inr (bb5.not_row (by decide) (hrow.kept (grownBy_setCell' W (w.heap.size+1) (.slice (some ⟨g,0,none⟩) t.length cap)) (.inr (hb4.not_row (by decide) hrow).symm))).symm))
    have hr2:=ownsRow_putObj hr1 (.deferred none) hKD rfl
    rw [e]
    have hm:xs.map (fun x=>Value.string x.1)=t.map Value.string:=by rw [←hL,List.map_map];rfl
    rw [←hm]
    exact hr2
   ·exact ((hB.setCell (p:=⟨w.heap.size+1,0,none⟩) (by simp) _).setCell (p:=⟨w.heap.size+1+1,0,none⟩) (by simp;omega) _).trans (belowK_b (w:=w) (Nat.le_refl _) _ D _ _ (by omega) hKD rfl rfl)
  case stop=>
   rintro D c pre W hD hSp ⟨⟨⟨rfl,hb5⟩,v,hb4,hrow,_⟩,⟨x,hx1,hx2⟩,hB⟩ hK
   have e:splP s=([],false):=by
    obtain ⟨j,hj,hjx⟩:=List.getElem_of_mem (hSp.subset hx1)
    refine splP_bad (by omega) ht (j:=j) (by rw [←hL,List.length_map];exact hj) ?_
    subst hL
    rw [List.getElem_map,hjx]
    exact hx2
   gi_wp2
   refine ⟨by simp,.inl ⟨_,_,rfl,run_takeDeferred hK,?_⟩⟩
   refine ⟨_,results_cells2 rfl tk86 tk4 rfl rfl (hb4.kept (grownBy_putObj' _ D _) (by simp;omega)).cell (hb5.kept (grownBy_putObj' _ D _) (by simp;omega)).cell,v,?_,?_,?_⟩
   ·rw [e]
   ·rw [e]
    exact ownsRow_putObj hrow (.deferred none) hK rfl
   ·exact hB.trans (belowK_b (w:=w) (Nat.le_refl _) W D _ _ (by omega) hK rfl rfl)
 ·have e:splP s=([],false):=splP_no (by omega) (by rw [i0];exact fun h=>h2 (Option.some.inj h))
  have hE:=ne_emp (s:=s) (by omega)
  have hb:((((s[0]'(by omega)).toNat:Nat):Int) != 47)=true:=by
   rw [bne_iff_ne]
   exact fun h=>h2 (u8_inj (y:=47) h)
  rw [e]
  gi_wp2
  refine ⟨_,results_cells2 rfl tk86 tk4 rfl rfl (((((boxed_at (by simp)).alloc _).alloc _).alloc _).cell) ((((boxed_at (by simp)).alloc _).alloc _).cell),_,rfl,row0 (g:=w.heap.size+1+1+1) (heap_old (heap_al (by simp))) (by omega),below5 ..⟩
end Go.Proofs.YtomfggmmhkpeeaaGreatDoor.Eng
