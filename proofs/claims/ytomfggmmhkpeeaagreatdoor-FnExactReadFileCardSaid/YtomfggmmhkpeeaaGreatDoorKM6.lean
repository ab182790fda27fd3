/-
 What the laws write over values whose rows lie in blocks of their own: the functions.
-/
import Derived.Test.YtomfggmmhkpeeaaGreatDoorKNS9
set_option linter.unusedSimpArgs false
set_option linter.unusedVariables false
set_option linter.defProp false
set_option maxRecDepth 100000
set_option maxHeartbeats 4000000
namespace Go.Proofs.YtomfggmmhkpeeaaGreatDoor.Eng
open Go Go.RowKit

theorem encB_nil {C C':CellR}{u:Value} (h:RepD C (encB []) u):RepD C' (encB []) u:=by
 unfold encB RepD at h ⊢
 obtain ⟨a,cap,h1,h2,h3,_⟩:=h
 exact ⟨a,cap,h1,h2,h3,.inl rfl⟩
theorem sp_nil {C C':CellR}{z:Nat}{u:Value} (h:RepD C (.sp z []) u):RepD C' (.sp z []) u:=by
 unfold RepD at h ⊢
 obtain ⟨a,cap,h1,h2,h3,_⟩:=h
 exact ⟨a,cap,h1,h2,h3,.inl rfl⟩
theorem CokM.keep {C:CellR}{X:Nat→Prop}{w w':World} (h:CokM C w) (hfw:BelowX X w.heap.size w w') (hX:∀ b o v,C b o v→¬X b):CokM C w':=fun b o v hc=>by
 obtain ⟨h1,h2,h3⟩:=h b o v hc
 have hb:=hfw.block b (cell_lt h1) (hX b o v hc)
 exact ⟨(World.cell?_of_block (w:=w) (a:=⟨b,o,none⟩) hb).trans h1,h2,(frz_of_block hb).trans h3⟩
theorem CokM.sub {C C':CellR}{w:World} (h:CokM C w) (hs:∀ b o v,C' b o v→C b o v):CokM C' w:=fun b o v hc=>h b o v (hs b o v hc)
theorem BelowX.imp {X Y:Nat→Prop}{B:Nat}{w w':World} (h:BelowX X B w w') (k:∀ b,X b→Y b):BelowX Y B w w':=⟨h.os,h.tape,h.output,h.size,fun b hb hy=>h.block b hb fun hx=>hy (k b hx)⟩
theorem BelowX.le {X:Nat→Prop}{B B':Nat}{w w':World} (h:BelowX X B w w') (k:B'≤B):BelowX X B' w w':=⟨h.os,h.tape,h.output,h.size,fun b hb hy=>h.block b (Nat.lt_of_lt_of_le hb k) hy⟩
def CNone:CellR:=fun _ _ _=>False
theorem markB_w {l:List UInt8}{k:Int} (h0:0≤k) (hk:k+l.length≤4611686018427387904) {C:CellR}{u:Value}{w:World} (hcm:CokM C w) (hr:RepD C (encB l) u) :
  Calls Tryz.prog 17 #[u,.int .i64 k] w fun e w'=>e=.returned (.int .i64 (k+l.length))∧BelowX (Zof C) w.heap.size w w'∧∃ C2:CellR,(∀ b o v,C2 b o v→Zof C b)∧CokM C2 w'∧RepD C2 (encB (mkB k l.length)) u:=by
 obtain ⟨a,cap,rfl,hm,hcap,h⟩:=row_open (f:=fun c:UInt8=>Value.int .u8 c.toNat) hr
 have hlc:l.length≤cap:=by
  unfold encB at hr
  unfold RepD at hr
  obtain ⟨_,_,h1,h2,_⟩:=hr
  simp only [List.length_map] at h1 h2
  injection h1 with _ _ h1
  omega
 have hmk:=MK.of hcm
 rcases Nat.eq_zero_or_pos l.length with hl|hl
 ·rw [hl]
  refine (markB_nil w a cap k).mono fun e w' ⟨h1,h2⟩=>?_
  subst h2
  refine ⟨by rw [h1];simp,BelowX.refl _ _ _,CNone,fun _ _ _ h=>h.elim,fun _ _ _ h=>h.elim,?_⟩
  unfold encB RepD
  exact ⟨a,cap,by simp [mkB],by simp [mkB],hcap,.inl (by simp [mkB])⟩
 ·rcases h with rfl|⟨b,o,rfl,hc⟩
  ·simp at hl
  ·refine (markB_some (wr_of hmk hc) h0 hk hm).mono fun e w' ⟨h1,h2⟩=>⟨h1,belowX_zof ⟨_,_,hc 0 hl⟩ h2.fw,_,fun b' o' v ⟨h3,_⟩=>⟨_,_,by subst h3;exact hc 0 hl⟩,done_cokM (wr_of hmk hc) (fun _=>rfl) h2,?_⟩
   have:=row_close (C:=fun b' o' v=>b'=b∧∃ j,j<l.length∧o'=o+j∧v=Value.int .u8 (IntKind.u8.wrap (k+(j:Int)))) (f:=fun c:UInt8=>Value.int .u8 c.toNat) (l:=mkB k l.length) (b:=b) (o:=o) (cap:=cap) (by rw [mkB_len];exact hlc) hcap (fun j hj=>by
    rw [mkB_len] at hj
    exact ⟨rfl,j,hj,rfl,by simp only [mkB,List.getElem_map,List.getElem_range];rw [mkB_at h0]⟩)
   rw [mkB_len] at this
   exact this
theorem markB_p {bs:List UInt8}{vs:List V}{k:Int} (ht:bs=[]∨vs=[]) (h0:0≤k) (hk:k+bs.length≤4611686018427387904) {C:CellR}{u1 u2:Value}{w:World} (hcm:CokM C w) (r1:RepD C (encB bs) u1) (r2:RepD C (.sp 3 (encWs vs)) u2) :
  Calls Tryz.prog 17 #[u1,.int .i64 k] w fun e w'=>e=.returned (.int .i64 (k+bs.length))∧BelowX (Zof C) w.heap.size w w'∧∃ C2:CellR,(∀ b o v,C2 b o v→Zof C b)∧CokM C2 w'∧RepD C2 (encB (mkB k bs.length)) u1∧RepD C2 (.sp 3 (encWs vs)) u2:=by
 rcases ht with rfl|rfl
 ·refine (markB_w h0 hk (C:=CNone) (fun _ _ _ h=>h.elim) (encB_nil r1)).mono fun e w' ⟨e1,e2,_⟩=>⟨e1,e2.imp fun b ⟨_,_,h⟩=>h.elim,C,fun b o v h=>⟨_,_,h⟩,hcm.keep e2 fun b o v _ ⟨_,_,h⟩=>h.elim,r1,r2⟩
 ·exact (markB_w h0 hk hcm r1).mono fun e w' ⟨e1,e2,C2,q1,q2,q3⟩=>⟨e1,e2,C2,q1,q2,q3,sp_nil r2⟩
def MVOK (l:List V):Prop:=∀ (k:Int) (C:CellR) (u:Value) (w:World),0≤k→k+cntVs l≤4611686018427387904→CokM C w→RepD C (.sp 3 (encWs l)) u→
 Calls Tryz.prog 39 #[u,.int .i64 k] w fun e w'=>e=.returned (.int .i64 (k+cntVs l))∧BelowX (Zof C) w.heap.size w w'∧∃ C2:CellR,(∀ b o v,C2 b o v→Zof C b)∧CokM C2 w'∧RepD C2 (.sp 3 (encWs (mkVs l k))) u
theorem markV_p {bs:List UInt8}{vs:List V} (H:MVOK vs) {k:Int} (ht:bs=[]∨vs=[]) (h0:0≤k) (hk:k+cntVs vs≤4611686018427387904) {C:CellR}{u1 u2:Value}{w:World} (hcm:CokM C w) (r1:RepD C (encB bs) u1) (r2:RepD C (.sp 3 (encWs vs)) u2) :
  Calls Tryz.prog 39 #[u2,.int .i64 k] w fun e w'=>e=.returned (.int .i64 (k+cntVs vs))∧BelowX (Zof C) w.heap.size w w'∧∃ C2:CellR,(∀ b o v,C2 b o v→Zof C b)∧CokM C2 w'∧RepD C2 (encB bs) u1∧RepD C2 (.sp 3 (encWs (mkVs vs k))) u2:=by
 rcases ht with rfl|rfl
 ·exact (H k C u2 w h0 hk hcm r2).mono fun e w' ⟨e1,e2,C2,q1,q2,q3⟩=>⟨e1,e2,C2,q1,q2,encB_nil r1,q3⟩
 ·exact (H k CNone u2 w h0 hk (fun _ _ _ h=>h.elim) (sp_nil r2)).mono fun e w' ⟨e1,e2,_⟩=>⟨e1,e2.imp fun b ⟨_,_,h⟩=>h.elim,C,fun b o v h=>⟨_,_,h⟩,hcm.keep e2 fun b o v _ ⟨_,_,h⟩=>h.elim,r1,by rw [mkVs];exact r2⟩

structure MSt (C:CellR) (l:List V) (k:Int) (b o:Nat) (w wr:World) (j:Nat):Prop where
 fw:BelowX (Zof C) w.heap.size w wr
 ex:∃ Cj:CellR,(∀ b o v,Cj b o v→Zof C b)∧CokM Cj wr∧RepSp Cj 3 (encWs (mkVs (l.take j) k++l.drop j)) b o
theorem MSt.step {C Cj C2 C3:CellR}{l:List V}{k K:Int}{b o:Nat}{w wr w2 w3:World}{j:Nat}{F:Nat→Prop}{n:Int}{bs:List UInt8}{vs:List V}{u1 u2:Value} (hj:j<l.length) (hv:l[j]=.mk n bs vs) (hK:K=k+cntVs (l.take j)) (fw:BelowX (Zof C) w.heap.size w wr)
  (c1:∀ b o v,Cj b o v→Zof C b) (c2:CokM Cj wr) (f0:¬F b) (a0:Cj b (o+j*3) (.int .i64 n))
  (up:∀ (C':CellR) (n':Int) (bs':List UInt8) (vs':List V),(∀ b' o' v,Cj b' o' v→¬F b'→¬(b'=b∧o'=o+(mkVs (l.take j) k).length*3)→C' b' o' v)→C' b (o+(mkVs (l.take j) k).length*3) (.int .i64 n')→RepD (C'.on F) (encB bs') u1→RepD (C'.on F) (.sp 3 (encWs vs')) u2→RepSp C' 3 (encWs (mkVs (l.take j) k++.mk n' bs' vs'::l.drop (j+1))) b o)
  (fw2:BelowX (Zof (Cj.on F)) w.heap.size (wr.setCell ⟨b,o+j*3,none⟩ (.int .i64 K)) w2) (fw2':∀ b' o' v,Cj b' o' v→¬F b'→w2.heap[b']?=(wr.setCell ⟨b,o+j*3,none⟩ (.int .i64 K)).heap[b']?)
  (fw3:BelowX (Zof C2) w.heap.size w2 w3) (fw3':∀ b' o' v,Cj b' o' v→¬F b'→w3.heap[b']?=w2.heap[b']?) (q1:∀ b o v,C2 b o v→Zof (Cj.on F) b) (p1:∀ b o v,C3 b o v→Zof C2 b) (p2:CokM C3 w3)
  (p3:RepD C3 (encB (mkB (K+1) bs.length)) u1) (p4:RepD C3 (.sp 3 (encWs (mkVs vs (K+1+bs.length)))) u2):MSt C l k b o w w3 (j+1):=by
 have hlen:(mkVs (l.take j) k).length=j:=by rw [mkVs_len,List.length_take];omega
 rw [hlen] at up
 have z2:∀ b',Zof (Cj.on F) b'→Zof C b':=fun b' ⟨o',v,h⟩=>c1 b' o' v h.1
 have z3:∀ b',Zof C2 b'→Zof (Cj.on F) b':=fun b' ⟨o',v,h⟩=>q1 b' o' v h
 have zF:∀ b',Zof (Cj.on F) b'→F b':=fun b' ⟨o',v,h⟩=>h.2
 have hset:BelowX (Zof C) w.heap.size wr (wr.setCell ⟨b,o+j*3,none⟩ (.int .i64 K)):=⟨rfl,rfl,rfl,by rw [World.setCell];simp,fun k' _ hx=>by
  rw [World.setCell]
  simp only [Array.getElem?_modify]
  rw [if_neg (fun e=>hx (by rw [←e];exact c1 _ _ _ a0))]⟩
 refine ⟨((fw.trans hset).trans (fw2.imp z2)).trans (fw3.imp fun b' h=>z2 b' (z3 b' h)),fun b' o' v=>(Cj b' o' v∧¬F b'∧¬(b'=b∧o'=o+j*3))∨(b'=b∧o'=o+j*3∧v=.int .i64 K)∨(C3 b' o' v),fun b' o' v h=>?_,fun b' o' v h=>?_,?_⟩
 ·rcases h with h|⟨rfl,rfl,rfl⟩|h
  ·exact c1 _ _ _ h.1
  ·exact c1 _ _ _ a0
  ·exact z2 _ (z3 _ (p1 _ _ _ h))
 ·rcases h with ⟨h1,h2,h3⟩|⟨rfl,rfl,rfl⟩|h
  ·obtain ⟨g1,g2,g3⟩:=c2 _ _ _ h1
   have e3:=(fw3' _ _ _ h1 h2).trans (fw2' _ _ _ h1 h2)
   refine ⟨(World.cell?_of_block (w:=wr.setCell ⟨b,o+j*3,none⟩ (.int .i64 K)) (a:=⟨b',o',none⟩) e3).trans ((World.cell?_setCell_other _ _ _ _ fun e=>h3 ?_).trans g1),g2,(frz_of_block e3).trans ((World.frozen?_setCell ..).trans g3)⟩
   simp only [Addr.mk.injEq] at e
   exact ⟨e.1.symm,e.2.1.symm⟩
  ·obtain ⟨g1,g2,g3⟩:=c2 _ _ _ a0
   have e3:=(fw3' _ _ _ a0 f0).trans (fw2' _ _ _ a0 f0)
   exact ⟨(World.cell?_of_block (w:=wr.setCell ⟨b',o+j*3,none⟩ (.int .i64 K)) (a:=⟨b',o+j*3,none⟩) e3).trans (World.cell?_setCell_same _ _ _ g1),rfl,(frz_of_block e3).trans ((World.frozen?_setCell ..).trans g3)⟩
  ·exact p2 _ _ _ h
 ·have hl:mkVs (l.take (j+1)) k++l.drop (j+1)=mkVs (l.take j) k++.mk K (mkB (K+1) bs.length) (mkVs vs (K+1+bs.length))::l.drop (j+1):=by
   rw [List.take_succ_eq_append_getElem hj,mkVs_append,List.append_assoc,hv,←hK]
   congr 1
  rw [hl]
  exact up _ _ _ _ (fun b' o' v h1 h2 h3=>.inl ⟨h1,h2,h3⟩) (.inr (.inl ⟨rfl,rfl,rfl⟩)) (RepD.mono (fun b' o' v h=>⟨.inr (.inr h),zF _ (z3 _ (p1 _ _ _ h))⟩) _ _ p3) (RepD.mono (fun b' o' v h=>⟨.inr (.inr h),zF _ (z3 _ (p1 _ _ _ h))⟩) _ _ p4)

end Go.Proofs.YtomfggmmhkpeeaaGreatDoor.Eng
