/-
 What the laws write over rows of texts and read again.
-/
import Derived.Test.YtaammoodcgfhpaaDoorKM2
import Derived.Test.YtaammoodcgfhpaaDoorKNW0
set_option linter.unusedSimpArgs false
set_option linter.unusedVariables false
set_option linter.defProp false
set_option maxRecDepth 100000
set_option maxHeartbeats 4000000
namespace Go.Proofs.YtaammoodcgfhpaaDoor
open Go.RowKit

structure DoneC (f:Nat→Value) (b o n:Nat) (w wr:World) (j:Nat):Prop where
 fw:Eng.BelowX (·=b) w.heap.size w wr
 wb:∀ i,i<n→∃ u,wr.cell? ⟨b,o+i,none⟩=some u
 fz:∀ i,i<n→wr.frozen? ⟨b,o+i,none⟩=false
 md:∀ i,i<j→wr.cell? ⟨b,o+i,none⟩=some (f i)
theorem DoneC.start {f:Nat→Value}{b o n:Nat}{w:World} (h:Wr w b o n):DoneC f b o n w w 0:=⟨Eng.BelowX.refl _ _ _,fun i hi=>(h i hi).1,fun i hi=>(h i hi).2,fun i h=>absurd h (Nat.not_lt_zero i)⟩
theorem DoneC.call {f:Nat→Value}{b o n:Nat}{w wr w2:World}{j:Nat} (h:DoneC f b o n w wr j) (hjn:j≤n) (hb:Below wr.heap.size wr w2):DoneC f b o n w w2 j:=by
 have hc:∀ i,i<n→w2.cell? ⟨b,o+i,none⟩=wr.cell? ⟨b,o+i,none⟩∧w2.frozen? ⟨b,o+i,none⟩=wr.frozen? ⟨b,o+i,none⟩:=fun i hi=>by
  obtain ⟨u,hu⟩:=h.wb i hi
  have hbl:=hb.block b (Eng.cell_lt hu)
  exact ⟨World.cell?_of_block (w:=wr) (a:=⟨b,o+i,none⟩) hbl,Eng.frz_of_block hbl⟩
 refine ⟨⟨hb.os.trans h.fw.os,hb.tape.trans h.fw.tape,hb.output.trans h.fw.output,Nat.le_trans h.fw.size hb.size,fun k hk hx=>(hb.block k (Nat.lt_of_lt_of_le hk h.fw.size)).trans (h.fw.block k hk hx)⟩,fun i hi=>?_,fun i hi=>(hc i hi).2.trans (h.fz i hi),fun i hi=>(hc i (by omega)).1.trans (h.md i hi)⟩
 obtain ⟨u,hu⟩:=h.wb i hi
 exact ⟨u,(hc i hi).1.trans hu⟩
theorem DoneC.step {f:Nat→Value}{b o n:Nat}{w wr:World}{j:Nat} (h:DoneC f b o n w wr j) (hj:j<n):DoneC f b o n w (wr.setCell ⟨b,o+j,none⟩ (f j)) (j+1):=by
 obtain ⟨u0,hu0⟩:=h.wb j hj
 refine ⟨⟨h.fw.os,h.fw.tape,h.fw.output,by rw [World.setCell];simpa using h.fw.size,fun k hk hx=>?_⟩,fun i hi=>?_,fun i hi=>(World.frozen?_setCell ..).trans (h.fz i hi),fun i hi=>?_⟩
 ·have:=h.fw.block k hk hx
  rw [←this,World.setCell]
  simp only [Array.getElem?_modify]
  rw [if_neg (fun e=>hx e.symm)]
 ·by_cases e:i=j
  ·subst e
   exact ⟨_,World.cell?_setCell_same _ _ _ hu0⟩
  ·obtain ⟨u,hu⟩:=h.wb i hi
   exact ⟨u,(World.cell?_setCell_other _ _ _ _ (by first|(simp;done)|(simp;omega))).trans hu⟩
 ·by_cases e:i=j
  ·subst e;exact World.cell?_setCell_same _ _ _ hu0
  ·rw [World.cell?_setCell_other _ _ _ _ (by first|(simp;done)|(simp;omega))]
   exact h.md i (by omega)
theorem Eng.Cok.keepX {Ce:Eng.CellR}{w wr:World}{b:Nat} (h:Eng.Cok Ce w) (hb:∀ o v,¬Ce b o v) (fw:Eng.BelowX (·=b) w.heap.size w wr):Eng.Cok Ce wr:=by
 have hbl:∀ b' o v,Ce b' o v→wr.heap[b']?=w.heap[b']?:=fun b' o v hc=>fw.block b' (Eng.cell_lt (h.cell _ _ _ hc).1) fun e=>hb o v (e▸hc)
 refine ⟨fun b' o v hc=>?_,fun b' o v hc hl=>?_,h.gl,h.tb.keep h.gl fun b' _ _ _ h1 h0 hC=>(hC 0 h0).elim fun u hu=>hbl b' 0 u hu⟩
 ·have:=h.cell _ _ _ hc
  exact ⟨(World.cell?_of_block (w:=w) (a:=⟨b',o,none⟩) (hbl _ _ _ hc)).trans this.1,this.2⟩
 ·rw [Eng.frz_of_block (hbl _ _ _ hc)]
  exact h.nf _ _ _ hc hl
theorem markS_nil (w:World) (a:Option Addr) (cap:Nat) (k:Int):Calls Tryd.prog 11 #[.slice a 0 cap,.int .i64 k] w fun e w'=>e=.returned (.int .i64 k)∧w'=w:=by
 go_enter Tryd.func11,Tryd.ntmps11
 go_wp2_with fail
 go_loopw [1,5] (fun kk i wr=>kk=.int .i64 k∧i=.int .i64 0∧wr=w) (fun _ _ _=>0)
 case atStart=>exact ⟨rfl,rfl,rfl⟩
 case round=>
  obtain ⟨rfl,rfl,rfl⟩:=hrel
  go_wp2_with fail
  go_ret
  exact ⟨rfl,rfl⟩
theorem markS_some {w:World}{Ce:Eng.CellR}{b o n cap k:Nat} (hCe:Eng.Cok Ce w) (hb:∀ o v,¬Ce b o v) (hw:Wr w b o n) (hk:k+n≤4611686018427387904) (hm:n≤maxLen) :
  Calls Tryd.prog 11 #[.slice (some ⟨b,o,none⟩) n cap,.int .i64 k] w fun e w'=>e=.returned (.int .i64 ((k+n:Nat):Int))∧DoneC (fun j=>.string (Eng.mtext (k+j))) b o n w w' n:=by
 unfold maxLen at hm
 go_enter Tryd.func11,Tryd.ntmps11
 go_wp2_with fail
 go_loopw [1,5] (fun kk i wr=>∃ j:Nat,j≤n∧kk=.int .i64 ((k+j:Nat):Int)∧i=.int .i64 j∧DoneC (fun j=>.string (Eng.mtext (k+j))) b o n w wr j) (fun _ i _=>n - (intOf i).toNat)
 case atStart=>exact ⟨0,Nat.zero_le _,by simp,rfl,DoneC.start hw⟩
 case round=>
  obtain ⟨j,hj,rfl,rfl,hd⟩:=hrel
  have Hd:=Lib.hid hd
  by_cases hlt:j<n
  ·have hT:=Eng.AC.flat1 (Eng.markText_c (n:=k+j) (by omega)) (hCe.keepX hb hd.fw) (vs:=[.int .i64 ((k+j:Nat):Int)]) Eng.repL_v1
   clear hd hw hCe
   go_wp2_with (first|(go_at_call 25;refine hT.mono ?_;rintro e w2 ⟨rfl,hb2⟩;have hd2:=Hd.out.call hj hb2;obtain ⟨u0,hu0⟩:=hd2.wb j hlt;have hf0:=hd2.fz j hlt;have Hd2:=Lib.hid hd2;clear hd2))
   go_roundw
   case rel=>exact ⟨j+1,by omega,by first|rfl|(congr 1;omega)|congr 1,by go_num,Hd2.out.step hlt⟩
   case measure=>simp [intOf];omega
  ·obtain rfl:j=n:=by omega
   clear hd hw hCe
   go_wp2_with fail
   go_ret
   exact ⟨rfl,Hd.out⟩
namespace Eng
open Go Go.RowKit
def mkS (k n:Nat):List ByteArray:=(List.range n).map fun j=>mtext (k+j)
theorem mkS_len (k n:Nat):(mkS k n).length=n:=by simp [mkS]
theorem markS_x {l:List ByteArray}{k:Nat} (hk:k+l.length≤4611686018427387904):ACM Tryd.prog 11 (encS l) (k:Nat) ((k+l.length:Nat):Int) (some (encS (mkS k l.length))):=
 ⟨Tryd.call11,fun w Ce C u hCe hdis hcm hr=>by
 obtain ⟨a,cap,rfl,hm,hcap,h⟩:=row_open (f:=fun c:ByteArray=>Value.string c) hr
 have hlc:l.length≤cap:=by
  unfold encS at hr
  unfold RepD at hr
  obtain ⟨_,_,h1,h2,_⟩:=hr
  simp only [List.length_map] at h1 h2
  injection h1 with _ _ h1
  omega
 have hmk:=MK.of hcm
 rcases Nat.eq_zero_or_pos l.length with hl|hl
 ·rw [hl]
  refine (markS_nil w a cap k).mono fun e w' ⟨h1,h2⟩=>?_
  subst h2
  refine ⟨by rw [h1];simp,BelowX.refl _ _ _,fun x hx=>?_⟩
  obtain rfl:=Option.some.inj hx
  refine ⟨fun _ _ _=>False,fun _ _ _ h=>h.elim,fun _ _ _ h=>h.elim,?_⟩
  unfold encS RepD
  exact ⟨a,cap,by simp [mkS],by simp [mkS],hcap,.inl (by simp [mkS])⟩
 ·rcases h with rfl|⟨b,o,rfl,hc⟩
  ·simp at hl
  ·have hbC:∀ o v,¬Ce b o v:=fun o' v hce=>hdis b o' v hce ⟨_,_,hc 0 hl⟩
   refine (markS_some hCe hbC (wr_of hmk hc) hk hm).mono fun e w' ⟨h1,h2⟩=>⟨h1,⟨h2.fw.os,h2.fw.tape,h2.fw.output,h2.fw.size,fun k' hk' hx=>h2.fw.block k' hk' fun e=>hx (by subst e;exact ⟨_,_,hc 0 hl⟩)⟩,fun x hx=>?_⟩
   obtain rfl:=Option.some.inj hx
   refine ⟨fun b' o' v=>b'=b∧∃ j,j<l.length∧o'=o+j∧v=.string (mtext (k+j)),fun b' o' v ⟨h3,_⟩=>⟨_,_,by subst h3;exact hc 0 hl⟩,fun b' o' v ⟨h3,j,hj,h4,h5⟩=>by
    subst h3 h4 h5
    exact ⟨h2.md j hj,rfl,h2.fz j hj⟩,?_⟩
   have:=row_close (C:=fun b' o' v=>b'=b∧∃ j,j<l.length∧o'=o+j∧v=Value.string (mtext (k+j))) (f:=fun c:ByteArray=>Value.string c) (l:=mkS k l.length) (b:=b) (o:=o) (cap:=cap) (by rw [mkS_len];exact hlc) hcap (fun j hj=>by
    rw [mkS_len] at hj
    exact ⟨rfl,j,hj,rfl,by simp [mkS]⟩)
   rw [mkS_len] at this
   exact this⟩
private def tyF:=ai tg26 (ai tg3 tg9)
theorem heldS_c {k n:Nat} (hk:k+n≤4611686018427387904):AC Tryd.prog 12 [.d (encS (mkS k n)),.d (iD (k:Nat))] none (fun r' _=>r'=.d (iD ((k+n:Nat):Int))):=by
 have hlen:=mkS_len k n
 refine cbS Tryd.func12 rfl Tryd.call12 Tryd.ntmps12 fun en hsz hks hk0=>?_;refine enS ?_
 refine walkS ?_
 refine aw_loopS [0,4] (fun _ _=>[]) (fun _ j=>[(1,.d (iD ((k+j:Nat):Int))),(5,.d (iD (j:Nat)))]) [] (fun _ _=>[]) [] (fun _ _=>[]) (fun j=>j≤n) (fun j=>n - j) (0) hks (fun _=>rfl) (Nat.zero_le _) wkS ?_;intro x hx;refine headS ?_
 refine walkS ?_
 refine aw_condS rfl (fun hc=>?_) (fun hc=>?_)
 ·rw [hlen] at hc
  have hj:x<(mkS k n).length:=by omega
  have hg:(mkS k n)[x]=mtext (k+x):=by simp [mkS]
  (repeat (first|refine ctlS ?_|(refine ol_go ?_ (fun K1 hK1=>?_);exact trS;refine evS ?_;(try simp only [hg]);refine hK1 _ _ ?_;clear hK1 K1)|(refine ow_go ?_ dsS (fun K1 hK1=>?_);exact trS;refine evS ?_;(try simp only [hg]);refine hK1 _ ?_;clear hK1 K1)|refine skipS ?_|(refine callPre ?_;(first|refine callN_funS rfl (markText_c (n:=k+x) (by omega)) ?_))|(refine callPreL ?_;(first|refine callL_funS rfl (markText_c (n:=k+x) (by omega)) ?_))))
  refine aw_condS rfl (fun h1=>?_) (fun h1=>?_)
  ·simp at h1
  ·refine walkS ?_
   refine ⟨x+1,by omega,by omega,?_⟩
   (try rw [show ((k+x:Nat):Int)+1=((k+(x+1):Nat):Int) by omega])
   exact wkS
 ·rw [hlen] at hc
  obtain rfl:x=n:=by have:x≤n:=hx;omega
  refine walkS ?_
  (refine rtS Tryd.results12 ?_;exact ⟨_,_,.inl ⟨rfl,rfl⟩,List.nodup_nil,rfl⟩)
end Eng
end Go.Proofs.YtaammoodcgfhpaaDoor
