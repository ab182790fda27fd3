/-
 What the laws write over: rows of bytes, of numbers.
-/
import Derived.Test.YtaammoodcgfhpaaDoorProg
import Derived.Test.YtaammoodcgfhpaaDoorKN0
import Derived.Test.YtaammoodcgfhpaaDoorKE31
import Derived.Laws.IdiomCopy
set_option linter.unusedSimpArgs false
set_option linter.unusedVariables false
set_option linter.defProp false
set_option maxRecDepth 100000
set_option maxHeartbeats 4000000
namespace Go.Proofs.YtaammoodcgfhpaaDoor
open Go.RowKit

def Wr (w:World) (b o n:Nat):Prop:=∀ j,j<n→(∃ u,w.cell? ⟨b,o+j,none⟩=some u)∧w.frozen? ⟨b,o+j,none⟩=false
structure Done (f:Nat→Value) (b o:Nat) (w wr:World) (j:Nat):Prop where
 fw:Eng.BelowX (·=b) w.heap.size w wr
 out:∀ x:Addr,(x.block=b→x.spot=none→x.off<o∨o+j≤x.off)→wr.cell? x=w.cell? x
 frz:∀ x,wr.frozen? x=w.frozen? x
 md:∀ i,i<j→wr.cell? ⟨b,o+i,none⟩=some (f i)
theorem Done.start (f:Nat→Value) (b o:Nat) (w:World):Done f b o w w 0:=⟨Eng.BelowX.refl _ _ _,fun _ _=>rfl,fun _=>rfl,fun i h=>absurd h (Nat.not_lt_zero i)⟩
theorem Done.at {f:Nat→Value}{b o:Nat}{w wr:World}{j n:Nat} (h:Done f b o w wr j) (hw:Wr w b o n) (hj:j<n):(∃ u,wr.cell? ⟨b,o+j,none⟩=some u)∧wr.frozen? ⟨b,o+j,none⟩=false:=by
 obtain ⟨⟨u,hu⟩,hf⟩:=hw j hj
 exact ⟨⟨u,(h.out _ fun _ _=>.inr (Nat.le_refl _)).trans hu⟩,(h.frz _).trans hf⟩
theorem Done.step {f:Nat→Value}{b o:Nat}{w wr:World}{j:Nat}{u:Value} (h:Done f b o w wr j) (hc:wr.cell? ⟨b,o+j,none⟩=some u):Done f b o w (wr.setCell ⟨b,o+j,none⟩ (f j)) (j+1):=by
 refine ⟨⟨h.fw.os,h.fw.tape,h.fw.output,by rw [World.setCell];simpa using h.fw.size,fun k hk hx=>?_⟩,fun x hx=>?_,fun x=>(World.frozen?_setCell ..).trans (h.frz x),fun i hi=>?_⟩
 ·have:=h.fw.block k hk hx
  rw [←this,World.setCell]
  simp only [Array.getElem?_modify]
  rw [if_neg (fun e=>hx e.symm)]
 ·rw [World.cell?_setCell_other _ _ _ _ (fun e=>?_)]
  ·exact h.out x fun h1 h2=>(hx h1 h2).imp id fun h=>by omega
  ·have:=hx (by rw [←e]) (by rw [←e])
   rw [←e] at this
   simp at this
   omega
 ·by_cases e:i=j
  ·subst e;exact World.cell?_setCell_same _ _ _ hc
  ·rw [World.cell?_setCell_other _ _ _ _ (by first|(simp;done)|(simp;omega))]
   exact h.md i (by omega)

theorem markB_nil (w:World) (a:Option Addr) (cap:Nat) (k:Int):Calls Tryd.prog 39 #[.slice a 0 cap,.int .i64 k] w fun e w'=>e=.returned (.int .i64 k)∧w'=w:=by
 go_enter Tryd.func39,Tryd.ntmps39
 go_wp2_with fail
 go_loopw [1,5] (fun kk i wr=>kk=.int .i64 k∧i=.int .i64 0∧wr=w) (fun _ _ _=>0)
 case atStart=>exact ⟨rfl,rfl,rfl⟩
 case round=>
  obtain ⟨rfl,rfl,rfl⟩:=hrel
  go_wp2_with fail
  go_ret
  exact ⟨rfl,rfl⟩
theorem markB_some {w:World}{b o n cap:Nat}{k:Int} (hw:Wr w b o n) (h0:0≤k) (hk:k+n≤4611686018427387904) (hm:n≤maxLen) :
  Calls Tryd.prog 39 #[.slice (some ⟨b,o,none⟩) n cap,.int .i64 k] w fun e w'=>e=.returned (.int .i64 (k+n))∧Done (fun j=>.int .u8 (IntKind.u8.wrap (k+j))) b o w w' n:=by
 unfold maxLen at hm
 go_enter Tryd.func39,Tryd.ntmps39
 go_wp2_with fail
 go_loopw [1,5] (fun kk i wr=>∃ j:Nat,j≤n∧kk=.int .i64 (k+j)∧i=.int .i64 j∧Done (fun j=>.int .u8 (IntKind.u8.wrap (k+j))) b o w wr j) (fun _ i _=>n - (intOf i).toNat)
 case atStart=>exact ⟨0,Nat.zero_le _,by simp,rfl,Done.start _ _ _ _⟩
 case round=>
  obtain ⟨j,hj,rfl,rfl,hd⟩:=hrel
  have Hd:=Lib.hid hd
  by_cases hlt:j<n
  ·obtain ⟨⟨u,hu⟩,hf⟩:=hd.at hw hlt
   clear hd hw
   go_wp2_with fail
   go_roundw
   case rel=>exact ⟨j+1,by omega,by go_num,by go_num,Hd.out.step hu⟩
   case measure=>simp [intOf];omega
  ·obtain rfl:j=n:=by omega
   clear hd hw
   go_wp2_with fail
   go_ret
   exact ⟨rfl,Hd.out⟩
theorem markI_nil (w:World) (a:Option Addr) (cap:Nat) (k:Int):Calls Tryd.prog 40 #[.slice a 0 cap,.int .i64 k] w fun e w'=>e=.returned (.int .i64 k)∧w'=w:=by
 go_enter Tryd.func40,Tryd.ntmps40
 go_wp2_with fail
 go_loopw [1,5] (fun kk i wr=>kk=.int .i64 k∧i=.int .i64 0∧wr=w) (fun _ _ _=>0)
 case atStart=>exact ⟨rfl,rfl,rfl⟩
 case round=>
  obtain ⟨rfl,rfl,rfl⟩:=hrel
  go_wp2_with fail
  go_ret
  exact ⟨rfl,rfl⟩
theorem markI_some {w:World}{b o n cap:Nat}{k:Int} (hw:Wr w b o n) (h0:0≤k) (hk:k+n≤4611686018427387904) (hm:n≤maxLen) :
  Calls Tryd.prog 40 #[.slice (some ⟨b,o,none⟩) n cap,.int .i64 k] w fun e w'=>e=.returned (.int .i64 (k+n))∧Done (fun j=>.int .i64 (k+j)) b o w w' n:=by
 unfold maxLen at hm
 go_enter Tryd.func40,Tryd.ntmps40
 go_wp2_with fail
 go_loopw [1,5] (fun kk i wr=>∃ j:Nat,j≤n∧kk=.int .i64 (k+j)∧i=.int .i64 j∧Done (fun j=>.int .i64 (k+j)) b o w wr j) (fun _ i _=>n - (intOf i).toNat)
 case atStart=>exact ⟨0,Nat.zero_le _,by simp,rfl,Done.start _ _ _ _⟩
 case round=>
  obtain ⟨j,hj,rfl,rfl,hd⟩:=hrel
  have Hd:=Lib.hid hd
  by_cases hlt:j<n
  ·obtain ⟨⟨u,hu⟩,hf⟩:=hd.at hw hlt
   clear hd hw
   go_wp2_with fail
   go_roundw
   case rel=>exact ⟨j+1,by omega,by go_num,by go_num,Hd.out.step hu⟩
   case measure=>simp [intOf];omega
  ·obtain rfl:j=n:=by omega
   clear hd hw
   go_wp2_with fail
   go_ret
   exact ⟨rfl,Hd.out⟩

namespace Eng
open Go Go.RowKit
theorem row_open {C:CellR}{α:Type}{f:α→Value}{l:List α}{u:Value} (h:RepD C (.sl 1 (l.map fun x=>[.v (f x)])) u):∃ a cap,u=.slice a l.length cap∧l.length≤maxLen∧cap≤maxLen∧(l=[]∨∃ b o,a=some ⟨b,o,none⟩∧∀ j (hj:j<l.length),C b (o+j) (f l[j])):=by
 unfold RepD at h
 obtain ⟨a,cap,h1,h2,h3,h4⟩:=h
 simp only [List.length_map] at h1 h2
 refine ⟨a,cap,h1,by omega,h3,h4.imp (fun h=>by simpa using h) fun ⟨b,o,ha,he⟩=>⟨b,o,ha,fun j hj=>?_⟩⟩
 obtain ⟨_,hc⟩:=he.get j [.v (f l[j])] (by simp [hj])
 unfold RepCs at hc
 obtain ⟨⟨u,hu,hv⟩,_⟩:=hc
 rw [repD_v] at hv
 subst hv
 simpa using hu
theorem row_close {C:CellR}{α:Type}{f:α→Value}{l:List α}{b o cap:Nat} (hc:l.length≤cap) (hm:cap≤maxLen) (h:∀ j (hj:j<l.length),C b (o+j) (f l[j])):RepD C (.sl 1 (l.map fun x=>[.v (f x)])) (.slice (some ⟨b,o,none⟩) l.length cap):=by
 unfold RepD
 refine ⟨_,cap,by simp,by simpa using hc,hm,.inr ⟨b,o,rfl,?_⟩⟩
 refine RepEs.ofList (us:=l.map f) (fun e he=>by obtain ⟨x,_,rfl⟩:=List.mem_map.1 he;rfl) ?_ fun i u hu=>?_
 ·have:(l.map fun x=>[D.v (f x)]).flatten=(l.map f).map D.v:=by
   clear hc h
   induction l with
   | nil=>rfl
   | cons x l ih=>simp only [List.map_cons,List.flatten_cons,ih,List.cons_append,List.nil_append]
  rw [this]
  exact RepL_v _
 ·rw [List.getElem?_map,Option.map_eq_some_iff] at hu
  obtain ⟨x,hx,rfl⟩:=hu
  obtain ⟨hi,rfl⟩:=List.getElem?_eq_some_iff.1 hx
  exact h i hi
theorem wr_of {C:CellR}{w:World} (hm:MK C w) {b o n:Nat}{f:(j:Nat)→j<n→Value} (h:∀ j hj,C b (o+j) (f j hj)):Wr w b o n:=fun j hj=>by
 obtain ⟨v,h1,_,h3,_⟩:=hm _ _ _ (h j hj)
 exact ⟨⟨v,h1⟩,h3⟩
theorem mk_done {C:CellR}{w w':World} (hm:MK C w) {b o n:Nat}{g:Nat→Value}{f:(j:Nat)→j<n→Value} (h:∀ j hj,C b (o+j) (f j hj)) (hf:∀ j hj,isSc (f j hj)=true) (hg:∀ j,isSc (g j)=true) (hd:Done g b o w w' n):MK C w':=fun b' o' u hc=>by
 obtain ⟨v,h1,h2,h3,h4⟩:=hm _ _ _ hc
 by_cases e:b'=b∧o≤o'∧o'<o+n
 ·obtain ⟨rfl,e1,e2⟩:=e
  obtain ⟨j,rfl⟩:∃ j,o'=o+j:=⟨o' - o,by omega⟩
  have hj:j<n:=by omega
  obtain ⟨v0,g1,g2,g3,g4⟩:=hm _ _ _ (h j hj)
  rw [h1] at g1
  obtain rfl:=Option.some.inj g1
  have hv:isSc v=true:=by
   rcases g4 with rfl|g4
   ·exact hf j hj
   ·exact g4.2
  refine ⟨g j,hd.md j hj,isSc_one (hg j),(hd.frz _).trans h3,.inr ⟨?_,hg j⟩⟩
  rcases h4 with rfl|h4
  ·exact hv
  ·exact h4.1
 ·refine ⟨v,(hd.out _ fun e1 _=>?_).trans h1,h2,(hd.frz _).trans h3,h4⟩
  by_cases h5:o≤o'∧o'<o+n
  ·exact absurd ⟨e1,h5⟩ e
  ·show o'<o∨o+n≤o'
   omega
theorem belowX_zof {C:CellR}{w w':World}{b:Nat} (hz:Zof C b) (h:BelowX (·=b) w.heap.size w w'):BelowX (Zof C) w.heap.size w w':=⟨h.os,h.tape,h.output,h.size,fun k hk hx=>h.block k hk fun e=>hx (e▸hz)⟩
def mkB (k:Int) (n:Nat):List UInt8:=(List.range n).map fun j:Nat=>UInt8.ofNat (k+(j:Int)).toNat
def mkI (k:Int) (n:Nat):List Int:=(List.range n).map fun j:Nat=>k+(j:Int)
section
variable {k:Int}
theorem markB_ck {l:List UInt8} (h0:0≤k) (hk:k+l.length≤4611686018427387904):ACK Tryd.prog 39 (encB l) k (k+l.length):=fun C u hr=>by
 obtain ⟨a,cap,rfl,hm,_,h⟩:=row_open (f:=fun c:UInt8=>Value.int .u8 c.toNat) hr
 refine ⟨Tryd.call39,fun w Ce _ _ hmk=>?_⟩
 rcases Nat.eq_zero_or_pos l.length with hl|hl
 ·rw [hl]
  refine (markB_nil w a cap k).mono fun e w' ⟨h1,h2⟩=>?_
  subst h2
  exact ⟨by rw [h1];simp,BelowX.refl _ _ _,hmk⟩
 ·rcases h with rfl|⟨b,o,rfl,hc⟩
  ·simp at hl
  ·exact (markB_some (wr_of hmk hc) h0 hk hm).mono fun e w' ⟨h1,h2⟩=>⟨h1,belowX_zof ⟨_,_,hc 0 hl⟩ h2.fw,mk_done hmk hc (fun _ _=>rfl) (fun _=>rfl) h2⟩
theorem markI_ck {l:List Int} (h0:0≤k) (hk:k+l.length≤4611686018427387904):ACK Tryd.prog 40 (encI l) k (k+l.length):=fun C u hr=>by
 obtain ⟨a,cap,rfl,hm,_,h⟩:=row_open (f:=fun c:Int=>Value.int .i64 c) hr
 refine ⟨Tryd.call40,fun w Ce _ _ hmk=>?_⟩
 rcases Nat.eq_zero_or_pos l.length with hl|hl
 ·rw [hl]
  refine (markI_nil w a cap k).mono fun e w' ⟨h1,h2⟩=>?_
  subst h2
  exact ⟨by rw [h1];simp,BelowX.refl _ _ _,hmk⟩
 ·rcases h with rfl|⟨b,o,rfl,hc⟩
  ·simp at hl
  ·exact (markI_some (wr_of hmk hc) h0 hk hm).mono fun e w' ⟨h1,h2⟩=>⟨h1,belowX_zof ⟨_,_,hc 0 hl⟩ h2.fw,mk_done hmk hc (fun _ _=>rfl) (fun _=>rfl) h2⟩
end
end Eng
end Go.Proofs.YtaammoodcgfhpaaDoor
