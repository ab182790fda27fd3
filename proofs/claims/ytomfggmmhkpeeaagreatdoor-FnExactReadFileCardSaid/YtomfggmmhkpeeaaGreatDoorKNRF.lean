/-
 errors.As in the engine: at nil and at an error of reading.

 The program's reader: ReadValue, ReadFile, IsFileOf.

 The program: ReadFile, IsFileOf; the reference's IsFileOf.
-/
import Derived.Test.YtomfggmmhkpeeaaGreatDoorKNF
import Derived.Test.YtomfggmmhkpeeaaGreatDoorKAS
import Derived.Test.YtomfggmmhkpeeaaGreatDoorKN32
import Derived.Test.YtomfggmmhkpeeaaGreatDoorKN9
set_option linter.unusedSimpArgs false
set_option linter.unusedVariables false
set_option linter.defProp false
set_option maxRecDepth 100000
set_option maxHeartbeats 4000000
namespace Go.Proofs.YtomfggmmhkpeeaaGreatDoor.Eng
open Go Go.RowKit

theorem as_world {w:World}{β:Nat}{old v:Value}{ty:TypeId} (h:w.heap[β]?=some (.cells ⟨[old]⟩ ty (0,0))) (o1 o2 o3 o4:Obj) :
  (((((w.alloc o1).alloc o2).alloc o3).alloc o4).setCell ⟨β,0,none⟩ v).heap[β]?=some (.cells ⟨[v]⟩ ty (0,0))∧
  BelowX (·=β) w.heap.size w (((((w.alloc o1).alloc o2).alloc o3).alloc o4).setCell ⟨β,0,none⟩ v):=by
 have hb:β<w.heap.size:=heap_lt h
 have h4:∀ k,k<w.heap.size→((((w.alloc o1).alloc o2).alloc o3).alloc o4).heap[k]?=w.heap[k]?:=fun k hk=>by
  rw [Below.heap_alloc _ _ k (by simp;omega),Below.heap_alloc _ _ k (by simp;omega),Below.heap_alloc _ _ k (by simp;omega),Below.heap_alloc _ _ k hk]
 refine ⟨?_,⟨rfl,rfl,rfl,by simp [World.setCell];omega,fun k hk hx=>?_⟩⟩
 ·simp only [World.setCell,Array.getElem?_modify,if_true]
  rw [h4 β hb,h]
  simp
 ·simp only [World.setCell,Array.getElem?_modify]
  rw [if_neg (fun e=>hx e.symm),h4 k hk]

theorem as_nil_c:AC Tryz.prog 35 [.d (.v .nilIface),.ifc 66 (.ptr 0 0)] (some [.d (.v (.pointer none))]) fun r b=>r=.d (bD false)∧b=some [.d (.v (.pointer none))]:=by
 refine ⟨Tryz.call35,fun w C β F0 vs hC hr hbo hnd=>?_⟩
 unfold RepAL at hr
 obtain ⟨u,us,rfl,h1,hr⟩:=hr
 unfold RepAL at hr
 obtain ⟨u2,us2,rfl,h2,hr⟩:=hr
 unfold RepAL at hr
 subst hr
 unfold RepA RepD at h1
 subst h1
 refine (as_nil u2 w).mono fun e w' ⟨g1,g2⟩=>?_
 subst g1 g2
 exact ⟨_,.d (bD false),_,C,[],F0,rfl,⟨rfl,rfl⟩,rfl,fun _ _ _ h=>h,hC,BelowX.refl _ _ _,fun _ _ _ h=>.inl h,by unfold RepZ RepD;exact ⟨rfl,rfl⟩,hbo,by simpa using hnd,fun b hb=>.inr (by simp at hb;simp [XO,hb])⟩

theorem as_hit_c (q c:Int):AC Tryz.prog 35 [.d (erD q c),.ifc 66 (.ptr 0 0)] (some [.d (.v (.pointer none))]) fun r b=>r=.d (bD true)∧b=some [.d (.rp [iD q,iD c])]:=by
 refine ⟨Tryz.call35,fun w C β F0 vs hC hr hbo hnd=>?_⟩
 unfold RepAL at hr
 obtain ⟨u,us,rfl,h1,hr⟩:=hr
 unfold RepAL at hr
 obtain ⟨u2,us2,rfl,h2,hr⟩:=hr
 unfold RepAL at hr
 subst hr
 unfold RepA RepD at h1
 obtain ⟨y,rfl,h1⟩:=h1
 have h1':=h1
 unfold RepD at h1
 obtain ⟨eb,eo,rfl,_⟩:=h1
 unfold RepA RepA at h2
 obtain ⟨y2,rfl,b2,hb2,rfl⟩:=h2
 have hb2':β=b2:=by simpa [argG] using hb2
 subst hb2'
 obtain ⟨vs0,ty,k1,k2,k3,k4⟩:=hbo
 unfold RepZL at k2
 obtain ⟨v0,vs1,F1,F2,rfl,rfl,k5,k6⟩:=k2
 unfold RepZL at k6
 obtain ⟨rfl,rfl⟩:=k6
 unfold RepZ RepD at k5
 obtain ⟨rfl,rfl⟩:=k5
 have hc0:w.cell? ⟨β,0,none⟩=some (.pointer none):=by simp [World.cell?,k1]
 refine (as_hit ⟨eb,eo,none⟩ ⟨β,0,none⟩ (.pointer none) w (hC.cell _ _ _ hC.gl.e).1 hc0 (frz_of_cells k1)).mono fun e w' ⟨g1,g2⟩=>?_
 subst g1
 obtain ⟨q1,q2⟩:=as_world k1 (v:=.pointer (some ⟨eb,eo,none⟩)) (.cells #[.pointer (some ⟨β,0,none⟩)] 66) (.cells #[.pointer (some ⟨asG,66,none⟩),.pointer (some ⟨w.heap.size,0,none⟩),.int .u64 150] 112) (.cells #[.pointer (some ⟨asG,66,none⟩),.pointer (some ⟨w.heap.size,0,none⟩),.int .u64 150] 112) (.cells #[.pointer (some ⟨eb,eo,none⟩)] 64)
 rw [←g2] at q1 q2
 have hne:∀ b o u,C b o u→b≠β:=fun b o u hc e=>k4 o u (e▸hc)
 have hsame:∀ b o u,C b o u→w'.heap[b]?=w.heap[b]?:=fun b o u hc=>q2.block b (cell_lt (hC.cell b o u hc).1) (hne b o u hc)
 refine ⟨_,.d (bD true),some [.d (.rp [iD q,iD c])],C,[],[],rfl,⟨rfl,rfl⟩,rfl,fun _ _ _ h=>h,⟨fun b o u hc=>?_,fun b o u hc hb=>?_,hC.gl,hC.tb.keep hC.gl fun b _ _ _ h1 h0 hc=>(hc 0 h0).elim fun u hu=>hsame b 0 u hu⟩,⟨q2.os,q2.tape,q2.output,q2.size,fun k hk hx=>q2.block k hk (fun e=>hx (by simp [XO,e]))⟩,fun _ _ _ h=>.inl h,by unfold RepZ RepD;exact ⟨rfl,rfl⟩,?_,by simp [XO],fun b hb=>by simp at hb⟩
 ·have:=hC.cell b o u hc
  exact ⟨(World.cell?_of_block (w:=w) (a:=⟨b,o,none⟩) (hsame b o u hc)).trans this.1,this.2⟩
 ·rw [frz_of_block (hsame b o u hc)]
  exact hC.nf b o u hc hb
 ·refine ⟨_,ty,q1,?_,fun x hx=>by rw [List.mem_singleton] at hx;subst hx;rfl,k4⟩
  unfold RepZL
  refine ⟨_,[],[],[],rfl,rfl,?_,by unfold RepZL;exact ⟨rfl,rfl⟩⟩
  unfold RepZ
  exact ⟨rfl,h1'⟩
theorem as_nil_m:AC Tryz.prog 35 [.d nilE,.ifc 66 (.ptr 0 0)] (some (([.v (.pointer none)]:List D).map .d)) fun r b=>r=.d (bD false)∧b=some (([.v (.pointer none)]:List D).map .d):=as_nil_c
theorem as_hit_m (q c:Int):AC Tryz.prog 35 [.d (erD q c),.ifc 66 (.ptr 0 0)] (some (([.v (.pointer none)]:List D).map .d)) fun r b=>r=.d (bD true)∧b=some (([.rp [iD q,iD c]]:List D).map .d):=as_hit_c q c
end Go.Proofs.YtomfggmmhkpeeaaGreatDoor.Eng
namespace Go.Proofs.YtomfggmmhkpeeaaGreatDoor.Eng
open Go Go.RowKit

theorem mkItems_err {n:Int}{x:List V × Nat × Nat} (h:(mkItems n x).2.2≠0):(mkItems n x).1=V0:=by
 unfold mkItems at h ⊢
 split
 ·rename_i h0
  rw [if_pos h0] at h
  exact absurd rfl h
 ·rfl
theorem rd_err (D:List RuleD) (b:List UInt8):∀ (f rule p:Nat),(rd D b f rule p).2.2≠0→(rd D b f rule p).1=V0
 | 0,rule,p,_=>rfl
 | f+1,rule,p,h=>by
  have ITE:∀ (c:Prop) [Decidable c] (x y:V × Nat × Nat),(x.2.2≠0→x.1=V0)→(y.2.2≠0→y.1=V0)→(if c then x else y).2.2≠0→(if c then x else y).1=V0:=fun c _ x y hx hy=>by
   by_cases h:c
   ·rw [if_pos h];exact hx
   ·rw [if_neg h];exact hy
  have BA:∀ q n,(bytesAt b q n).2.2≠0→(bytesAt b q n).1=V0:=fun q n h=>by
   unfold bytesAt at h ⊢
   split
   ·rfl
   ·rename_i h0;rw [if_neg h0] at h;exact absurd rfl h
  revert h
  rw [rd]
  dsimp only
  generalize ruleD D rule=r
  refine ITE _ _ _ ?_ (ITE _ _ _ (fun _=>rfl) (ITE _ _ _ (BA _ _) (ITE _ _ _ ?_ (ITE _ _ _ mkItems_err (ITE _ _ _ ?_ (ITE _ _ _ ?_ (ITE _ _ _ ?_ ?_)))))))
  ·split
   ·exact fun h=>absurd rfl h
   ·exact fun _=>rfl
  ·split
   ·exact fun h=>absurd rfl h
   ·exact fun _=>rfl
  ·split
   ·exact fun _=>rfl
   ·split
    ·exact fun _=>rfl
    ·exact mkItems_err
  ·split
   ·exact fun _=>rfl
   ·exact ITE _ _ _ (fun _=>rfl) mkItems_err
  ·have h1:=mkItems_err (n:=0) (x:=rdItems (rd D b f) [(kid0 r).toNat] p)
   generalize mkItems 0 (rdItems (rd D b f) [(kid0 r).toNat] p)=x at *
   obtain ⟨v,q,c⟩:=x
   dsimp only
   refine ITE _ _ _ ?_ h1
   split
   ·exact fun _=>rfl
   ·exact ITE _ _ _ (fun h=>absurd rfl h) (fun _=>rfl)
  ·split
   ·exact fun _=>rfl
   ·exact ITE _ _ _ (BA _ _) (ITE _ _ _ (fun _=>rfl) mkItems_err)

section
variable {M:Nat}{D:List RuleD}{b:List UInt8}
private def tyF:=ai (ai (ai (ai tg25 tg27) (ai tg32 tg86)) (ai (ai tg87 tg29) (ai tg34 (ai tg59 tg68)))) (ai (ai (ai tg89 tg20) (ai tg3 (ai tg4 tg5))) (ai (ai tg57 tg61) (ai tg64 (ai tg66 tg9))))
end
end Go.Proofs.YtomfggmmhkpeeaaGreatDoor.Eng
namespace Go.Proofs.YtomfggmmhkpeeaaGreatDoor.Eng
open Go Go.RowKit

section
variable {M:Nat}{D:List RuleD}{b:List UInt8}
noncomputable def fileP (D:List RuleD) (b:List UInt8):Bool:=(((readF D b).2.2:Int)==0)


end
end Go.Proofs.YtomfggmmhkpeeaaGreatDoor.Eng
