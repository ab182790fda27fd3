/-
 Draws: a bent text.
-/
import Derived.Test.YtndnefealooolaaGreatDoorKNDB
import Derived.Test.YtndnefealooolaaGreatDoorKPDX
set_option linter.unusedSimpArgs false
set_option linter.unusedVariables false
set_option linter.defProp false
set_option maxRecDepth 100000
set_option maxHeartbeats 4000000
namespace Go.Proofs.YtndnefealooolaaGreatDoor.Eng
open Go Go.RowKit

section
variable {c:Cur}{b:List UInt8}
theorem bent_0 (h:(bel c 6).1=0) (h0:0<b.length):bentC c b=(b.set (bel (bel c 6).2 b.length).1.toNat (UInt8.ofNat (bel (bel (bel c 6).2 b.length).2 256).1.toNat),(bel (bel (bel c 6).2 b.length).2 256).2):=by
 unfold bentC;simp only [h,if_pos h0,if_true]
theorem bent_1 (h:(bel c 6).1=1):bentC c b=(b.take (bel (bel c 6).2 ((b.length:Int)+1)).1.toNat,(bel (bel c 6).2 ((b.length:Int)+1)).2):=by
 unfold bentC;simp only;rw [if_neg (by omega),if_pos h]
theorem bent_2 (h:(bel c 6).1=2):bentC c b=(b++[UInt8.ofNat (pickI (bel c 6).2 [0,1,128,255]).1.toNat],(pickI (bel c 6).2 [0,1,128,255]).2):=by
 unfold bentC;simp only;rw [if_neg (by omega),if_neg (by omega),if_pos h]
theorem bent_no (h:(bel c 6).1≠0∧(bel c 6).1≠1∧(bel c 6).1≠2):bentC c b=(b,(bel c 6).2):=by
 unfold bentC;simp only;rw [if_neg h.1,if_neg h.2.1,if_neg h.2.2]
end
section
variable {p:Nat→Prop}
private def tyF:=ai (ai tg22 tg57) (ai tg3 (ai tg5 tg59))
theorem bentO_c (c:Cur) (hb:c.b.length≤1048576) {b:List UInt8} (hl:b.length≤1048576) (h0:0<b.length):AC Tryz.prog 57 [.ptr 0 0,.d (encB b)] (some ((curP p c).map .d)) (drwO p (bentC c b).1 (bentC c b).2):=by
 have hwb:(bentC c b).2.b=c.b:=bentC_b c b
 have hgoal:AC Tryz.prog 57 [.ptr 0 0,.d (encB b)] (some ((Eng.D.iv p (encB c.b)::[iD c.i,iD c.h]).map .d)) (fun r' b'=>r'=.own 5 1 (rowB (bentC c b).1)∧b'=some ((Eng.D.iv p (encB c.b)::[iD (bentC c b).2.i,iD (bentC c b).2.h]).map .d)):=by
  refine calls_bodyC Tryz.func57 rfl Tryz.call57 Tryz.ntmps57 (by simp) (by simp [ArgsOk]) fun en q hsz hcok hX hks0 hks hq=>?_;refine enS ?_
  have w1:=bel_c (p:=q) c hb 6
  have hb1:(bel c 6).2.b.length≤1048576:=by rw [bel_b];exact hb
  (repeat (first|refine walkS ?_|refine vS 0 (w1) ?_))
  refine aw_condS rfl (fun h1=>?_) (fun h1=>?_)
  ·have w2:=bel_c (p:=q) (bel c 6).2 hb1 b.length
   have w3:=bel_c (p:=q) (bel (bel c 6).2 b.length).2 (by rw [bel_b];exact hb1) 256
   have g2:=bel_in (bel c 6).2 (n:=b.length) (by omega)
   have g3:=bel_in (bel (bel c 6).2 b.length).2 (n:=256) (by omega)
   have q3:=u8_draw (n:=(bel (bel (bel c 6).2 b.length).2 256).1) (by omega)
   obtain ⟨n,hn⟩:∃ n:Nat,(bel (bel c 6).2 b.length).1=(n:Int):=⟨_,(Int.toNat_of_nonneg g2.1).symm⟩
   have hB:=bent_0 (c:=c) h1 h0
   rw [hn,Int.toNat_natCast] at hB
   refine walkS ?_
   refine aw_condS rfl (fun hc=>?_) (fun hc=>?_)
   ·(iterate 5 (first|refine aw_seq ?_|refine aw_region ?_|refine aw_block ?_|(refine aw_exit ?_;(try simp (decide:=true) only [reduceIte]))|(refine aw_skip ?_;try dsimp only)|(refine aw_any (by kernel_rfl) (by kernel_rfl) (by simp only [hsz];kernel_rfl) ?_)|(refine ow_nil ?_;try dsimp only)|(refine ol_go ?_ (fun K1 hK1=>?_);exact trS;refine evS ?_;refine hK1 _ _ ?_;clear hK1 K1)|(refine ol_skip rfl rfl ?_ ?_;(focus (intro hne;cases hne;done));simp only [St.set])|(refine ol_nil ⟨by kernel_rfl,?_⟩;try dsimp only)|(refine ow_go ?_ dsS (fun K1 hK1=>?_);exact trS;refine evS ?_;refine hK1 _ ?_;clear hK1 K1)|(refine ow_skip rfl rfl ?_ dsS ?_;(focus (intro hne;cases hne;done));simp only [St.set])))
    (first|refine vS 0 (w2) ?_)
    (try simp only [hn])
    (iterate 1 (first|refine aw_seq ?_|refine aw_region ?_|refine aw_block ?_|(refine aw_exit ?_;(try simp (decide:=true) only [reduceIte]))|(refine aw_skip ?_;try dsimp only)|(refine aw_any (by kernel_rfl) (by kernel_rfl) (by simp only [hsz];kernel_rfl) ?_)|(refine ow_nil ?_;try dsimp only)|(refine ol_go ?_ (fun K1 hK1=>?_);exact trS;refine evS ?_;refine hK1 _ _ ?_;clear hK1 K1)|(refine ol_skip rfl rfl ?_ ?_;(focus (intro hne;cases hne;done));simp only [St.set])|(refine ol_nil ⟨by kernel_rfl,?_⟩;try dsimp only)|(refine ow_go ?_ dsS (fun K1 hK1=>?_);exact trS;refine evS ?_;refine hK1 _ ?_;clear hK1 K1)|(refine ow_skip rfl rfl ?_ dsS ?_;(focus (intro hne;cases hne;done));simp only [St.set])))
    (first|refine vS 0 (w3) ?_)
    (iterate 1 (first|refine aw_seq ?_|refine aw_region ?_|refine aw_block ?_|(refine aw_exit ?_;(try simp (decide:=true) only [reduceIte]))|(refine aw_skip ?_;try dsimp only)|(refine aw_any (by kernel_rfl) (by kernel_rfl) (by simp only [hsz];kernel_rfl) ?_)|(refine ow_nil ?_;try dsimp only)|(refine ol_go ?_ (fun K1 hK1=>?_);exact trS;refine evS ?_;refine hK1 _ _ ?_;clear hK1 K1)|(refine ol_skip rfl rfl ?_ ?_;(focus (intro hne;cases hne;done));simp only [St.set])|(refine ol_nil ⟨by kernel_rfl,?_⟩;try dsimp only)|(refine ow_go ?_ dsS (fun K1 hK1=>?_);exact trS;refine evS ?_;refine hK1 _ ?_;clear hK1 K1)|(refine ow_skip rfl rfl ?_ dsS ?_;(focus (intro hne;cases hne;done));simp only [St.set])))
    refine ow_iaddrO (k:=48) (n:=n) (es:=rowB b) ?_ dsS rfl te22 tk5 rfl rfl (by rw [rowB_len];omega) ?_
    ·exact trivial
    simp only [St.set,Nat.mul_one]
    refine ow_storeO (t0:=5) (j:=n) (B:=b) (c:=UInt8.ofNat (bel (bel (bel c 6).2 b.length).2 256).1.toNat) [] [5] [(0,some _)] ?_ rfl rfl rfl (congrArg (fun n=>A.d (.v (.int .u8 n))) q3) tk5 ?_ rfl (by omega) (by decide) ⟨hcok,hX,hks0,rfl⟩ trivial (fun t ht=>by simp at ht;subst ht;rfl) ⟨⟨_,_,rfl,rfl,UpL.keep (Safe.iv (fun b h1 h2=>by have:=hq b h1;omega)) (UpL.keep Safe.v (UpL.keep Safe.v UpL.nil))⟩,trivial⟩ ?_
    ·exact trivial
    ·simp [lk]
    simp (decide:=true) only [St.keepO,St.f,lk,St.set,reduceIte,List.map_cons,List.map_nil,List.cons_append,List.nil_append,List.length_set]
    refine walkS ?_
    (refine rtS Tryz.results57 ?_;exact ⟨_,_,.inl (toZ_own (by simp [lk,St.mem])),_,(curP q (bel (bel (bel c 6).2 b.length).2 256).2:List Eng.D).map .d,[],rfl,toZL_d _ (curP q (bel (bel (bel c 6).2 b.length).2 256).2),by simp,⟨by rw [hB],by rw [hB];simp only [curP,bel_b];rfl⟩⟩)
   ·(first|exact absurd trivial hc|exact absurd rfl hc|(cases hc;done)|omega|exact absurd hc (by decide)|(simp at hc;done))
  ·refine walkS ?_
   refine aw_condS rfl (fun h2=>?_) (fun h2=>?_)
   ·have w2:=bel_c (p:=q) (bel c 6).2 hb1 ((b.length:Int)+1)
    have g2:=bel_in (bel c 6).2 (n:=(b.length:Int)+1) (by omega)
    have e1:IntKind.i64.wrap ((b.length:Int)+1)=(b.length:Int)+1:=wrap_small (by omega) (by omega)
    obtain ⟨n,hn⟩:∃ n:Nat,(bel (bel c 6).2 ((b.length:Int)+1)).1=(n:Int):=⟨_,(Int.toNat_of_nonneg g2.1).symm⟩
    have hB:=bent_1 (c:=c) (b:=b) h2
    rw [hn,Int.toNat_natCast] at hB
    (iterate 6 (first|refine aw_seq ?_|refine aw_region ?_|refine aw_block ?_|(refine aw_exit ?_;(try simp (decide:=true) only [reduceIte]))|(refine aw_skip ?_;try dsimp only)|(refine aw_any (by kernel_rfl) (by kernel_rfl) (by simp only [hsz];kernel_rfl) ?_)|(refine ow_nil ?_;try dsimp only)|(refine ol_go ?_ (fun K1 hK1=>?_);exact trS;refine evS ?_;refine hK1 _ _ ?_;clear hK1 K1)|(refine ol_skip rfl rfl ?_ ?_;(focus (intro hne;cases hne;done));simp only [St.set])|(refine ol_nil ⟨by kernel_rfl,?_⟩;try dsimp only)|(refine ow_go ?_ dsS (fun K1 hK1=>?_);exact trS;refine evS ?_;refine hK1 _ ?_;clear hK1 K1)|(refine ow_skip rfl rfl ?_ dsS ?_;(focus (intro hne;cases hne;done));simp only [St.set])))
    (try simp only [e1])
    (first|refine vS 0 (w2) ?_)
    (try simp only [hn])
    refine ow_sliceO (k:=n) (κ:=48) (t0:=5) (B:=b) [] [(0,some [.d (.iv q (encB (bel (bel c 6).2 ((b.length:Int)+1)).2.b)),.d (iD (bel (bel c 6).2 ((b.length:Int)+1)).2.i),.d (iD (bel (bel c 6).2 ((b.length:Int)+1)).2.h)])] ?_ rfl ?_ rfl rfl rfl te22 tk5 ?_ h0 (by omega) (by decide) ?_ trivial ?_ ?_
    rotate_left 3
    ·exact ⟨hcok,hX,hks0,rfl⟩
    ·exact ⟨⟨_,_,rfl,rfl,UpL.keep (Safe.iv (fun b h1 h2=>by have:=hq b h1;omega)) (UpL.keep Safe.v (UpL.keep Safe.v UpL.nil))⟩,trivial⟩
    rotate_left 1
    ·exact trivial
    ·rw [hsz];decide
    ·simp [lk]
    simp (decide:=true) only [St.keepO,St.f,lk,St.set,reduceIte,List.map_cons,List.map_nil,List.cons_append,List.nil_append]
    refine walkS ?_
    (refine rtS Tryz.results57 ?_;exact ⟨_,_,.inl (toZ_own (by simp [lk,St.mem,rowB];omega)),_,(curP q (bel (bel c 6).2 ((b.length:Int)+1)).2:List Eng.D).map .d,[],rfl,toZL_d _ (curP q (bel (bel c 6).2 ((b.length:Int)+1)).2),by simp,⟨by rw [hB],by rw [hB];simp only [curP,bel_b];rfl⟩⟩)
   ·refine walkS ?_
    refine aw_condS rfl (fun h3=>?_) (fun h3=>?_)
    ·have w2:=pickI_c (p:=q) (bel c 6).2 hb1 (l:=[0,1,128,255]) (by decide) (by decide)
     have g2:=pickI_mem (bel c 6).2 (l:=[0,1,128,255]) (by decide)
     have q3:=u8_draw (n:=(pickI (bel c 6).2 [0,1,128,255]).1) (by simp only [List.mem_cons,List.not_mem_nil,or_false] at g2;omega)
     have hB:=bent_2 (c:=c) (b:=b) h3
     (repeat (first|refine ctlS ?_|(refine ol_go ?_ (fun K1 hK1=>?_);exact trS;refine evS ?_;(try simp only [q3]);refine hK1 _ _ ?_;clear hK1 K1)|(refine ow_go ?_ dsS (fun K1 hK1=>?_);exact trS;refine evS ?_;(try simp only [q3]);refine hK1 _ ?_;clear hK1 K1)|refine skipS ?_|refine vS 0 (w2) ?_))
     (refine rtS Tryz.results57 ?_;exact ⟨_,_,.inl (toZ_own (by simp [lk,St.mem])),_,(curP q (pickI (bel c 6).2 [0,1,128,255]).2:List Eng.D).map .d,[],rfl,toZL_d _ (curP q (pickI (bel c 6).2 [0,1,128,255]).2),by simp,⟨by rw [hB];simp [rowB],by rw [hB];simp only [curP,pickI_b,bel_b];rfl⟩⟩)
    ·have hB:=bent_no (c:=c) (b:=b) ⟨h1,h2,h3⟩
     refine walkS ?_
     (refine rtS Tryz.results57 ?_;exact ⟨_,_,.inl (toZ_own (by simp [lk,St.mem])),_,(curP q (bel c 6).2:List Eng.D).map .d,[],rfl,toZL_d _ (curP q (bel c 6).2),by simp,⟨by rw [hB],by rw [hB];simp only [curP,bel_b];rfl⟩⟩)
 exact hgoal.mono fun r' b ⟨e1,e2⟩=>⟨e1,by rw [e2];simp only [curP,hwb]⟩
end
end Go.Proofs.YtndnefealooolaaGreatDoor.Eng
