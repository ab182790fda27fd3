/-
 Draws: bytes that are nearly a small file.

 Draws: DrawRepairReplace.
-/
import Derived.Test.YtndnefealooolaaGreatDoorKNR10
import Derived.Test.YtndnefealooolaaGreatDoorKNDC
set_option linter.unusedSimpArgs false
set_option linter.unusedVariables false
set_option linter.defProp false
set_option maxRecDepth 100000
set_option maxHeartbeats 4000000
namespace Go.Proofs.YtndnefealooolaaGreatDoor.Eng
open Go Go.RowKit

section
variable {B:List UInt8}
private def tyF:=ai (ai (ai tg22 (ai tg24 tg37)) (ai tg57 (ai tg65 tg26))) (ai (ai tg39 (ai tg97 tg3)) (ai (ai tg4 tg5) (ai tg59 tg9)))
theorem smallC_s (c:Cur) (hb:c.b.length≤1048576) (p:Nat→Prop):AC Tryz.prog 51 [.ptr 0 0] (some ((curP p c).map .d)) (fun r' b=>r'=.d (.tup [encD (smallC c).1.1,encB (smallC c).1.2])∧b=some ((curP p (smallC c).2).map .d)):=by
 have hwb:(smallC c).2.b=c.b:=smallC_b c
 have hgoal:AC Tryz.prog 51 [.ptr 0 0] (some ((Eng.D.iv p (encB c.b)::[iD c.i,iD c.h]).map .d)) (fun r' b=>r'=.d (.tup [encD (smallC c).1.1,encB (smallC c).1.2])∧b=some ((Eng.D.iv p (encB c.b)::[iD (smallC c).2.i,iD (smallC c).2.h]).map .d)):=by
  have hI:=descC_inv c
  have hl1:=hI.1.len
  have hdb:=descC_db8 c
  have hok:=descC_ok c
  have hd1:(descC c).2.b.length≤1048576:=by rw [descC_b];exact hb
  have hdv:=drawn_v c 3 (by decide)
  have hpl:=drawn_p c 3 (by decide)
  have hcv:(vMk (descC c).1 (descC c).1.length ((descC c).1.length - 1) 3 (descC c).2).2.b=c.b:=by rw [vMk_b,descC_b]
  have V:∀ q,AC Tryz.prog 55 [.ptr 0 0,.d (encD (descC c).1),.d (iD (((descC c).1.length - 1:Nat):Int)),.d (iD 3)] (some ((curP q (descC c).2).map .d)) (drwQ q (encV (vMk (descC c).1 (descC c).1.length ((descC c).1.length - 1) 3 (descC c).2).1) (vMk (descC c).1 (descC c).1.length ((descC c).1.length - 1) 3 (descC c).2).2):=fun q=>vMk_all hdb hok (descC c).1.length q ((descC c).1.length - 1) 3 (descC c).2 (by omega) (by omega) (by omega) (by omega) hd1
  have D1:∀ q,AC Tryz.prog 53 [.ptr 0 0] (some ((curP q c).map .d)) (drwQ q (encD (descC c).1) (descC c).2):=fun q=>descC_c c hb
  have P1:=(printS_all hdb (Nat.le_refl _) hok _ (v:=(vMk (descC c).1 (descC c).1.length ((descC c).1.length - 1) 3 (descC c).2).1) (Nat.le_refl _) hdv.vb ((descC c).1.length - 1) (by omega) hdv.ok (by have h5:=hdv.tot;have h6:=tV_le hI.2;unfold capV;omega)).ownd
  have e1':(((descC c).1.length - 1:Nat):Int)=((descC c).1.length:Int) - 1:=by omega
  have e1:IntKind.i64.wrap (((descC c).1.length:Int) - 1)=((descC c).1.length:Int) - 1:=wrap_small (by omega) (by omega)
  have hcv0:(vMk (descC c).1 (descC c).1.length ((descC c).1.length - 1) 3 (descC c).2).2.b.length≤1048576:=by rw [hcv];exact hb
  have hS:smallC c=midS (descC c).1 ((prV (descC c).1 (((descC c).1.length - 1:Nat):Int) (vMk (descC c).1 (descC c).1.length ((descC c).1.length - 1) 3 (descC c).2).1).take 9) (vMk (descC c).1 (descC c).1.length ((descC c).1.length - 1) 3 (descC c).2).2:=rfl
  generalize smallC c=sm at *
  generalize hd:descC c=dd at *
  obtain ⟨D,c1⟩:=dd
  simp only at *
  rw [e1'] at V P1 hS hpl
  generalize hv:vMk D D.length (D.length - 1) 3 c1=vv at *
  obtain ⟨v,c2⟩:=vv
  simp only at *
  generalize hbl:prV D ((D.length:Int) - 1) v=b at *
  have b1:=fun q:Nat→Prop=>bel_c (p:=q) c2 hcv0 999
  have hb1:(bel c2 999).2.b=c.b:=by rw [bel_b];exact hcv
  have g1:=bel_in c2 (n:=999) (by omega)
  have hm:midS D (b.take 9) c2=endS D (mutM (b.take 9) (bel c2 999).1 (bel (bel c2 999).2 3).1.toNat) (bel (bel c2 999).2 3).2:=rfl
  rw [hm] at hS
  clear hm
  generalize bel c2 999=r1 at *
  obtain ⟨s1,c3⟩:=r1
  simp only at hb1 g1 hS b1
  have b2:=fun q:Nat→Prop=>bel_c (p:=q) c3 (by rw [hb1];exact hb) 3
  have hb2:(bel c3 3).2.b=c.b:=by rw [bel_b];exact hb1
  have g2:=bel_in c3 (n:=3) (by omega)
  generalize bel c3 3=r2 at *
  obtain ⟨s2,c4⟩:=r2
  simp only at hb2 g2 hS b2
  obtain ⟨n,hn⟩:∃ n:Nat,s2=(n:Int):=⟨_,(Int.toNat_of_nonneg g2.1).symm⟩
  subst hn
  rw [Int.toNat_natCast] at hS
  have M1:=mutMS_c (b:=b.take 9) (by rw [List.length_take];omega) (s:=s1) (by omega) (cnt:=n) (by omega)
  have hml:=mutM_len (b:=b.take 9) (by rw [List.length_take];omega) s1 n
  generalize mutM (b.take 9) s1 n=x at *
  have b3:=fun q:Nat→Prop=>bel_c (p:=q) c4 (by rw [hb2];exact hb) 12
  have hb3:(bel c4 12).2.b=c.b:=by rw [bel_b];exact hb2
  have hz0:=endS_0 (D:=D) (b:=x) (c:=c4)
  have hz1:=endS_y (D:=D) (b:=x) (c:=c4)
  have hz2:=endS_no (D:=D) (b:=x) (c:=c4)
  generalize endS D x c4=ed at *
  subst hS
  generalize bel c4 12=r3 at *
  obtain ⟨s3,c5⟩:=r3
  simp only at hb3 hz0 hz1 hz2 b3
  have hr:(x.map fun c=>[uD c])++[[Eng.D.v (Value.int IntKind.u8 1)]]=(x++[1]).map fun c=>[uD c]:=by simp
  have hxl:x.length≤120:=hml
  by_cases h9:(9:Int)<b.length
  ·have d0:decide ((9:Int)<(b.length:Int))=true:=decide_eq_true (by omega)
   have ht:List.take (9 - 0) (b.map fun c=>[uD c])=(b.take 9).map fun c=>[uD c]:=by rw [List.map_take]
   refine calls_bodyC Tryz.func51 rfl Tryz.call51 Tryz.ntmps51 (by simp) (by simp [ArgsOk]) fun en q hsz hcok hX hks0 hks hq=>?_;refine enS ?_
   (repeat (first|refine ctlS ?_|(refine ol_go ?_ (fun K1 hK1=>?_);exact trS;refine evS ?_;(try simp only [e1,d0,List.length_map]);refine hK1 _ _ ?_;clear hK1 K1)|(refine ow_go ?_ dsS (fun K1 hK1=>?_);exact trS;refine evS ?_;(try simp only [e1,d0,List.length_map]);refine hK1 _ ?_;clear hK1 K1)|refine skipS ?_|(refine ow_make ?_ dsS rfl rfl ?_ te22 tr5 tz5 ?_;exact trS;omega;refine stS0 ?_)|refine vS 0 (D1 q) ?_|refine vS 0 (V q) ?_|refine cS (P1) ?_))
   (repeat (first|refine ctlS ?_|(refine ol_go ?_ (fun K1 hK1=>?_);exact trS;refine evS ?_;(try simp only [d0,ht]);refine hK1 _ _ ?_;clear hK1 K1)|(refine ow_go ?_ dsS (fun K1 hK1=>?_);exact trS;refine evS ?_;(try simp only [d0,ht]);refine hK1 _ ?_;clear hK1 K1)|refine skipS ?_|(refine ow_make ?_ dsS rfl rfl ?_ te22 tr5 tz5 ?_;exact trS;omega;refine stS0 ?_)|refine aw_condT rfl ?_|refine aw_condF rfl ?_))
   (first|refine vS 0 (b1 q) ?_)
   (iterate 1 (first|refine aw_seq ?_|refine aw_region ?_|refine aw_block ?_|(refine aw_exit ?_;(try simp (decide:=true) only [reduceIte]))|(refine aw_skip ?_;try dsimp only)|(refine aw_any (by kernel_rfl) (by kernel_rfl) (by simp only [hsz];kernel_rfl) ?_)|(refine ow_nil ?_;try dsimp only)|(refine ol_go ?_ (fun K1 hK1=>?_);exact trS;refine evS ?_;refine hK1 _ _ ?_;clear hK1 K1)|(refine ol_skip rfl rfl ?_ ?_;(focus (intro hne;cases hne;done));simp only [St.set])|(refine ol_nil ⟨by kernel_rfl,?_⟩;try dsimp only)|(refine ow_go ?_ dsS (fun K1 hK1=>?_);exact trS;refine evS ?_;refine hK1 _ ?_;clear hK1 K1)|(refine ow_skip rfl rfl ?_ dsS ?_;(focus (intro hne;cases hne;done));simp only [St.set])))
   (first|refine vS 0 (b2 q) ?_)
   (first|refine cS (M1) ?_)
   (repeat (first|refine walkS ?_|(refine ow_make ?_ dsS rfl rfl ?_ te22 tr5 tz5 ?_;exact trS;omega;refine stS0 ?_)|refine vS 0 (b3 q) ?_))
   refine aw_condS rfl (fun h1=>?_) (fun h1=>?_)
   ·(iterate 1 (first|refine aw_seq ?_|refine aw_region ?_|refine aw_block ?_|(refine aw_exit ?_;(try simp (decide:=true) only [reduceIte]))|(refine aw_skip ?_;try dsimp only)|(refine aw_any (by kernel_rfl) (by kernel_rfl) (by simp only [hsz];kernel_rfl) ?_)|(refine ow_nil ?_;try dsimp only)|(refine ol_go ?_ (fun K1 hK1=>?_);exact trS;refine evS ?_;refine hK1 _ _ ?_;clear hK1 K1)|(refine ol_skip rfl rfl ?_ ?_;(focus (intro hne;cases hne;done));simp only [St.set])|(refine ol_nil ⟨by kernel_rfl,?_⟩;try dsimp only)|(refine ow_go ?_ dsS (fun K1 hK1=>?_);exact trS;refine evS ?_;refine hK1 _ ?_;clear hK1 K1)|(refine ow_skip rfl rfl ?_ dsS ?_;(focus (intro hne;cases hne;done));simp only [St.set])))
    (refine ow_make ?_ dsS rfl rfl ?_ te22 tr5 tz5 ?_;exact trS;decide;refine stS0 ?_)
    refine ow_freezeA (encB (List.replicate 41 0)) 36 368 1 41 ((List.replicate 41 (0:UInt8)).map fun c=>[uD c]) rfl rfl (by rw [←zero_row];rfl) (by simp) (by simp) hks (by decide) ?_
    (repeat (first|refine walkS ?_|(refine ow_make ?_ dsS rfl rfl ?_ te22 tr5 tz5 ?_;exact trS;omega;refine stS0 ?_)))
    (refine rtS Tryz.results51 ?_;refine ⟨_,[],.inr (.inl ⟨.tup [.agg [encDs D],encB (List.replicate 41 0)],rfl,rfl,?_⟩),_,(curP q c5:List Eng.D).map .d,[],rfl,toZL_d _ (curP q c5),by simp,⟨by rw [hz0 h1];rfl,by rw [hz0 h1];simp only [hb3,curP];rfl⟩⟩;exact wkDS3)
   ·(repeat (first|refine walkS ?_|(refine ow_make ?_ dsS rfl rfl ?_ te22 tr5 tz5 ?_;exact trS;omega;refine stS0 ?_)))
    refine aw_condS rfl (fun h2=>?_) (fun h2=>?_)
    ·(repeat (first|refine walkS ?_|(refine ow_make ?_ dsS rfl rfl ?_ te22 tr5 tz5 ?_;exact trS;omega;refine stS0 ?_)))
     (try simp only [hr])
     (refine rtS Tryz.results51 ?_;refine ⟨_,[],.inr (.inl ⟨.tup [.agg [encDs D],encB (x++[1])],rfl,rfl,?_⟩),_,(curP q c5:List Eng.D).map .d,[],rfl,toZL_d _ (curP q c5),by simp,⟨by rw [hz1 h2];rfl,by rw [hz1 h2];simp only [hb3,curP];rfl⟩⟩;exact wkDS3)
    ·(repeat (first|refine walkS ?_|(refine ow_make ?_ dsS rfl rfl ?_ te22 tr5 tz5 ?_;exact trS;omega;refine stS0 ?_)))
     (refine rtS Tryz.results51 ?_;refine ⟨_,[],.inr (.inl ⟨.tup [.agg [encDs D],encB x],rfl,rfl,?_⟩),_,(curP q c5:List Eng.D).map .d,[],rfl,toZL_d _ (curP q c5),by simp,⟨by rw [hz2 h1 h2];rfl,by rw [hz2 h1 h2];simp only [hb3,curP];rfl⟩⟩;exact wkDS3)
  ·have d0:decide ((9:Int)<(b.length:Int))=false:=decide_eq_false (by omega)
   have ht:b.take 9=b:=List.take_of_length_le (by omega)
   rw [ht] at M1
   refine calls_bodyC Tryz.func51 rfl Tryz.call51 Tryz.ntmps51 (by simp) (by simp [ArgsOk]) fun en q hsz hcok hX hks0 hks hq=>?_;refine enS ?_
   (repeat (first|refine ctlS ?_|(refine ol_go ?_ (fun K1 hK1=>?_);exact trS;refine evS ?_;(try simp only [e1,d0,List.length_map]);refine hK1 _ _ ?_;clear hK1 K1)|(refine ow_go ?_ dsS (fun K1 hK1=>?_);exact trS;refine evS ?_;(try simp only [e1,d0,List.length_map]);refine hK1 _ ?_;clear hK1 K1)|refine skipS ?_|(refine ow_make ?_ dsS rfl rfl ?_ te22 tr5 tz5 ?_;exact trS;omega;refine stS0 ?_)|refine vS 0 (D1 q) ?_|refine vS 0 (V q) ?_|refine cS (P1) ?_))
   (repeat (first|refine ctlS ?_|(refine ol_go ?_ (fun K1 hK1=>?_);exact trS;refine evS ?_;(try simp only [d0]);refine hK1 _ _ ?_;clear hK1 K1)|(refine ow_go ?_ dsS (fun K1 hK1=>?_);exact trS;refine evS ?_;(try simp only [d0]);refine hK1 _ ?_;clear hK1 K1)|refine skipS ?_|(refine ow_make ?_ dsS rfl rfl ?_ te22 tr5 tz5 ?_;exact trS;omega;refine stS0 ?_)|refine aw_condT rfl ?_|refine aw_condF rfl ?_))
   (first|refine vS 0 (b1 q) ?_)
   (iterate 1 (first|refine aw_seq ?_|refine aw_region ?_|refine aw_block ?_|(refine aw_exit ?_;(try simp (decide:=true) only [reduceIte]))|(refine aw_skip ?_;try dsimp only)|(refine aw_any (by kernel_rfl) (by kernel_rfl) (by simp only [hsz];kernel_rfl) ?_)|(refine ow_nil ?_;try dsimp only)|(refine ol_go ?_ (fun K1 hK1=>?_);exact trS;refine evS ?_;refine hK1 _ _ ?_;clear hK1 K1)|(refine ol_skip rfl rfl ?_ ?_;(focus (intro hne;cases hne;done));simp only [St.set])|(refine ol_nil ⟨by kernel_rfl,?_⟩;try dsimp only)|(refine ow_go ?_ dsS (fun K1 hK1=>?_);exact trS;refine evS ?_;refine hK1 _ ?_;clear hK1 K1)|(refine ow_skip rfl rfl ?_ dsS ?_;(focus (intro hne;cases hne;done));simp only [St.set])))
   (first|refine vS 0 (b2 q) ?_)
   (first|refine cS (M1) ?_)
   (repeat (first|refine walkS ?_|(refine ow_make ?_ dsS rfl rfl ?_ te22 tr5 tz5 ?_;exact trS;omega;refine stS0 ?_)|refine vS 0 (b3 q) ?_))
   refine aw_condS rfl (fun h1=>?_) (fun h1=>?_)
   ·(iterate 1 (first|refine aw_seq ?_|refine aw_region ?_|refine aw_block ?_|(refine aw_exit ?_;(try simp (decide:=true) only [reduceIte]))|(refine aw_skip ?_;try dsimp only)|(refine aw_any (by kernel_rfl) (by kernel_rfl) (by simp only [hsz];kernel_rfl) ?_)|(refine ow_nil ?_;try dsimp only)|(refine ol_go ?_ (fun K1 hK1=>?_);exact trS;refine evS ?_;refine hK1 _ _ ?_;clear hK1 K1)|(refine ol_skip rfl rfl ?_ ?_;(focus (intro hne;cases hne;done));simp only [St.set])|(refine ol_nil ⟨by kernel_rfl,?_⟩;try dsimp only)|(refine ow_go ?_ dsS (fun K1 hK1=>?_);exact trS;refine evS ?_;refine hK1 _ ?_;clear hK1 K1)|(refine ow_skip rfl rfl ?_ dsS ?_;(focus (intro hne;cases hne;done));simp only [St.set])))
    (refine ow_make ?_ dsS rfl rfl ?_ te22 tr5 tz5 ?_;exact trS;decide;refine stS0 ?_)
    refine ow_freezeA (encB (List.replicate 41 0)) 36 368 1 41 ((List.replicate 41 (0:UInt8)).map fun c=>[uD c]) rfl rfl (by rw [←zero_row];rfl) (by simp) (by simp) hks (by decide) ?_
    (repeat (first|refine walkS ?_|(refine ow_make ?_ dsS rfl rfl ?_ te22 tr5 tz5 ?_;exact trS;omega;refine stS0 ?_)))
    (refine rtS Tryz.results51 ?_;refine ⟨_,[],.inr (.inl ⟨.tup [.agg [encDs D],encB (List.replicate 41 0)],rfl,rfl,?_⟩),_,(curP q c5:List Eng.D).map .d,[],rfl,toZL_d _ (curP q c5),by simp,⟨by rw [hz0 h1];rfl,by rw [hz0 h1];simp only [hb3,curP];rfl⟩⟩;exact wkDS3)
   ·(repeat (first|refine walkS ?_|(refine ow_make ?_ dsS rfl rfl ?_ te22 tr5 tz5 ?_;exact trS;omega;refine stS0 ?_)))
    refine aw_condS rfl (fun h2=>?_) (fun h2=>?_)
    ·(repeat (first|refine walkS ?_|(refine ow_make ?_ dsS rfl rfl ?_ te22 tr5 tz5 ?_;exact trS;omega;refine stS0 ?_)))
     (try simp only [hr])
     (refine rtS Tryz.results51 ?_;refine ⟨_,[],.inr (.inl ⟨.tup [.agg [encDs D],encB (x++[1])],rfl,rfl,?_⟩),_,(curP q c5:List Eng.D).map .d,[],rfl,toZL_d _ (curP q c5),by simp,⟨by rw [hz1 h2];rfl,by rw [hz1 h2];simp only [hb3,curP];rfl⟩⟩;exact wkDS3)
    ·(repeat (first|refine walkS ?_|(refine ow_make ?_ dsS rfl rfl ?_ te22 tr5 tz5 ?_;exact trS;omega;refine stS0 ?_)))
     (refine rtS Tryz.results51 ?_;refine ⟨_,[],.inr (.inl ⟨.tup [.agg [encDs D],encB x],rfl,rfl,?_⟩),_,(curP q c5:List Eng.D).map .d,[],rfl,toZL_d _ (curP q c5),by simp,⟨by rw [hz2 h1 h2];rfl,by rw [hz2 h1 h2];simp only [hb3,curP];rfl⟩⟩;exact wkDS3)
 exact hgoal.mono fun r' b ⟨e1,e2⟩=>⟨e1,by rw [e2];simp only [curP,hwb]⟩
end
end Go.Proofs.YtndnefealooolaaGreatDoor.Eng
namespace Go.Proofs.YtndnefealooolaaGreatDoor.Eng
open Go Go.RowKit

section
variable {B:List UInt8}
theorem oneD_c (hB:B.length≤1048576):AC Tryz.prog 31 [.d (encB B)] none (fun r' _=>r'=.d (.tup [encD (smallC (newC B)).1.1,encB (smallC (newC B)).1.2])):=by
 have n1:=newC_c hB
 have f1:=smallC_s (newC B) hB (fun _=>True)
 generalize smallC (newC B)=z at f1 ⊢
 obtain ⟨⟨D,b⟩,c'⟩:=z
 simp only at f1 ⊢
 refine cbS Tryz.func31 rfl Tryz.call31 Tryz.ntmps31 fun en hsz hks hk0=>?_;refine enS ?_
 (repeat (first|refine walkS ?_|refine vS 32 (f1) ?_|refine cS (n1) ?_))
 (refine rtS Tryz.results31 ?_;refine ⟨_,[],.inr (.inl ⟨.tup [encD D,encB b],rfl,rfl,?_⟩),List.nodup_nil,rfl⟩;exact wkDS2)
end
end Go.Proofs.YtndnefealooolaaGreatDoor.Eng
