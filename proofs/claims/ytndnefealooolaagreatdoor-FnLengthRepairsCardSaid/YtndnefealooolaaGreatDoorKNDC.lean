/-
 Draws: a description and nearly always a file of it.

 Draws: DrawFile.
-/
import Derived.Test.YtndnefealooolaaGreatDoorKNDB
import Derived.Test.YtndnefealooolaaGreatDoorKNB1
import Derived.Test.YtndnefealooolaaGreatDoorKNV
set_option linter.unusedSimpArgs false
set_option linter.unusedVariables false
set_option linter.defProp false
set_option maxRecDepth 100000
set_option maxHeartbeats 4000000
namespace Go.Proofs.YtndnefealooolaaGreatDoor.Eng
open Go Go.RowKit

section
variable {B:List UInt8}
theorem descC_db8 (c:Cur):DB 1048576 (descC c).1:=DInv.db (descC_inv c).1 (by have:=(descC_inv c).2;omega)
def endC (D:List RuleD) (p:List UInt8 × Cur):(List RuleD × List UInt8) × Cur:=
 let s:=bel p.2 24
 if s.1=0 then ((D,List.replicate (400+(bel s.2 2).1).toNat 0),(bel s.2 2).2)
 else if s.1=1 then ((D,(bysC (bel s.2 8).1.toNat (bel s.2 8).2).1),(bysC (bel s.2 8).1.toNat (bel s.2 8).2).2)
 else if s.1=2 then ((D,p.1++[92]),s.2)
 else ((D,p.1),s.2)
def midC (b:List UInt8) (c:Cur):List UInt8 × Cur:=if 0<b.length then (if (once c 3).1=true then bentC (once c 3).2 b else (b,(once c 3).2)) else (b,c)
theorem fileC_eq (c:Cur):fileC c=endC (descC c).1 (midC (prV (descC c).1 (((descC c).1.length - 1:Nat):Int) (vMk (descC c).1 (descC c).1.length ((descC c).1.length - 1) 8 (descC c).2).1) (vMk (descC c).1 (descC c).1.length ((descC c).1.length - 1) 8 (descC c).2).2):=rfl
theorem end_0 {D:List RuleD}{l:List UInt8}{c:Cur} (h:(bel c 24).1=0):endC D (l,c)=((D,List.replicate (400+(bel (bel c 24).2 2).1).toNat 0),(bel (bel c 24).2 2).2):=by unfold endC;simp only [h,if_true]
theorem end_1 {D:List RuleD}{l:List UInt8}{c:Cur} (h:(bel c 24).1=1):endC D (l,c)=((D,(bysC (bel (bel c 24).2 8).1.toNat (bel (bel c 24).2 8).2).1),(bysC (bel (bel c 24).2 8).1.toNat (bel (bel c 24).2 8).2).2):=by unfold endC;simp only;rw [if_neg (by omega),if_pos h]
theorem end_2 {D:List RuleD}{l:List UInt8}{c:Cur} (h:(bel c 24).1=2):endC D (l,c)=((D,l++[92]),(bel c 24).2):=by unfold endC;simp only;rw [if_neg (by omega),if_neg (by omega),if_pos h]
theorem end_no {D:List RuleD}{l:List UInt8}{c:Cur} (h:(bel c 24).1≠0∧(bel c 24).1≠1∧(bel c 24).1≠2):endC D (l,c)=((D,l),(bel c 24).2):=by unfold endC;simp only;rw [if_neg h.1,if_neg h.2.1,if_neg h.2.2]
theorem endC_b (D:List RuleD) (p:List UInt8 × Cur):(endC D p).2.b=p.2.b:=by
 unfold endC
 simp only
 split
 ·simp only [bel_b]
 split
 ·simp only [bysC_b,bel_b]
 split<;>simp only [bel_b]
theorem midC_b (b:List UInt8) (c:Cur):(midC b c).2.b=c.b:=by
 unfold midC
 split
 ·split
  ·rw [bentC_b];unfold once;rw [bel_b]
  ·unfold once;simp only [bel_b]
 ·rfl
theorem fileC_b (c:Cur):(fileC c).2.b=c.b:=by
 rw [fileC_eq,endC_b,midC_b,vMk_b,descC_b]
private def tyF:=ai (ai (ai tg22 (ai tg24 tg37)) (ai tg57 (ai tg65 tg26))) (ai (ai tg39 (ai tg97 tg3)) (ai (ai tg4 tg5) (ai tg59 tg9)))
theorem fileC_s (c:Cur) (hb:c.b.length≤1048576) (p:Nat→Prop):AC Tryz.prog 36 [.ptr 0 0] (some ((curP p c).map .d)) (fun r' b=>r'=.d (.tup [encD (fileC c).1.1,encB (fileC c).1.2])∧b=some ((curP p (fileC c).2).map .d)):=by
 have hwb:(fileC c).2.b=c.b:=fileC_b c
 have hgoal:AC Tryz.prog 36 [.ptr 0 0] (some ((Eng.D.iv p (encB c.b)::[iD c.i,iD c.h]).map .d)) (fun r' b=>r'=.d (.tup [encD (fileC c).1.1,encB (fileC c).1.2])∧b=some ((Eng.D.iv p (encB c.b)::[iD (fileC c).2.i,iD (fileC c).2.h]).map .d)):=by
  have hI:=descC_inv c
  have hl1:=hI.1.len
  have hdb:=descC_db8 c
  have hok:=descC_ok c
  have hd1:(descC c).2.b.length≤1048576:=by rw [descC_b];exact hb
  have hdv:=drawn_v c 8 (by decide)
  have hpl:=drawn_p c 8 (by decide)
  have hF:=fileC_eq c
  have hcv:(vMk (descC c).1 (descC c).1.length ((descC c).1.length - 1) 8 (descC c).2).2.b=c.b:=by rw [vMk_b,descC_b]
  have V:∀ q,AC Tryz.prog 55 [.ptr 0 0,.d (encD (descC c).1),.d (iD (((descC c).1.length - 1:Nat):Int)),.d (iD 8)] (some ((curP q (descC c).2).map .d)) (drwQ q (encV (vMk (descC c).1 (descC c).1.length ((descC c).1.length - 1) 8 (descC c).2).1) (vMk (descC c).1 (descC c).1.length ((descC c).1.length - 1) 8 (descC c).2).2):=fun q=>vMk_all hdb hok (descC c).1.length q ((descC c).1.length - 1) 8 (descC c).2 (by omega) (by omega) (by omega) (by omega) hd1
  have D1:∀ q,AC Tryz.prog 53 [.ptr 0 0] (some ((curP q c).map .d)) (drwQ q (encD (descC c).1) (descC c).2):=fun q=>descC_c c hb
  have P1:=printS_all hdb (Nat.le_refl _) hok _ (v:=(vMk (descC c).1 (descC c).1.length ((descC c).1.length - 1) 8 (descC c).2).1) (Nat.le_refl _) hdv.vb ((descC c).1.length - 1) (by omega) hdv.ok (by have h5:=hdv.tot;have h6:=tV_le hI.2;unfold capV;omega)
  have e1':(((descC c).1.length - 1:Nat):Int)=((descC c).1.length:Int) - 1:=by omega
  have e1:IntKind.i64.wrap (((descC c).1.length:Int) - 1)=((descC c).1.length:Int) - 1:=wrap_small (by omega) (by omega)
  have hcv0:(vMk (descC c).1 (descC c).1.length ((descC c).1.length - 1) 8 (descC c).2).2.b.length≤1048576:=by rw [hcv];exact hb
  generalize hd:descC c=dd at *
  obtain ⟨D,c1⟩:=dd
  simp only at *
  rw [e1'] at V P1 hF hpl
  generalize hv:vMk D D.length (D.length - 1) 8 c1=vv at *
  obtain ⟨v,c2⟩:=vv
  simp only at *
  generalize hbl:prV D ((D.length:Int) - 1) v=b at *
  by_cases h0:0<b.length
  ·have d0:decide ((0:Int)<(b.length:Int))=true:=decide_eq_true (by omega)
   have ob:(once c2 3).2.b=c.b:=by unfold once;simp only [bel_b];exact hcv
   cases ho:(once c2 3).1 with
   | true=>
    have hm:midC b c2=bentC (once c2 3).2 b:=by unfold midC;rw [if_pos h0,if_pos ho]
    have hcb0:(bentC (once c2 3).2 b).2.b=c.b:=by rw [bentC_b];exact ob
    have B1:∀ q,AC Tryz.prog 57 [.ptr 0 0,.d (encB b)] (some ((curP q (once c2 3).2).map .d)) (drwO q (bentC (once c2 3).2 b).1 (bentC (once c2 3).2 b).2):=fun q=>bentO_c (p:=q) (once c2 3).2 (by rw [ob];exact hb) (b:=b) (by omega) h0
    have hbl2:=bentC_len (once c2 3).2 b
    rw [hm] at hF
    generalize bentC (once c2 3).2 b=bb at *
    obtain ⟨b2,c3⟩:=bb
    simp only at hcb0 hF hbl2 B1
    refine calls_bodyC Tryz.func36 rfl Tryz.call36 Tryz.ntmps36 (by simp) (by simp [ArgsOk]) fun en q hsz hcok hX hks0 hks hq=>?_;refine enS ?_
    have O1:=once_c (p:=q) c2 hcv0 3
    rw [ho] at O1
    (repeat (first|refine ctlS ?_|(refine ol_go ?_ (fun K1 hK1=>?_);exact trS;refine evS ?_;(try simp only [e1,d0,List.length_map]);refine hK1 _ _ ?_;clear hK1 K1)|(refine ow_go ?_ dsS (fun K1 hK1=>?_);exact trS;refine evS ?_;(try simp only [e1,d0,List.length_map]);refine hK1 _ ?_;clear hK1 K1)|refine skipS ?_|(refine ow_make ?_ dsS rfl rfl ?_ te22 tr5 tz5 ?_;exact trS;omega;refine stS0 ?_)|refine vS 0 (D1 q) ?_|refine vS 0 (V q) ?_|refine cS (P1) ?_))
    (repeat (first|refine ctlS ?_|(refine ol_go ?_ (fun K1 hK1=>?_);exact trS;refine evS ?_;(try simp only [d0,List.length_map]);refine hK1 _ _ ?_;clear hK1 K1)|(refine ow_go ?_ dsS (fun K1 hK1=>?_);exact trS;refine evS ?_;(try simp only [d0,List.length_map]);refine hK1 _ ?_;clear hK1 K1)|refine skipS ?_|(refine ow_make ?_ dsS rfl rfl ?_ te22 tr5 tz5 ?_;exact trS;omega;refine stS0 ?_)|refine vS 0 (O1) ?_))
    refine aw_condS rfl (fun hc=>?_) (fun hc=>?_)
    ·(iterate 3 (first|refine aw_seq ?_|refine aw_region ?_|refine aw_block ?_|(refine aw_exit ?_;(try simp (decide:=true) only [reduceIte]))|(refine aw_skip ?_;try dsimp only)|(refine aw_any (by kernel_rfl) (by kernel_rfl) (by simp only [hsz];kernel_rfl) ?_)|(refine ow_nil ?_;try dsimp only)|(refine ol_go ?_ (fun K1 hK1=>?_);exact trS;refine evS ?_;refine hK1 _ _ ?_;clear hK1 K1)|(refine ol_skip rfl rfl ?_ ?_;(focus (intro hne;cases hne;done));simp only [St.set])|(refine ol_nil ⟨by kernel_rfl,?_⟩;try dsimp only)|(refine ow_go ?_ dsS (fun K1 hK1=>?_);exact trS;refine evS ?_;refine hK1 _ ?_;clear hK1 K1)|(refine ow_skip rfl rfl ?_ dsS ?_;(focus (intro hne;cases hne;done));simp only [St.set])))
     (refine ow_call1o (k:=0) ?_ dsS rfl (B1 q) rfl rfl ?_;exact trS;simp only [St.set,List.map_cons,List.map_nil,List.length_map,Nat.reduceAdd])
     have hcb:c3.b.length≤1048576:=by rw [hcb0];exact hb
     have k1:=bel_c (p:=q) c3 hcb 24
     have hcb1:(bel c3 24).2.b.length≤1048576:=by rw [bel_b];exact hcb
     have k2:=bel_c (p:=q) (bel c3 24).2 hcb1 2
     have k3:=bel_c (p:=q) (bel c3 24).2 hcb1 8
     have g2:=bel_in (bel c3 24).2 (n:=2) (by omega)
     have g8:=bel_in (bel c3 24).2 (n:=8) (by omega)
     obtain ⟨n2,hn2⟩:∃ n:Nat,(bel (bel c3 24).2 2).1=(n:Int):=⟨_,(Int.toNat_of_nonneg g2.1).symm⟩
     obtain ⟨n8,hn8⟩:∃ n:Nat,(bel (bel c3 24).2 8).1=(n:Int):=⟨_,(Int.toNat_of_nonneg g8.1).symm⟩
     obtain ⟨m,hm400⟩:∃ m:Nat,m=400+n2:=⟨_,rfl⟩
     have hn3:IntKind.i64.wrap (400+(n2:Int))=(m:Int):=by rw [wrap_small (by omega) (by omega)];omega
     have hn5:(400:Int)+(n2:Int)=(m:Int):=by omega
     have hn4:(400+(n2:Int)).toNat=m:=by omega
     have hr92:rowB b2++[[Eng.D.v (Value.int IntKind.u8 92)]]=(b2++[92]).map fun c=>[uD c]:=by simp [rowB]
     have k4:=bysC_o (p:=q) (bel (bel c3 24).2 8).2 (by rw [bel_b];exact hcb1) (n:=n8) (by omega)
     (repeat (first|refine walkS ?_|(refine ow_make ?_ dsS rfl rfl ?_ te22 tr5 tz5 ?_;exact trS;omega;refine stS0 ?_)|refine vS 0 (k1) ?_))
     refine aw_condS rfl (fun h1=>?_) (fun h1=>?_)
     ·(iterate 2 (first|refine aw_seq ?_|refine aw_region ?_|refine aw_block ?_|(refine aw_exit ?_;(try simp (decide:=true) only [reduceIte]))|(refine aw_skip ?_;try dsimp only)|(refine aw_any (by kernel_rfl) (by kernel_rfl) (by simp only [hsz];kernel_rfl) ?_)|(refine ow_nil ?_;try dsimp only)|(refine ol_go ?_ (fun K1 hK1=>?_);exact trS;refine evS ?_;refine hK1 _ _ ?_;clear hK1 K1)|(refine ol_skip rfl rfl ?_ ?_;(focus (intro hne;cases hne;done));simp only [St.set])|(refine ol_nil ⟨by kernel_rfl,?_⟩;try dsimp only)|(refine ow_go ?_ dsS (fun K1 hK1=>?_);exact trS;refine evS ?_;refine hK1 _ ?_;clear hK1 K1)|(refine ow_skip rfl rfl ?_ dsS ?_;(focus (intro hne;cases hne;done));simp only [St.set])))
      (first|refine vS 0 (k2) ?_)
      (try simp only [hn2])
      (iterate 1 (first|refine aw_seq ?_|refine aw_region ?_|refine aw_block ?_|(refine aw_exit ?_;(try simp (decide:=true) only [reduceIte]))|(refine aw_skip ?_;try dsimp only)|(refine aw_any (by kernel_rfl) (by kernel_rfl) (by simp only [hsz];kernel_rfl) ?_)|(refine ow_nil ?_;try dsimp only)|(refine ol_go ?_ (fun K1 hK1=>?_);exact trS;refine evS ?_;refine hK1 _ _ ?_;clear hK1 K1)|(refine ol_skip rfl rfl ?_ ?_;(focus (intro hne;cases hne;done));simp only [St.set])|(refine ol_nil ⟨by kernel_rfl,?_⟩;try dsimp only)|(refine ow_go ?_ dsS (fun K1 hK1=>?_);exact trS;refine evS ?_;refine hK1 _ ?_;clear hK1 K1)|(refine ow_skip rfl rfl ?_ dsS ?_;(focus (intro hne;cases hne;done));simp only [St.set])))
      (try simp only [hn3])
      (try simp only [hn5])
      (first|(refine ow_make ?_ dsS rfl rfl ?_ te22 tr5 tz5 ?_;exact trS;omega;refine stS0 ?_))
      refine ow_freezeA (encB (List.replicate m 0)) 38 368 1 m ((List.replicate m (0:UInt8)).map fun c=>[uD c]) rfl rfl (by rw [←zero_row];rfl) (by simp) (by simp) hks (by decide) ?_
      (repeat (first|refine walkS ?_|(refine ow_make ?_ dsS rfl rfl ?_ te22 tr5 tz5 ?_;exact trS;omega;refine stS0 ?_)))
      (refine rtS Tryz.results36 ?_;refine ⟨_,[],.inr (.inl ⟨.tup [.agg [encDs D],encB (List.replicate m 0)],rfl,rfl,?_⟩),_,(curP q (bel (bel c3 24).2 2).2:List Eng.D).map .d,[],rfl,toZL_d _ (curP q (bel (bel c3 24).2 2).2),by simp,⟨by rw [hF,end_0 h1,hn2,hn4];rfl,by rw [hF,end_0 h1];simp only [hcb0,curP,bel_b];rfl⟩⟩;exact wkDS3)
     ·(repeat (first|refine walkS ?_|(refine ow_make ?_ dsS rfl rfl ?_ te22 tr5 tz5 ?_;exact trS;omega;refine stS0 ?_)))
      refine aw_condS rfl (fun h2=>?_) (fun h2=>?_)
      ·(repeat (first|refine walkS ?_|(refine ow_make ?_ dsS rfl rfl ?_ te22 tr5 tz5 ?_;exact trS;omega;refine stS0 ?_)|refine vS 0 (k3) ?_))
       (try simp only [hn8])
       (refine ow_call1o (k:=0) ?_ dsS rfl (k4) rfl rfl ?_;exact trS;simp only [St.set,List.map_cons,List.map_nil,List.length_map,Nat.reduceAdd])
       (repeat (first|refine walkS ?_|(refine ow_make ?_ dsS rfl rfl ?_ te22 tr5 tz5 ?_;exact trS;omega;refine stS0 ?_)))
       (refine rtS Tryz.results36 ?_;refine ⟨_,[],.inr (.inl ⟨.tup [.agg [encDs D],encB (bysC n8 (bel (bel c3 24).2 8).2).1],rfl,rfl,?_⟩),_,(curP q (bysC n8 (bel (bel c3 24).2 8).2).2:List Eng.D).map .d,[],rfl,toZL_d _ (curP q (bysC n8 (bel (bel c3 24).2 8).2).2),by simp,⟨by rw [hF,end_1 h2,hn8,Int.toNat_natCast];rfl,by rw [hF,end_1 h2,hn8,Int.toNat_natCast];simp only [hcb0,curP,bysC_b,bel_b];rfl⟩⟩;exact wkDS3)
      ·(repeat (first|refine walkS ?_|(refine ow_make ?_ dsS rfl rfl ?_ te22 tr5 tz5 ?_;exact trS;omega;refine stS0 ?_)))
       refine aw_condS rfl (fun h3=>?_) (fun h3=>?_)
       ·(repeat (first|refine walkS ?_|(refine ow_make ?_ dsS rfl rfl ?_ te22 tr5 tz5 ?_;exact trS;omega;refine stS0 ?_)))
        (try simp only [hr92])
        (refine rtS Tryz.results36 ?_;refine ⟨_,[],.inr (.inl ⟨.tup [.agg [encDs D],encB (b2++[92])],rfl,rfl,?_⟩),_,(curP q (bel c3 24).2:List Eng.D).map .d,[],rfl,toZL_d _ (curP q (bel c3 24).2),by simp,⟨by rw [hF,end_2 h3];rfl,by rw [hF,end_2 h3];simp only [hcb0,curP,bel_b];rfl⟩⟩;exact wkDS3)
       ·(repeat (first|refine walkS ?_|(refine ow_make ?_ dsS rfl rfl ?_ te22 tr5 tz5 ?_;exact trS;omega;refine stS0 ?_)))
        (refine rtS Tryz.results36 ?_;refine ⟨_,[],.inr (.inl ⟨.tup [.agg [encDs D],encB b2],rfl,rfl,?_⟩),_,(curP q (bel c3 24).2:List Eng.D).map .d,[],rfl,toZL_d _ (curP q (bel c3 24).2),by simp,⟨by rw [hF,end_no ⟨h1,h2,h3⟩];rfl,by rw [hF,end_no ⟨h1,h2,h3⟩];simp only [hcb0,curP,bel_b];rfl⟩⟩;exact wkDS3)
    ·(first|exact absurd trivial hc|exact absurd rfl hc|(cases hc;done)|omega|exact absurd hc (by decide)|(simp at hc;done))
   | false=>
    have hm:midC b c2=(b,(once c2 3).2):=by unfold midC;rw [if_pos h0,if_neg (by rw [ho];decide)]
    rw [hm] at hF
    have hcb0:(once c2 3).2.b=c.b:=ob
    refine calls_bodyC Tryz.func36 rfl Tryz.call36 Tryz.ntmps36 (by simp) (by simp [ArgsOk]) fun en q hsz hcok hX hks0 hks hq=>?_;refine enS ?_
    have O1:=once_c (p:=q) c2 hcv0 3
    rw [ho] at O1
    (repeat (first|refine ctlS ?_|(refine ol_go ?_ (fun K1 hK1=>?_);exact trS;refine evS ?_;(try simp only [e1,d0,List.length_map]);refine hK1 _ _ ?_;clear hK1 K1)|(refine ow_go ?_ dsS (fun K1 hK1=>?_);exact trS;refine evS ?_;(try simp only [e1,d0,List.length_map]);refine hK1 _ ?_;clear hK1 K1)|refine skipS ?_|(refine ow_make ?_ dsS rfl rfl ?_ te22 tr5 tz5 ?_;exact trS;omega;refine stS0 ?_)|refine vS 0 (D1 q) ?_|refine vS 0 (V q) ?_|refine cS (P1) ?_))
    (repeat (first|refine ctlS ?_|(refine ol_go ?_ (fun K1 hK1=>?_);exact trS;refine evS ?_;(try simp only [d0,List.length_map]);refine hK1 _ _ ?_;clear hK1 K1)|(refine ow_go ?_ dsS (fun K1 hK1=>?_);exact trS;refine evS ?_;(try simp only [d0,List.length_map]);refine hK1 _ ?_;clear hK1 K1)|refine skipS ?_|(refine ow_make ?_ dsS rfl rfl ?_ te22 tr5 tz5 ?_;exact trS;omega;refine stS0 ?_)|refine vS 0 (O1) ?_))
    refine aw_condS rfl (fun hc=>?_) (fun hc=>?_)
    ·(first|exact absurd trivial hc|exact absurd rfl hc|(cases hc;done)|omega|exact absurd hc (by decide)|(simp at hc;done))
    ·generalize (once c2 3).2=c3 at *
     have hcb:c3.b.length≤1048576:=by rw [hcb0];exact hb
     have k1:=bel_c (p:=q) c3 hcb 24
     have hcb1:(bel c3 24).2.b.length≤1048576:=by rw [bel_b];exact hcb
     have k2:=bel_c (p:=q) (bel c3 24).2 hcb1 2
     have k3:=bel_c (p:=q) (bel c3 24).2 hcb1 8
     have g2:=bel_in (bel c3 24).2 (n:=2) (by omega)
     have g8:=bel_in (bel c3 24).2 (n:=8) (by omega)
     obtain ⟨n2,hn2⟩:∃ n:Nat,(bel (bel c3 24).2 2).1=(n:Int):=⟨_,(Int.toNat_of_nonneg g2.1).symm⟩
     obtain ⟨n8,hn8⟩:∃ n:Nat,(bel (bel c3 24).2 8).1=(n:Int):=⟨_,(Int.toNat_of_nonneg g8.1).symm⟩
     obtain ⟨m,hm400⟩:∃ m:Nat,m=400+n2:=⟨_,rfl⟩
     have hn3:IntKind.i64.wrap (400+(n2:Int))=(m:Int):=by rw [wrap_small (by omega) (by omega)];omega
     have hn5:(400:Int)+(n2:Int)=(m:Int):=by omega
     have hn4:(400+(n2:Int)).toNat=m:=by omega
     have hr92:rowB b++[[Eng.D.v (Value.int IntKind.u8 92)]]=(b++[92]).map fun c=>[uD c]:=by simp [rowB]
     have k4:=bysC_o (p:=q) (bel (bel c3 24).2 8).2 (by rw [bel_b];exact hcb1) (n:=n8) (by omega)
     (repeat (first|refine walkS ?_|(refine ow_make ?_ dsS rfl rfl ?_ te22 tr5 tz5 ?_;exact trS;omega;refine stS0 ?_)|refine vS 0 (k1) ?_))
     refine aw_condS rfl (fun h1=>?_) (fun h1=>?_)
     ·(iterate 2 (first|refine aw_seq ?_|refine aw_region ?_|refine aw_block ?_|(refine aw_exit ?_;(try simp (decide:=true) only [reduceIte]))|(refine aw_skip ?_;try dsimp only)|(refine aw_any (by kernel_rfl) (by kernel_rfl) (by simp only [hsz];kernel_rfl) ?_)|(refine ow_nil ?_;try dsimp only)|(refine ol_go ?_ (fun K1 hK1=>?_);exact trS;refine evS ?_;refine hK1 _ _ ?_;clear hK1 K1)|(refine ol_skip rfl rfl ?_ ?_;(focus (intro hne;cases hne;done));simp only [St.set])|(refine ol_nil ⟨by kernel_rfl,?_⟩;try dsimp only)|(refine ow_go ?_ dsS (fun K1 hK1=>?_);exact trS;refine evS ?_;refine hK1 _ ?_;clear hK1 K1)|(refine ow_skip rfl rfl ?_ dsS ?_;(focus (intro hne;cases hne;done));simp only [St.set])))
      (first|refine vS 0 (k2) ?_)
      (try simp only [hn2])
      (iterate 1 (first|refine aw_seq ?_|refine aw_region ?_|refine aw_block ?_|(refine aw_exit ?_;(try simp (decide:=true) only [reduceIte]))|(refine aw_skip ?_;try dsimp only)|(refine aw_any (by kernel_rfl) (by kernel_rfl) (by simp only [hsz];kernel_rfl) ?_)|(refine ow_nil ?_;try dsimp only)|(refine ol_go ?_ (fun K1 hK1=>?_);exact trS;refine evS ?_;refine hK1 _ _ ?_;clear hK1 K1)|(refine ol_skip rfl rfl ?_ ?_;(focus (intro hne;cases hne;done));simp only [St.set])|(refine ol_nil ⟨by kernel_rfl,?_⟩;try dsimp only)|(refine ow_go ?_ dsS (fun K1 hK1=>?_);exact trS;refine evS ?_;refine hK1 _ ?_;clear hK1 K1)|(refine ow_skip rfl rfl ?_ dsS ?_;(focus (intro hne;cases hne;done));simp only [St.set])))
      (try simp only [hn3])
      (try simp only [hn5])
      (first|(refine ow_make ?_ dsS rfl rfl ?_ te22 tr5 tz5 ?_;exact trS;omega;refine stS0 ?_))
      refine ow_freezeA (encB (List.replicate m 0)) 38 352 1 m ((List.replicate m (0:UInt8)).map fun c=>[uD c]) rfl rfl (by rw [←zero_row];rfl) (by simp) (by simp) hks (by decide) ?_
      (repeat (first|refine walkS ?_|(refine ow_make ?_ dsS rfl rfl ?_ te22 tr5 tz5 ?_;exact trS;omega;refine stS0 ?_)))
      (refine rtS Tryz.results36 ?_;refine ⟨_,[],.inr (.inl ⟨.tup [.agg [encDs D],encB (List.replicate m 0)],rfl,rfl,?_⟩),_,(curP q (bel (bel c3 24).2 2).2:List Eng.D).map .d,[],rfl,toZL_d _ (curP q (bel (bel c3 24).2 2).2),by simp,⟨by rw [hF,end_0 h1,hn2,hn4];rfl,by rw [hF,end_0 h1];simp only [hcb0,curP,bel_b];rfl⟩⟩;exact wkDS3)
     ·(repeat (first|refine walkS ?_|(refine ow_make ?_ dsS rfl rfl ?_ te22 tr5 tz5 ?_;exact trS;omega;refine stS0 ?_)))
      refine aw_condS rfl (fun h2=>?_) (fun h2=>?_)
      ·(repeat (first|refine walkS ?_|(refine ow_make ?_ dsS rfl rfl ?_ te22 tr5 tz5 ?_;exact trS;omega;refine stS0 ?_)|refine vS 0 (k3) ?_))
       (try simp only [hn8])
       (refine ow_call1o (k:=0) ?_ dsS rfl (k4) rfl rfl ?_;exact trS;simp only [St.set,List.map_cons,List.map_nil,List.length_map,Nat.reduceAdd])
       (repeat (first|refine walkS ?_|(refine ow_make ?_ dsS rfl rfl ?_ te22 tr5 tz5 ?_;exact trS;omega;refine stS0 ?_)))
       (refine rtS Tryz.results36 ?_;refine ⟨_,[],.inr (.inl ⟨.tup [.agg [encDs D],encB (bysC n8 (bel (bel c3 24).2 8).2).1],rfl,rfl,?_⟩),_,(curP q (bysC n8 (bel (bel c3 24).2 8).2).2:List Eng.D).map .d,[],rfl,toZL_d _ (curP q (bysC n8 (bel (bel c3 24).2 8).2).2),by simp,⟨by rw [hF,end_1 h2,hn8,Int.toNat_natCast];rfl,by rw [hF,end_1 h2,hn8,Int.toNat_natCast];simp only [hcb0,curP,bysC_b,bel_b];rfl⟩⟩;exact wkDS3)
      ·(repeat (first|refine walkS ?_|(refine ow_make ?_ dsS rfl rfl ?_ te22 tr5 tz5 ?_;exact trS;omega;refine stS0 ?_)))
       refine aw_condS rfl (fun h3=>?_) (fun h3=>?_)
       ·(repeat (first|refine walkS ?_|(refine ow_make ?_ dsS rfl rfl ?_ te22 tr5 tz5 ?_;exact trS;omega;refine stS0 ?_)))
        (try simp only [hr92])
        (refine rtS Tryz.results36 ?_;refine ⟨_,[],.inr (.inl ⟨.tup [.agg [encDs D],encB (b++[92])],rfl,rfl,?_⟩),_,(curP q (bel c3 24).2:List Eng.D).map .d,[],rfl,toZL_d _ (curP q (bel c3 24).2),by simp,⟨by rw [hF,end_2 h3];rfl,by rw [hF,end_2 h3];simp only [hcb0,curP,bel_b];rfl⟩⟩;exact wkDS3)
       ·(repeat (first|refine walkS ?_|(refine ow_make ?_ dsS rfl rfl ?_ te22 tr5 tz5 ?_;exact trS;omega;refine stS0 ?_)))
        (refine rtS Tryz.results36 ?_;refine ⟨_,[],.inr (.inl ⟨.tup [.agg [encDs D],encB b],rfl,rfl,?_⟩),_,(curP q (bel c3 24).2:List Eng.D).map .d,[],rfl,toZL_d _ (curP q (bel c3 24).2),by simp,⟨by rw [hF,end_no ⟨h1,h2,h3⟩];rfl,by rw [hF,end_no ⟨h1,h2,h3⟩];simp only [hcb0,curP,bel_b];rfl⟩⟩;exact wkDS3)
  ·have d0:decide ((0:Int)<(b.length:Int))=false:=decide_eq_false (by omega)
   have hm:midC b c2=(b,c2):=by unfold midC;rw [if_neg h0]
   rw [hm] at hF
   have hcb0:c2.b=c.b:=hcv
   refine calls_bodyC Tryz.func36 rfl Tryz.call36 Tryz.ntmps36 (by simp) (by simp [ArgsOk]) fun en q hsz hcok hX hks0 hks hq=>?_;refine enS ?_
   (repeat (first|refine ctlS ?_|(refine ol_go ?_ (fun K1 hK1=>?_);exact trS;refine evS ?_;(try simp only [e1,d0,List.length_map]);refine hK1 _ _ ?_;clear hK1 K1)|(refine ow_go ?_ dsS (fun K1 hK1=>?_);exact trS;refine evS ?_;(try simp only [e1,d0,List.length_map]);refine hK1 _ ?_;clear hK1 K1)|refine skipS ?_|(refine ow_make ?_ dsS rfl rfl ?_ te22 tr5 tz5 ?_;exact trS;omega;refine stS0 ?_)|refine vS 0 (D1 q) ?_|refine vS 0 (V q) ?_|refine cS (P1) ?_))
   (repeat (first|refine ctlS ?_|(refine ol_go ?_ (fun K1 hK1=>?_);exact trS;refine evS ?_;(try simp only [d0,List.length_map]);refine hK1 _ _ ?_;clear hK1 K1)|(refine ow_go ?_ dsS (fun K1 hK1=>?_);exact trS;refine evS ?_;(try simp only [d0,List.length_map]);refine hK1 _ ?_;clear hK1 K1)|refine skipS ?_|(refine ow_make ?_ dsS rfl rfl ?_ te22 tr5 tz5 ?_;exact trS;omega;refine stS0 ?_)))
   refine aw_condS rfl (fun hc=>?_) (fun hc=>?_)
   ·(first|exact absurd trivial hc|exact absurd rfl hc|(cases hc;done)|omega|exact absurd hc (by decide)|(simp at hc;done))
   ·skip
    have hcb:c2.b.length≤1048576:=by rw [hcb0];exact hb
    have k1:=bel_c (p:=q) c2 hcb 24
    have hcb1:(bel c2 24).2.b.length≤1048576:=by rw [bel_b];exact hcb
    have k2:=bel_c (p:=q) (bel c2 24).2 hcb1 2
    have k3:=bel_c (p:=q) (bel c2 24).2 hcb1 8
    have g2:=bel_in (bel c2 24).2 (n:=2) (by omega)
    have g8:=bel_in (bel c2 24).2 (n:=8) (by omega)
    obtain ⟨n2,hn2⟩:∃ n:Nat,(bel (bel c2 24).2 2).1=(n:Int):=⟨_,(Int.toNat_of_nonneg g2.1).symm⟩
    obtain ⟨n8,hn8⟩:∃ n:Nat,(bel (bel c2 24).2 8).1=(n:Int):=⟨_,(Int.toNat_of_nonneg g8.1).symm⟩
    obtain ⟨m,hm400⟩:∃ m:Nat,m=400+n2:=⟨_,rfl⟩
    have hn3:IntKind.i64.wrap (400+(n2:Int))=(m:Int):=by rw [wrap_small (by omega) (by omega)];omega
    have hn5:(400:Int)+(n2:Int)=(m:Int):=by omega
    have hn4:(400+(n2:Int)).toNat=m:=by omega
    have hr92:rowB b++[[Eng.D.v (Value.int IntKind.u8 92)]]=(b++[92]).map fun c=>[uD c]:=by simp [rowB]
    have k4:=bysC_o (p:=q) (bel (bel c2 24).2 8).2 (by rw [bel_b];exact hcb1) (n:=n8) (by omega)
    (repeat (first|refine walkS ?_|(refine ow_make ?_ dsS rfl rfl ?_ te22 tr5 tz5 ?_;exact trS;omega;refine stS0 ?_)|refine vS 0 (k1) ?_))
    refine aw_condS rfl (fun h1=>?_) (fun h1=>?_)
    ·(iterate 2 (first|refine aw_seq ?_|refine aw_region ?_|refine aw_block ?_|(refine aw_exit ?_;(try simp (decide:=true) only [reduceIte]))|(refine aw_skip ?_;try dsimp only)|(refine aw_any (by kernel_rfl) (by kernel_rfl) (by simp only [hsz];kernel_rfl) ?_)|(refine ow_nil ?_;try dsimp only)|(refine ol_go ?_ (fun K1 hK1=>?_);exact trS;refine evS ?_;refine hK1 _ _ ?_;clear hK1 K1)|(refine ol_skip rfl rfl ?_ ?_;(focus (intro hne;cases hne;done));simp only [St.set])|(refine ol_nil ⟨by kernel_rfl,?_⟩;try dsimp only)|(refine ow_go ?_ dsS (fun K1 hK1=>?_);exact trS;refine evS ?_;refine hK1 _ ?_;clear hK1 K1)|(refine ow_skip rfl rfl ?_ dsS ?_;(focus (intro hne;cases hne;done));simp only [St.set])))
     (first|refine vS 0 (k2) ?_)
     (try simp only [hn2])
     (iterate 1 (first|refine aw_seq ?_|refine aw_region ?_|refine aw_block ?_|(refine aw_exit ?_;(try simp (decide:=true) only [reduceIte]))|(refine aw_skip ?_;try dsimp only)|(refine aw_any (by kernel_rfl) (by kernel_rfl) (by simp only [hsz];kernel_rfl) ?_)|(refine ow_nil ?_;try dsimp only)|(refine ol_go ?_ (fun K1 hK1=>?_);exact trS;refine evS ?_;refine hK1 _ _ ?_;clear hK1 K1)|(refine ol_skip rfl rfl ?_ ?_;(focus (intro hne;cases hne;done));simp only [St.set])|(refine ol_nil ⟨by kernel_rfl,?_⟩;try dsimp only)|(refine ow_go ?_ dsS (fun K1 hK1=>?_);exact trS;refine evS ?_;refine hK1 _ ?_;clear hK1 K1)|(refine ow_skip rfl rfl ?_ dsS ?_;(focus (intro hne;cases hne;done));simp only [St.set])))
     (try simp only [hn3])
     (try simp only [hn5])
     (first|(refine ow_make ?_ dsS rfl rfl ?_ te22 tr5 tz5 ?_;exact trS;omega;refine stS0 ?_))
     refine ow_freezeA (encB (List.replicate m 0)) 38 336 1 m ((List.replicate m (0:UInt8)).map fun c=>[uD c]) rfl rfl (by rw [←zero_row];rfl) (by simp) (by simp) hks (by decide) ?_
     (repeat (first|refine walkS ?_|(refine ow_make ?_ dsS rfl rfl ?_ te22 tr5 tz5 ?_;exact trS;omega;refine stS0 ?_)))
     (refine rtS Tryz.results36 ?_;refine ⟨_,[],.inr (.inl ⟨.tup [.agg [encDs D],encB (List.replicate m 0)],rfl,rfl,?_⟩),_,(curP q (bel (bel c2 24).2 2).2:List Eng.D).map .d,[],rfl,toZL_d _ (curP q (bel (bel c2 24).2 2).2),by simp,⟨by rw [hF,end_0 h1,hn2,hn4];rfl,by rw [hF,end_0 h1];simp only [hcb0,curP,bel_b];rfl⟩⟩;exact wkDS3)
    ·(repeat (first|refine walkS ?_|(refine ow_make ?_ dsS rfl rfl ?_ te22 tr5 tz5 ?_;exact trS;omega;refine stS0 ?_)))
     refine aw_condS rfl (fun h2=>?_) (fun h2=>?_)
     ·(repeat (first|refine walkS ?_|(refine ow_make ?_ dsS rfl rfl ?_ te22 tr5 tz5 ?_;exact trS;omega;refine stS0 ?_)|refine vS 0 (k3) ?_))
      (try simp only [hn8])
      (refine ow_call1o (k:=0) ?_ dsS rfl (k4) rfl rfl ?_;exact trS;simp only [St.set,List.map_cons,List.map_nil,List.length_map,Nat.reduceAdd])
      (repeat (first|refine walkS ?_|(refine ow_make ?_ dsS rfl rfl ?_ te22 tr5 tz5 ?_;exact trS;omega;refine stS0 ?_)))
      (refine rtS Tryz.results36 ?_;refine ⟨_,[],.inr (.inl ⟨.tup [.agg [encDs D],encB (bysC n8 (bel (bel c2 24).2 8).2).1],rfl,rfl,?_⟩),_,(curP q (bysC n8 (bel (bel c2 24).2 8).2).2:List Eng.D).map .d,[],rfl,toZL_d _ (curP q (bysC n8 (bel (bel c2 24).2 8).2).2),by simp,⟨by rw [hF,end_1 h2,hn8,Int.toNat_natCast];rfl,by rw [hF,end_1 h2,hn8,Int.toNat_natCast];simp only [hcb0,curP,bysC_b,bel_b];rfl⟩⟩;exact wkDS3)
     ·(repeat (first|refine walkS ?_|(refine ow_make ?_ dsS rfl rfl ?_ te22 tr5 tz5 ?_;exact trS;omega;refine stS0 ?_)))
      refine aw_condS rfl (fun h3=>?_) (fun h3=>?_)
      ·(repeat (first|refine walkS ?_|(refine ow_make ?_ dsS rfl rfl ?_ te22 tr5 tz5 ?_;exact trS;omega;refine stS0 ?_)))
       (try simp only [hr92])
       (refine rtS Tryz.results36 ?_;refine ⟨_,[],.inr (.inl ⟨.tup [.agg [encDs D],encB (b++[92])],rfl,rfl,?_⟩),_,(curP q (bel c2 24).2:List Eng.D).map .d,[],rfl,toZL_d _ (curP q (bel c2 24).2),by simp,⟨by rw [hF,end_2 h3];rfl,by rw [hF,end_2 h3];simp only [hcb0,curP,bel_b];rfl⟩⟩;exact wkDS3)
      ·(repeat (first|refine walkS ?_|(refine ow_make ?_ dsS rfl rfl ?_ te22 tr5 tz5 ?_;exact trS;omega;refine stS0 ?_)))
       (refine rtS Tryz.results36 ?_;refine ⟨_,[],.inr (.inl ⟨.tup [.agg [encDs D],encB b],rfl,rfl,?_⟩),_,(curP q (bel c2 24).2:List Eng.D).map .d,[],rfl,toZL_d _ (curP q (bel c2 24).2),by simp,⟨by rw [hF,end_no ⟨h1,h2,h3⟩];rfl,by rw [hF,end_no ⟨h1,h2,h3⟩];simp only [hcb0,curP,bel_b];rfl⟩⟩;exact wkDS3)
 exact hgoal.mono fun r' b ⟨e1,e2⟩=>⟨e1,by rw [e2];simp only [curP,hwb]⟩
end
end Go.Proofs.YtndnefealooolaaGreatDoor.Eng
namespace Go.Proofs.YtndnefealooolaaGreatDoor.Eng
open Go Go.RowKit

section
variable {B:List UInt8}
theorem drawF_c (hB:B.length≤1048576):AC Tryz.prog 15 [.d (encB B)] none (fun r' _=>r'=.d (.tup [encD (fileC (newC B)).1.1,encB (fileC (newC B)).1.2])):=by
 have hb0:(newC B).b.length≤1048576:=hB
 have n1:=newC_c hB
 have f1:=fileC_s (newC B) hb0 (fun _=>True)
 generalize fileC (newC B)=z at f1 ⊢
 obtain ⟨⟨D,b⟩,c'⟩:=z
 simp only at f1 ⊢
 refine cbS Tryz.func15 rfl Tryz.call15 Tryz.ntmps15 fun en hsz hks hk0=>?_;refine enS ?_
 (repeat (first|refine walkS ?_|refine vS 32 (f1) ?_|refine cS (n1) ?_))
 (refine rtS Tryz.results15 ?_;refine ⟨_,[],.inr (.inl ⟨.tup [encD D,encB b],rfl,rfl,?_⟩),List.nodup_nil,rfl⟩;exact wkDS2)
end
end Go.Proofs.YtndnefealooolaaGreatDoor.Eng
