/-
 Draws: DrawReadFile, DrawCountApplications, DrawLongestValidPrefix.

 Draws: DrawCanonicalFile, DrawSameFile.
-/
import Derived.Test.YtodkkldopciagaaGreatDoorKNDC
import Derived.Test.YtodkkldopciagaaGreatDoorKNDX
import Derived.Test.YtodkkldopciagaaGreatDoorKNDY
import Derived.Test.YtodkkldopciagaaGreatDoorKPD10
import Derived.Test.YtodkkldopciagaaGreatDoorKNB1
import Derived.Test.YtodkkldopciagaaGreatDoorKLSB
set_option linter.unusedSimpArgs false
set_option linter.unusedVariables false
set_option linter.defProp false
set_option maxRecDepth 100000
set_option maxHeartbeats 4000000
namespace Go.Proofs.YtodkkldopciagaaGreatDoor.Eng
open Go Go.RowKit

section
variable {B:List UInt8}
private def tyF:=ai (ai (ai tg22 tg24) (ai tg58 (ai tg60 tg26))) (ai (ai tg62 (ai tg3 tg4)) (ai tg45 (ai tg5 tg9)))
theorem drawRF_c (hB:B.length≤1048576):AC Tryz.prog 29 [.d (encB B)] none (fun r' _=>r'=.d (.tup [encD (readC B).1,encB (readC B).2])):=by
 have hb0:(newC B).b.length≤1048576:=hB
 have n1:=newC_c hB
 have f1:=fileC_s (newC B) hb0 (fun _=>True)
 have hb1:(fileC (newC B)).2.b.length≤1048576:=by rw [fileC_b];exact hb0
 unfold readC
 generalize fileC (newC B)=z at f1 hb1 ⊢
 obtain ⟨⟨D,b⟩,c'⟩:=z
 simp only at f1 hb1 ⊢
 have o1:=once_c (p:=fun _=>True) c' hb1 12
 have hb2:(once c' 12).2.b.length≤1048576:=by unfold once;rw [bel_b];exact hb1
 have a1:=any_c (p:=fun _=>True) (once c' 12).2 hb2
 unfold rdEnd
 simp only
 generalize once c' 12=o at o1 a1 hb2 ⊢
 obtain ⟨ob,oc⟩:=o
 simp only at o1 a1 hb2 ⊢
 generalize anyC oc=w at a1 ⊢
 obtain ⟨wD,wc⟩:=w
 simp only at a1 ⊢
 refine cbS Tryz.func29 rfl Tryz.call29 Tryz.ntmps29 fun en hsz hks hk0=>?_;refine enS ?_
 (repeat (first|refine walkS ?_|refine vS 32 (f1) ?_|refine vS 32 (o1) ?_|refine cS (n1) ?_))
 refine aw_condS rfl (fun hc=>?_) (fun hc=>?_)
 ·(repeat (first|refine walkS ?_|refine vS 32 (a1) ?_))
  rw [if_pos hc]
  (refine rtS Tryz.results29 ?_;refine ⟨_,[],.inr (.inl ⟨.tup [encD wD,encB b],rfl,rfl,?_⟩),List.nodup_nil,rfl⟩;exact wkDS2)
 ·refine walkS ?_
  rw [if_neg (by simp [hc])]
  (refine rtS Tryz.results29 ?_;refine ⟨_,[],.inr (.inl ⟨.tup [encD D,encB b],rfl,rfl,?_⟩),List.nodup_nil,rfl⟩;exact wkDS2)


end
end Go.Proofs.YtodkkldopciagaaGreatDoor.Eng
namespace Go.Proofs.YtodkkldopciagaaGreatDoor.Eng
open Go Go.RowKit

theorem escB_stp {t c:UInt8}{l:List UInt8}:escB t (c::l)=(if c=t∨c=92 then [92,c] else [c])++escB t l:=by
 rw [escB]
 split<;>rfl
theorem k92d:Eng.D.v (Value.int IntKind.u8 92)=uD 92:=rfl
theorem escAll_c {l:List UInt8} (hl:l.length≤1048576) (t:UInt8):AC Tryz.prog 42 [.d (encB l),.d (uD t)] none (fun r' _=>r'=.d (encB (escA t l))):=by
 refine cbS Tryz.func42 rfl Tryz.call42 Tryz.ntmps42 fun en hsz hks hk0=>?_;refine enS ?_
 refine walkS ?_
 refine aw_loopS [0,1,4] (fun κ s'=>[(κ,keyOf (s'.f 5))]) (fun κ x=>[(6,.d (iD (x.1:Nat))),(5,.own κ 5 1 (x.2.map fun c=>[uD c]))]) [] (fun _ _=>[]) [16] (fun κ x=>[(κ,some (x.2.length,5,1))]) (fun x:Nat × List UInt8=>x.1≤l.length∧x.2++escA t (l.drop x.1)=escA t l∧x.2.length≤2*x.1) (fun x=>l.length - x.1) ((0,[])) hks (fun _=>rfl) ⟨Nat.zero_le _,rfl,Nat.zero_le _⟩ wkS ?_;intro x hx;refine headS ?_
 obtain ⟨k,acc⟩:=x
 simp only at hx ⊢
 obtain ⟨hx1,hx2,hx3⟩:=hx
 refine walkS ?_
 refine aw_condS rfl (fun hk=>?_) (fun hk=>?_)
 ·have hk':k<l.length:=by omega
  rw [List.drop_eq_getElem_cons hk',escA] at hx2
  generalize hc:l[k]=c at hx2
  (repeat (first|refine ctlS ?_|(refine ol_go ?_ (fun K1 hK1=>?_);exact trS;refine evS ?_;(try simp only [hc,k92d]);refine hK1 _ _ ?_;clear hK1 K1)|(refine ow_go ?_ dsS (fun K1 hK1=>?_);exact trS;refine evS ?_;(try simp only [hc,k92d]);refine hK1 _ ?_;clear hK1 K1)|refine skipS ?_))
  refine ⟨(k+1,acc++[92,c]),⟨by simp only;omega,(by simpa only [List.append_assoc,List.cons_append,List.nil_append] using hx2),by simp;omega⟩,by simp only;omega,?_⟩
  exact wkS
 ·rw [List.drop_eq_nil_of_le (by omega),escA] at hx2
  refine walkS ?_
  (refine rtS Tryz.results42 ?_)
  refine ⟨_,[],.inr (.inl ⟨.sl 1 (acc.map (fun c=>[uD c])++[[uD t]]),rfl,rfl,?_⟩),List.nodup_nil,by rw [←hx2];simp [encB]⟩
  unfold wkD
  exact .inr ⟨_,_,_,rfl,dleLL_refl _⟩
theorem escBytes_c {l:List UInt8} (hl:l.length≤1048576) (t:UInt8):AC Tryz.prog 43 [.d (encB l),.d (uD t)] none (fun r' _=>r'=.d (encB (escB t l))):=by
 refine cbS Tryz.func43 rfl Tryz.call43 Tryz.ntmps43 fun en hsz hks hk0=>?_;refine enS ?_
 refine walkS ?_
 refine aw_loopS [0,1,4] (fun κ s'=>[(κ,keyOf (s'.f 5))]) (fun κ x=>[(6,.d (iD (x.1:Nat))),(5,.own κ 5 1 (x.2.map fun c=>[uD c]))]) [] (fun _ _=>[]) [16] (fun κ x=>[(κ,some (x.2.length,5,1))]) (fun x:Nat × List UInt8=>x.1≤l.length∧x.2++escB t (l.drop x.1)=escB t l∧x.2.length≤2*x.1) (fun x=>l.length - x.1) ((0,[])) hks (fun _=>rfl) ⟨Nat.zero_le _,rfl,Nat.zero_le _⟩ wkS ?_;intro x hx;refine headS ?_
 obtain ⟨k,acc⟩:=x
 simp only at hx ⊢
 obtain ⟨hx1,hx2,hx3⟩:=hx
 refine walkS ?_
 refine aw_condS rfl (fun hk=>?_) (fun hk=>?_)
 ·have hk':k<l.length:=by omega
  rw [List.drop_eq_getElem_cons hk',escB_stp,←List.append_assoc] at hx2
  generalize hc:l[k]=c at hx2
  by_cases h1:c=t
  ·have e1:((c.toNat:Int)==(t.toNat:Int))=true:=by rw [h1];simp
   rw [if_pos (.inl h1)] at hx2
   (repeat (first|refine ctlS ?_|(refine ol_go ?_ (fun K1 hK1=>?_);exact trS;refine evS ?_;(try simp only [hc,e1]);refine hK1 _ _ ?_;clear hK1 K1)|(refine ow_go ?_ dsS (fun K1 hK1=>?_);exact trS;refine evS ?_;(try simp only [hc,e1]);refine hK1 _ ?_;clear hK1 K1)|refine skipS ?_))
   refine aw_condS rfl (fun h2=>?_) (fun h2=>?_)
   ·(repeat (first|refine ctlS ?_|(refine ol_go ?_ (fun K1 hK1=>?_);exact trS;refine evS ?_;(try simp only [hc,k92d]);refine hK1 _ _ ?_;clear hK1 K1)|(refine ow_go ?_ dsS (fun K1 hK1=>?_);exact trS;refine evS ?_;(try simp only [hc,k92d]);refine hK1 _ ?_;clear hK1 K1)|refine skipS ?_))
    refine ⟨(k+1,acc++[92]++[c]),⟨by simp only;omega,(by simpa only [List.append_assoc,List.cons_append,List.nil_append] using hx2),by simp;omega⟩,by simp only;omega,?_⟩
    exact wkS
   ·(first|exact absurd trivial h2|exact absurd rfl h2|(cases h2;done)|omega|exact absurd h2 (by decide)|(simp at h2;done))
  ·have e1:((c.toNat:Int)==(t.toNat:Int))=false:=by
    rw [beq_eq_false_iff_ne]
    intro h
    exact h1 (UInt8.toNat_inj.1 (by omega))
   by_cases h9:c=92
   ·have e2:((c.toNat:Int)==(92:Int))=true:=by rw [h9];rfl
    rw [if_pos (.inr h9)] at hx2
    (repeat (first|refine ctlS ?_|(refine ol_go ?_ (fun K1 hK1=>?_);exact trS;refine evS ?_;(try simp only [hc,e1,e2]);refine hK1 _ _ ?_;clear hK1 K1)|(refine ow_go ?_ dsS (fun K1 hK1=>?_);exact trS;refine evS ?_;(try simp only [hc,e1,e2]);refine hK1 _ ?_;clear hK1 K1)|refine skipS ?_))
    refine aw_condS rfl (fun h2=>?_) (fun h2=>?_)
    ·(repeat (first|refine ctlS ?_|(refine ol_go ?_ (fun K1 hK1=>?_);exact trS;refine evS ?_;(try simp only [hc,k92d]);refine hK1 _ _ ?_;clear hK1 K1)|(refine ow_go ?_ dsS (fun K1 hK1=>?_);exact trS;refine evS ?_;(try simp only [hc,k92d]);refine hK1 _ ?_;clear hK1 K1)|refine skipS ?_))
     refine ⟨(k+1,acc++[92]++[c]),⟨by simp only;omega,(by simpa only [List.append_assoc,List.cons_append,List.nil_append] using hx2),by simp;omega⟩,by simp only;omega,?_⟩
     exact wkS
    ·(first|exact absurd trivial h2|exact absurd rfl h2|(cases h2;done)|omega|exact absurd h2 (by decide)|(simp at h2;done))
   ·have e2:((c.toNat:Int)==(92:Int))=false:=by
     rw [beq_eq_false_iff_ne]
     intro h
     exact h9 (UInt8.toNat_inj.1 (by show c.toNat=92;omega))
    rw [if_neg (by rintro (h|h)<;>contradiction)] at hx2
    (repeat (first|refine ctlS ?_|(refine ol_go ?_ (fun K1 hK1=>?_);exact trS;refine evS ?_;(try simp only [hc,e1,e2]);refine hK1 _ _ ?_;clear hK1 K1)|(refine ow_go ?_ dsS (fun K1 hK1=>?_);exact trS;refine evS ?_;(try simp only [hc,e1,e2]);refine hK1 _ ?_;clear hK1 K1)|refine skipS ?_))
    refine aw_condS rfl (fun h2=>?_) (fun h2=>?_)
    ·(first|exact absurd trivial h2|exact absurd rfl h2|(cases h2;done)|omega|exact absurd h2 (by decide)|(simp at h2;done))
    ·(repeat (first|refine ctlS ?_|(refine ol_go ?_ (fun K1 hK1=>?_);exact trS;refine evS ?_;(try simp only [hc,k92d]);refine hK1 _ _ ?_;clear hK1 K1)|(refine ow_go ?_ dsS (fun K1 hK1=>?_);exact trS;refine evS ?_;(try simp only [hc,k92d]);refine hK1 _ ?_;clear hK1 K1)|refine skipS ?_))
     refine ⟨(k+1,acc++[c]),⟨by simp only;omega,hx2,by simp;omega⟩,by simp only;omega,?_⟩
     exact wkS
 ·rw [List.drop_eq_nil_of_le (by omega),escB] at hx2
  refine walkS ?_
  (refine rtS Tryz.results43 ?_)
  refine ⟨_,[],.inr (.inl ⟨.sl 1 (acc.map (fun c=>[uD c])++[[uD t]]),rfl,rfl,?_⟩),List.nodup_nil,by rw [←hx2];simp [encB]⟩
  unfold wkD
  exact .inr ⟨_,_,_,rfl,dleLL_refl _⟩
theorem escD_w {k:Nat}{e:TypeId}:wkD (.sl 8 (escD.map encRc)) (.own k e 8 [[.v (.string { data:=#[110] }),.v (.int .i64 1),.v (.int .i64 1),.v (.bool false),.v (.slice none 0 0),.v (.slice none 0 0),.v (.slice none 0 0),.v (.slice none 0 0)],[.v (.string { data:=#[116] }),.v (.int .i64 10),.v (.int .i64 0),.v (.bool false),.sl 1 [[.v (.int .u8 10)]],.v (.slice none 0 0),.v (.slice none 0 0),.v (.slice none 0 0)],[.v (.string { data:=#[108] }),.v (.int .i64 5),.v (.int .i64 0),.v (.bool false),.v (.slice none 0 0),.v (.slice none 0 0),.v (.slice none 0 0),.sl 1 [[.v (.int .i64 0)],[.v (.int .i64 1)]]]]):=by
 unfold wkD
 refine .inr ⟨_,_,_,rfl,?_⟩
 have hc:∀ {c c':List Eng.D}{cs cs':List (List Eng.D)},dleL c c'→dleLL cs cs'→dleLL (c::cs) (c'::cs'):=fun h k=>by unfold dleLL;exact ⟨_,_,rfl,h,k⟩
 have h1:∀ {c c':Eng.D}{cs cs':List Eng.D},dle c c'→dleL cs cs'→dleL (c::cs) (c'::cs'):=fun h k=>by unfold dleL;exact ⟨_,_,rfl,h,k⟩
 have n:∀ z,dle (.sl z []) (.v (.slice none 0 0)):=fun z=>by unfold dle;exact .inl ⟨rfl,rfl⟩
 exact hc (h1 (dle_refl _) (h1 (dle_refl _) (h1 (dle_refl _) (h1 (dle_refl _) (h1 (n 1) (h1 (n 1) (h1 (n 1) (h1 (n 1) (dleL_refl _))))))))) (hc (h1 (dle_refl _) (h1 (dle_refl _) (h1 (dle_refl _) (h1 (dle_refl _) (h1 (dle_refl _) (h1 (n 1) (h1 (n 1) (h1 (n 1) (dleL_refl _))))))))) (hc (h1 (dle_refl _) (h1 (dle_refl _) (h1 (dle_refl _) (h1 (dle_refl _) (h1 (n 1) (h1 (n 1) (h1 (n 1) (h1 (dle_refl _) (dleL_refl _))))))))) (dleLL_refl [])))
section
variable {p:Nat→Prop}
theorem escD_c (c:Cur) (hb:c.b.length≤1048576):AC Tryz.prog 28 [.ptr 0 0] (some ((curP p c).map .d)) (drwQ p (.tup [encD (escC c).1.1,encB (escC c).1.2]) (escC c).2):=by
 have b3:=bel_c (p:=p) c hb 3
 have hb1:(bel c 3).2.b.length≤1048576:=by rw [bel_b];exact hb
 have g3:=bel_in c (n:=3) (by omega)
 obtain ⟨m,hm⟩:∃ m,m=(bel c 3).1.toNat:=⟨_,rfl⟩
 have hm1:(bel c 3).1=(m:Int):=by omega
 have q3:=u8_draw (n:=(m:Int)) (by omega)
 have hE:escC c=((escD,(escL m (bel c 3).2 [UInt8.ofNat m]).1),(escL m (bel c 3).2 [UInt8.ofNat m]).2):=by rw [hm];rfl
 rw [hE]
 refine cbS Tryz.func28 rfl Tryz.call28 Tryz.ntmps28 fun en hsz hks hk0=>?_;refine enS ?_
 (repeat (first|refine ctlS ?_|(refine ol_go ?_ (fun K1 hK1=>?_);exact trS;refine evS ?_;(try simp only [hm1,q3]);refine hK1 _ _ ?_;clear hK1 K1)|(refine ow_go ?_ dsS (fun K1 hK1=>?_);exact trS;refine evS ?_;(try simp only [hm1,q3]);refine hK1 _ ?_;clear hK1 K1)|refine skipS ?_|refine vS 0 (b3) ?_))
 refine aw_loopS [0,2,3,4,5] (fun κ s'=>[(κ,keyOf (s'.f 6))]) (fun κ x=>[(7,.d (iD (x.1:Nat))),(6,.own κ 5 1 (x.2.1.map fun c=>[uD c]))]) [0] (fun κ x=>[(0,some ((curP p x.2.2).map .d))]) [144] (fun κ x=>[(κ,some (x.2.1.length,5,1))]) (fun x:Nat × List UInt8 × Cur=>x.1≤m∧x.2.2.b=c.b∧x.2.1.length≤1+9*x.1∧escL (m - x.1) x.2.2 x.2.1=escL m (bel c 3).2 [UInt8.ofNat m]) (fun x=>m - x.1) ((0,[UInt8.ofNat m],(bel c 3).2)) hks (fun _=>rfl) ⟨Nat.zero_le _,bel_b c 3,by simp,rfl⟩ wkS ?_;intro x hx;refine headS ?_
 obtain ⟨k,b,c'⟩:=x
 simp only at hx ⊢
 obtain ⟨hx1,hx2,hx3,hx4⟩:=hx
 have hb':c'.b.length≤1048576:=by rw [hx2];exact hb
 have hm3:m≤2:=by omega
 refine walkS ?_
 refine aw_condS rfl (fun hc=>?_) (fun hc=>?_)
 ·have hkm:k<m:=by omega
  have w1:=bel_c (p:=p) c' hb' 4
  have g1:=bel_in c' (n:=4) (by omega)
  obtain ⟨j,hj⟩:∃ j:Nat,(bel c' 4).1=(j:Int):=⟨_,(Int.toNat_of_nonneg g1.1).symm⟩
  have hb1':(bel c' 4).2.b.length≤1048576:=by rw [bel_b];exact hb'
  have w2:=bysC_c (p:=p) (bel c' 4).2 hb1' (n:=j) (by omega)
  have hbl:=bysC_len (bel c' 4).2 j
  have w3:=once_c (p:=p) (bysC j (bel c' 4).2).2 (by rw [bysC_b];exact hb1') 2
  have A1:=escAll_c (l:=(bysC j (bel c' 4).2).1) (by omega) 10
  have B1:=escBytes_c (l:=(bysC j (bel c' 4).2).1) (by omega) 10
  have hE1:esc1 c'=(if (once (bysC j (bel c' 4).2).2 2).1=true then escA 10 (bysC j (bel c' 4).2).1 else escB 10 (bysC j (bel c' 4).2).1,(once (bysC j (bel c' 4).2).2 2).2):=by
   unfold esc1
   rw [hj,Int.toNat_natCast]
  have hl1:=esc1_len c'
  have hb1:=esc1_b c'
  have hx5:escL (m - (k+1)) (esc1 c').2 (b++(esc1 c').1)=escL m (bel c 3).2 [UInt8.ofNat m]:=by
   rw [←hx4,show m - k=(m - (k+1))+1 by omega,escL]
  rw [hE1] at hx5 hl1 hb1
  generalize bysC j (bel c' 4).2=y at w2 w3 A1 B1 hx5 hl1 hb1
  obtain ⟨y1,y2⟩:=y
  simp only at w2 w3 A1 B1 hx5 hl1 hb1
  generalize once y2 2=o at w3 hx5 hl1 hb1
  obtain ⟨ob,oc⟩:=o
  simp only at w3 hx5 hl1 hb1
  (repeat (first|refine ctlS ?_|(refine ol_go ?_ (fun K1 hK1=>?_);exact trS;refine evS ?_;(try simp only [hj]);refine hK1 _ _ ?_;clear hK1 K1)|(refine ow_go ?_ dsS (fun K1 hK1=>?_);exact trS;refine evS ?_;(try simp only [hj]);refine hK1 _ ?_;clear hK1 K1)|refine skipS ?_|refine vS 0 (w1) ?_))
  (try simp only [hj])
  (repeat (first|refine walkS ?_|refine vS 0 (w2) ?_|refine vS 0 (w3) ?_))
  refine aw_condS rfl (fun ho=>?_) (fun ho=>?_)
  ·rw [if_pos ho] at hx5 hl1
   (repeat (first|refine walkS ?_|refine cS (A1) ?_))
   refine ⟨(k+1,b++escA 10 y1,oc),⟨by simp only;omega,by simp only;rw [hb1,hx2],by simp only [List.length_append];omega,hx5⟩,by simp only;omega,?_⟩
   exact wkS
  ·rw [if_neg (by rw [ho];decide)] at hx5 hl1
   (repeat (first|refine walkS ?_|refine cS (B1) ?_))
   refine ⟨(k+1,b++escB 10 y1,oc),⟨by simp only;omega,by simp only;rw [hb1,hx2],by simp only [List.length_append];omega,hx5⟩,by simp only;omega,?_⟩
   exact wkS
 ·obtain rfl:k=m:=by omega
  rw [Nat.sub_self,escL] at hx4
  rw [←hx4]
  refine walkS ?_
  (refine rtS Tryz.results28 ?_)
  refine ⟨_,[],.inr (.inl ⟨.tup [.agg [.sl 8 (escD.map encRc)],encB b],rfl,rfl,?_⟩),_,(curP p c':List Eng.D).map .d,[],rfl,toZL_d _ (curP p c'),by simp,⟨rfl,rfl⟩⟩
  have hw:=escD_w (k:=112) (e:=62)
  generalize List.map encRc escD=es at hw ⊢
  simp (decide:=true) only [wkD_selfT,wkD_ownB,wkD_ownB0,wkD_ownV0,wkD_nilB,wkD_ownV,wkD_nilV,wkD_agg,wkD_tup,wkDL_nil,wkDL_cons,encVs_append,encVs_one,encVs_nil,encV_mk,V0,dle_agg,dle_tup,dleL_nil,dleL_cons,dle_nil,dle_nilB,wkD_tupd,wkD_aggd,dle_selfT,and_true,true_and,List.map_cons,List.map_nil,hw]
end
section
variable {B:List UInt8}
theorem canoF_c (hB:B.length≤1048576):AC Tryz.prog 16 [.d (encB B)] none (fun r' _=>r'=.d (.tup [encD (canoC B).1,encB (canoC B).2])):=by
 have hb0:(newC B).b.length≤1048576:=hB
 have n1:=newC_c hB
 have o1:=once_c (p:=fun _=>True) (newC B) hb0 2
 have hb1:(once (newC B) 2).2.b.length≤1048576:=by unfold once;rw [bel_b];exact hb0
 have e1:=escD_c (p:=fun _=>True) (once (newC B) 2).2 hb1
 have f1:=drawRF_c hB
 unfold canoC
 generalize readC B=z at f1 ⊢
 obtain ⟨D,b⟩:=z
 generalize once (newC B) 2=o at o1 e1 hb1 ⊢
 obtain ⟨ob,oc⟩:=o
 simp only at o1 e1 f1 ⊢
 generalize escC oc=y at e1 ⊢
 obtain ⟨⟨yD,yb⟩,yc⟩:=y
 simp only at e1 ⊢
 refine cbS Tryz.func16 rfl Tryz.call16 Tryz.ntmps16 fun en hsz hks hk0=>?_;refine enS ?_
 (repeat (first|refine walkS ?_|refine vS 32 (o1) ?_|refine cS (n1) ?_))
 refine aw_condS rfl (fun hc=>?_) (fun hc=>?_)
 ·(repeat (first|refine walkS ?_|refine vS 32 (e1) ?_))
  rw [if_pos hc]
  (refine rtS Tryz.results16 ?_;refine ⟨_,[],.inr (.inl ⟨.tup [encD yD,encB yb],rfl,rfl,?_⟩),List.nodup_nil,rfl⟩;exact wkDS2)
 ·(repeat (first|refine walkS ?_|refine cS (f1) ?_))
  rw [if_neg (by simp [hc])]
  (refine rtS Tryz.results16 ?_;refine ⟨_,[],.inr (.inl ⟨.tup [encD D,encB b],rfl,rfl,?_⟩),List.nodup_nil,rfl⟩;exact wkDS2)
theorem drawCF_c (hB:B.length≤1048576):AC Tryz.prog 6 [.d (encB B)] none (fun r' _=>r'=.d (.tup [encD (canoC B).1,encB (canoC B).2])):=by
 have f1:=canoF_c hB
 generalize canoC B=z at f1 ⊢
 obtain ⟨D,b⟩:=z
 simp only at f1 ⊢
 refine cbS Tryz.func6 rfl Tryz.call6 Tryz.ntmps6 fun en hsz hks hk0=>?_;refine enS ?_
 (repeat (first|refine walkS ?_|refine cS (f1) ?_))
 (refine rtS Tryz.results6 ?_;refine ⟨_,[],.inr (.inl ⟨.tup [encD D,encB b],rfl,rfl,?_⟩),List.nodup_nil,rfl⟩;exact wkDS2)
end
section
variable {p:Nat→Prop}
theorem bentE_0 {c:Cur} (h:(bel c 6).1=0):bentC c []=([],(bel c 6).2):=by
 unfold bentC;simp only [h,if_true];rfl
theorem bentE_c (c:Cur) (hb:c.b.length≤1048576):AC Tryz.prog 24 [.ptr 0 0,.d (encB [])] (some ((curP p c).map .d)) (drwQ p (encB (bentC c []).1) (bentC c []).2):=by
 have w1:=bel_c (p:=p) c hb 6
 have hb1:(bel c 6).2.b.length≤1048576:=by rw [bel_b];exact hb
 refine cbS Tryz.func24 rfl Tryz.call24 Tryz.ntmps24 fun en hsz hks hk0=>?_;refine enS ?_
 (repeat (first|refine walkS ?_|refine vS 0 (w1) ?_))
 refine aw_condS rfl (fun h1=>?_) (fun h1=>?_)
 ·have hB:=bentE_0 (c:=c) h1
  refine walkS ?_
  refine aw_condS rfl (fun hc=>?_) (fun hc=>?_)
  ·(first|exact absurd trivial hc|exact absurd rfl hc|(cases hc;done)|omega|exact absurd hc (by decide)|(simp at hc;done))
  ·refine walkS ?_
   (refine rtS Tryz.results24 ?_;refine ⟨_,[],.inr (.inl ⟨encB [],rfl,rfl,?_⟩),_,(curP p (bel c 6).2:List Eng.D).map .d,[],rfl,toZL_d _ (curP p (bel c 6).2),by simp,⟨by rw [hB],by rw [hB]⟩⟩;exact wkDS2)
 ·refine walkS ?_
  refine aw_condS rfl (fun h2=>?_) (fun h2=>?_)
  ·have w2:=bel_c (p:=p) (bel c 6).2 hb1 1
   have g2:=bel_in (bel c 6).2 (n:=1) (by omega)
   have hn:(bel (bel c 6).2 1).1=0:=by omega
   have hB:=bent_1 (c:=c) (b:=[]) h2
   (repeat (first|refine ctlS ?_|(refine ol_go ?_ (fun K1 hK1=>?_);exact trS;refine evS ?_;(try simp only [hn]);refine hK1 _ _ ?_;clear hK1 K1)|(refine ow_go ?_ dsS (fun K1 hK1=>?_);exact trS;refine evS ?_;(try simp only [hn]);refine hK1 _ ?_;clear hK1 K1)|refine skipS ?_|refine vS 0 (w2) ?_))
   (refine rtS Tryz.results24 ?_;refine ⟨_,[],.inr (.inl ⟨encB [],rfl,rfl,?_⟩),_,(curP p (bel (bel c 6).2 1).2:List Eng.D).map .d,[],rfl,toZL_d _ (curP p (bel (bel c 6).2 1).2),by simp,⟨by rw [hB,List.take_nil],by rw [hB];rfl⟩⟩;exact wkDS2)
  ·refine walkS ?_
   refine aw_condS rfl (fun h3=>?_) (fun h3=>?_)
   ·have w2:=pickI_c (p:=p) (bel c 6).2 hb1 (l:=[0,1,128,255]) (by decide) (by decide)
    have g2:=pickI_mem (bel c 6).2 (l:=[0,1,128,255]) (by decide)
    have q3:=u8_draw (n:=(pickI (bel c 6).2 [0,1,128,255]).1) (by simp only [List.mem_cons,List.not_mem_nil,or_false] at g2;omega)
    have hB:=bent_2 (c:=c) (b:=[]) h3
    (repeat (first|refine ctlS ?_|(refine ol_go ?_ (fun K1 hK1=>?_);exact trS;refine evS ?_;(try simp only [q3]);refine hK1 _ _ ?_;clear hK1 K1)|(refine ow_go ?_ dsS (fun K1 hK1=>?_);exact trS;refine evS ?_;(try simp only [q3]);refine hK1 _ ?_;clear hK1 K1)|refine skipS ?_|refine vS 0 (w2) ?_))
    (refine rtS Tryz.results24 ?_)
    refine ⟨_,[],.inr (.inl ⟨.sl 1 [[uD (UInt8.ofNat (pickI (bel c 6).2 [0,1,128,255]).1.toNat)]],rfl,rfl,?_⟩),_,(curP p (pickI (bel c 6).2 [0,1,128,255]).2:List Eng.D).map .d,[],rfl,toZL_d _ (curP p (pickI (bel c 6).2 [0,1,128,255]).2),by simp,⟨by rw [hB];rfl,by rw [hB]⟩⟩
    unfold wkD
    exact .inr ⟨_,_,_,rfl,dleLL_refl _⟩
   ·have hB:=bent_no (c:=c) (b:=[]) ⟨h1,h2,h3⟩
    refine walkS ?_
    (refine rtS Tryz.results24 ?_;refine ⟨_,[],.inr (.inl ⟨encB [],rfl,rfl,?_⟩),_,(curP p (bel c 6).2:List Eng.D).map .d,[],rfl,toZL_d _ (curP p (bel c 6).2),by simp,⟨by rw [hB],by rw [hB]⟩⟩;exact wkDS2)
theorem bentD_c (c:Cur) (hb:c.b.length≤1048576) {b:List UInt8} (hl:b.length≤1048576):AC Tryz.prog 24 [.ptr 0 0,.d (encB b)] (some ((curP p c).map .d)) (drwQ p (encB (bentC c b).1) (bentC c b).2):=by
 cases b with
 | nil=>exact bentE_c c hb
 | cons x b=>exact (bentO_c c hb hl (by simp)).owndB
end
section
variable {B:List UInt8}
theorem drawSF_c (hB:B.length≤1048576):AC Tryz.prog 13 [.d (encB B)] none (fun r' _=>r'=.d (.tup [encD (sameC B).1,encB (sameC B).2.1,encB (sameC B).2.2])):=by
 have hb0:(newC B).b.length≤1048576:=hB
 have n1:=newC_c hB
 have f1:=canoF_c hB
 have hDB:=canoC_db B
 have hl:=canoC_len B
 have w1:=bel_c (p:=fun _=>True) (newC B) hb0 3
 have hb1:(bel (newC B) 3).2.b.length≤1048576:=by rw [bel_b];exact hb0
 unfold sameC
 generalize canoC B=z at f1 hDB hl ⊢
 obtain ⟨D,b⟩:=z
 simp only at f1 hDB hl ⊢
 have b1:=bentD_c (p:=fun _=>True) (bel (newC B) 3).2 hb1 (b:=b) (by omega)
 have C1:=(canS_c hDB (Nat.le_refl _) (b:=b) (by omega)).owndT
 unfold sameEnd
 simp only
 generalize bel (newC B) 3=o at w1 b1 hb1 ⊢
 obtain ⟨w,oc⟩:=o
 simp only at w1 b1 hb1 ⊢
 generalize bentC oc b=y at b1 ⊢
 obtain ⟨y1,y2⟩:=y
 generalize canR D b=x at C1 ⊢
 obtain ⟨x,ok⟩:=x
 simp only at b1 C1 ⊢
 refine cbS Tryz.func13 rfl Tryz.call13 Tryz.ntmps13 fun en hsz hks hk0=>?_;refine enS ?_
 (repeat (first|refine walkS ?_|refine vS 64 (w1) ?_|refine cS (n1) ?_|refine cS (f1) ?_))
 refine aw_condS rfl (fun h0=>?_) (fun h0=>?_)
 ·(repeat (first|refine walkS ?_|refine vS 64 (b1) ?_))
  rw [if_pos h0]
  (refine rtS Tryz.results13 ?_;refine ⟨_,[],.inr (.inl ⟨.tup [encD D,encB b,encB y1],rfl,rfl,?_⟩),List.nodup_nil,rfl⟩;exact wkDS2)
 refine walkS ?_
 refine aw_condS rfl (fun h1=>?_) (fun h1=>?_)
 ·(repeat (first|refine walkS ?_|refine cS (C1) ?_))
  refine aw_condS rfl (fun h2=>?_) (fun h2=>?_)
  ·refine walkS ?_
   rw [if_neg h0,if_pos ⟨h1,h2⟩]
   (refine rtS Tryz.results13 ?_;refine ⟨_,[],.inr (.inl ⟨.tup [encD D,encB b,encB x],rfl,rfl,?_⟩),List.nodup_nil,rfl⟩;exact wkDS2)
  ·refine walkS ?_
   rw [if_neg h0,if_neg (by rintro ⟨_,h⟩;rw [h] at h2;cases h2)]
   (refine rtS Tryz.results13 ?_;refine ⟨_,[],.inr (.inl ⟨.tup [.agg [encDs D],encB b,encB b],rfl,rfl,?_⟩),List.nodup_nil,rfl⟩;exact wkDS2)
 ·refine walkS ?_
  rw [if_neg h0,if_neg (by rintro ⟨h,_⟩;exact h1 h)]
  (refine rtS Tryz.results13 ?_;refine ⟨_,[],.inr (.inl ⟨.tup [.agg [encDs D],encB b,encB b],rfl,rfl,?_⟩),List.nodup_nil,rfl⟩;exact wkDS2)
end
end Go.Proofs.YtodkkldopciagaaGreatDoor.Eng
