/-
 Repairs: the reference's RepairReplace.

 Repairs: the reference's RepairLength.

 What laws of mutations share.

 How repairs are told: both sides.
-/
import Derived.Test.YtndnefealooolaaGreatDoorKNR1
import Derived.Test.YtndnefealooolaaGreatDoorKNRF
import Derived.Test.YtndnefealooolaaGreatDoorKNR5
import Derived.Test.YtndnefealooolaaGreatDoorKTy
import Derived.Test.YtndnefealooolaaGreatDoorKN0
import Derived.Test.YtndnefealooolaaGreatDoorKPR4
import Derived.Test.YtndnefealooolaaGreatDoorKND2
import Derived.Test.YtndnefealooolaaGreatDoorKNR3
set_option linter.unusedSimpArgs false
set_option linter.unusedVariables false
set_option linter.defProp false
set_option maxRecDepth 100000
set_option maxHeartbeats 4000000
namespace Go.Proofs.YtndnefealooolaaGreatDoor.Eng
open Go Go.RowKit

section
variable {M:Nat}{D:List RuleD}{b:List UInt8}
abbrev repZ (x:List UInt8 × Mut × Bool):Rz:=.d (.tup [encB x.1,mutE x.2.1.1 x.2.1.2.1 x.2.1.2.2,bD x.2.2])
private def tyF:=ai (ai (ai tg22 tg24) (ai tg57 (ai tg65 tg26))) (ai (ai tg30 (ai tg97 tg3)) (ai tg4 (ai tg5 tg9)))
theorem repRS_big (hD:DB M D) (hM:M≤1048576) (hb:b.length≤1048576) (hl:40<b.length):AC Tryz.prog 10 [.d (encD D),.d (encB b)] none (fun r' _=>r'=repZ (b,(0,0,0),false)):=by
 have HF:=isFileS_c (b:=b) hD hM hb
 have e1:decide ((b.length:Int)≤40)=false:=by simp;omega
 have e2:decide (((0:Nat):Int)<(b.length:Int))=true:=by simp;omega
 cases hf:fileP D b
 all_goals
  rw [hf] at HF
  refine cbS Tryz.func10 rfl Tryz.call10 Tryz.ntmps10 fun en hsz hks hk0=>?_;refine enS ?_
  (repeat (first|refine ctlS ?_|(refine ol_go ?_ (fun K1 hK1=>?_);exact trS;refine evS ?_;(try simp only [e1]);refine hK1 _ _ ?_;clear hK1 K1)|(refine ow_go ?_ dsS (fun K1 hK1=>?_);exact trS;refine evS ?_;(try simp only [e1]);refine hK1 _ ?_;clear hK1 K1)|refine skipS ?_|refine cS (HF) ?_|refine aw_condT rfl ?_|refine aw_condF rfl ?_))
  refine aw_loopS [1,2,4,5,6,7] (fun _ _=>[]) (fun _ z=>[(8,.d (iD (z:Nat)))]) [] (fun _ _=>[]) [] (fun _ _=>[]) (fun z:Nat=>z=0) (fun z=>0) (0) hks (fun _=>rfl) rfl wkS ?_;intro x hx;refine headS ?_
  obtain rfl:x=0:=hx
  (repeat (first|refine ctlS ?_|(refine ol_go ?_ (fun K1 hK1=>?_);exact trS;refine evS ?_;(try simp only [e1,e2]);refine hK1 _ _ ?_;clear hK1 K1)|(refine ow_go ?_ dsS (fun K1 hK1=>?_);exact trS;refine evS ?_;(try simp only [e1,e2]);refine hK1 _ ?_;clear hK1 K1)|refine skipS ?_|refine aw_condT rfl ?_|refine aw_condF rfl ?_))
  (refine rtS Tryz.results10 ?_;refine ⟨_,[],.inr (.inl ⟨.tup [encB b,mutE 0 0 0,bD false],rfl,rfl,?_⟩),List.nodup_nil,rfl⟩;exact wkDS)
theorem repRS_file (hD:DB M D) (hM:M≤1048576) (hl:b.length≤40) (hf:fileP D b=true):AC Tryz.prog 10 [.d (encD D),.d (encB b)] none (fun r' _=>r'=repZ (b,(0,0,0),true)):=by
 have HF:=isFileS_c (b:=b) hD hM (by omega)
 rw [hf] at HF
 have e1:decide ((b.length:Int)≤40)=true:=by simp;omega
 refine cbS Tryz.func10 rfl Tryz.call10 Tryz.ntmps10 fun en hsz hks hk0=>?_;refine enS ?_
 (repeat (first|refine ctlS ?_|(refine ol_go ?_ (fun K1 hK1=>?_);exact trS;refine evS ?_;(try simp only [e1]);refine hK1 _ _ ?_;clear hK1 K1)|(refine ow_go ?_ dsS (fun K1 hK1=>?_);exact trS;refine evS ?_;(try simp only [e1]);refine hK1 _ ?_;clear hK1 K1)|refine skipS ?_|refine cS (HF) ?_|refine aw_condT rfl ?_|refine aw_condF rfl ?_))
 (refine rtS Tryz.results10 ?_;refine ⟨_,[],.inr (.inl ⟨.tup [encB b,mutE 0 0 0,bD true],rfl,rfl,?_⟩),List.nodup_nil,rfl⟩;exact wkDS)
theorem rep_pred {i j:Nat} (hi:i<b.length) (hj:j<256):((mutR b 1 i j).2 && fileP D (mutR b 1 i j).1)=fileP D (b.set i (UInt8.ofNat j)):=by
 rw [mutR_1 hi (by omega),set_cut hi]
 rfl
theorem repRS_small (hD:DB M D) (hM:M≤1048576) (hl:b.length≤40) (hf:fileP D b=false):AC Tryz.prog 10 [.d (encD D),.d (encB b)] none (fun r' _=>r'=repZ (tryX (fileP D) b 1 b.length 256)):=by
 have HF:=isFileS_c (b:=b) hD hM (by omega)
 rw [hf] at HF
 have e1:decide ((b.length:Int)≤40)=true:=by simp;omega
 refine cbS Tryz.func10 rfl Tryz.call10 Tryz.ntmps10 fun en hsz hks hk0=>?_;refine enS ?_
 (repeat (first|refine ctlS ?_|(refine ol_go ?_ (fun K1 hK1=>?_);exact trS;refine evS ?_;(try simp only [e1]);refine hK1 _ _ ?_;clear hK1 K1)|(refine ow_go ?_ dsS (fun K1 hK1=>?_);exact trS;refine evS ?_;(try simp only [e1]);refine hK1 _ ?_;clear hK1 K1)|refine skipS ?_|refine cS (HF) ?_|refine aw_condT rfl ?_|refine aw_condF rfl ?_))
 refine aw_loopS [1,2,4,5,6,7] (fun _ _=>[]) (fun _ z=>[(8,.d (iD (z:Nat)))]) [] (fun _ _=>[]) [] (fun _ _=>[]) (fun z:Nat=>z≤b.length∧∀ (i j:Nat),i<z→j<256→((mutR b 1 i j).2 && fileP D (mutR b 1 i j).1)=false) (fun z=>b.length - z) (0) hks (fun _=>rfl) ⟨Nat.zero_le _,fun i j h=>by omega⟩ wkS ?_;intro x hx;refine headS ?_
 revert hx
 revert x
 intro i hi0
 obtain ⟨hi1,hi2⟩:=hi0
 by_cases hi:i<b.length
 ·have e2:decide ((i:Int)<(b.length:Int))=true:=by simp;omega
  (repeat (first|(refine ow_bs0 ?_ dsS rfl te22 tr5 (fun ad=>?_);exact trS;simp only [St.set])|(refine ow_appendA ?_ dsS rfl te22 tr5 tz5 rfl rfl ?_ ?_ (fun tl=>?_);exact trS;(simp only [List.length_map];omega);(simp only [List.length_map];omega);simp only [St.set])|refine ctlS ?_|(refine ol_go ?_ (fun K1 hK1=>?_);exact trS;refine evS ?_;(try simp only [e1,e2]);refine hK1 _ _ ?_;clear hK1 K1)|(refine ow_go ?_ dsS (fun K1 hK1=>?_);exact trS;refine evS ?_;(try simp only [e1,e2]);refine hK1 _ ?_;clear hK1 K1)|refine skipS ?_))
  refine aw_condT rfl ?_
  (repeat (first|(refine ow_bs0 ?_ dsS rfl te22 tr5 (fun ad=>?_);exact trS;simp only [St.set])|(refine ow_appendA ?_ dsS rfl te22 tr5 tz5 rfl rfl ?_ ?_ (fun tl=>?_);exact trS;(simp only [List.length_map];omega);(simp only [List.length_map];omega);simp only [St.set])|refine ctlS ?_|(refine ol_go ?_ (fun K1 hK1=>?_);exact trS;refine evS ?_;(try simp only [e1,e2,rowA_eq]);refine hK1 _ _ ?_;clear hK1 K1)|(refine ow_go ?_ dsS (fun K1 hK1=>?_);exact trS;refine evS ?_;(try simp only [e1,e2,rowA_eq]);refine hK1 _ ?_;clear hK1 K1)|refine skipS ?_))
  refine aw_loopS [2,4,5,6,7,8,9] (fun _ _=>[]) (fun _ z=>[(10,.d (iD (z.1:Nat))),(1,.d (encB b))]) [128] (fun _ z=>[(128,some ((rowD z.2 tl).map A.d))]) [] (fun _ _=>[]) (fun z:Nat × List UInt8=>z.1≤256∧z.2.length=b.length∧(∀ c,z.2.set i c=b.set i c)∧∀ j:Nat,j<z.1→((mutR b 1 i j).2 && fileP D (mutR b 1 i j).1)=false) (fun z=>256 - z.1) ((0,b)) hks (fun _=>rfl) ⟨Nat.zero_le _,rfl,fun _=>rfl,fun j h=>by omega⟩ wkS ?_;intro x hx;refine headS ?_
  obtain ⟨k,l⟩:=x
  simp only at hx ⊢
  obtain ⟨hx1,hx2,hx3,hx4⟩:=hx
  have hil:i<l.length:=by omega
  have hL:=rowD_len l tl
  have hS:splice ((rowD l tl).map A.d) [A.d (uD (UInt8.ofNat k))] (i*1)=(rowD (b.set i (UInt8.ofNat k)) tl).map A.d:=by rw [Nat.mul_one,rowA_set hil,hx3]
  refine walkS ?_
  refine aw_condS rfl (fun hk=>?_) (fun hk=>?_)
  ·have hk':k<256:=by omega
   have HG:=isFileS_c (b:=b.set i (UInt8.ofNat k)) hD hM (by rw [List.length_set];omega)
   have hm:(mutR b 1 i k).1=b.set i (UInt8.ofNat k):=by rw [mutR_1 hi (by omega),set_cut hi]
   have hp:=rep_pred (D:=D) hi hk'
   have hlen:(b.set i (UInt8.ofNat k)).length=b.length:=List.length_set ..
   have hz:∀ e∈(b.set i (UInt8.ofNat k)).map fun c=>[uD c],e.length=1:=fun e he=>by
    obtain ⟨x,_,rfl⟩:=List.mem_map.1 he
    rfl
   (repeat (first|refine ctlS ?_|(refine ol_go ?_ (fun K1 hK1=>?_);exact trS;refine evS ?_;(try simp only [u8_nat,hS]);refine hK1 _ _ ?_;clear hK1 K1)|(refine ow_go ?_ dsS (fun K1 hK1=>?_);exact trS;refine evS ?_;(try simp only [u8_nat,hS]);refine hK1 _ ?_;clear hK1 K1)|refine skipS ?_|refine aw_condT rfl ?_|refine aw_condF rfl ?_))
   refine ow_callT 128 ((b.set i (UInt8.ofNat k)).map fun c=>[uD c]) ?_ dsS rfl (by show some _=some _;rw [←rowA_eq]) hz (argsT_d (by rw [List.length_map];exact hlen.symm)) HG ?_;exact trS;simp only [St.set]
   cases hf:fileP D (b.set i (UInt8.ofNat k))
   ·rw [hf] at hp
    (repeat (first|refine walkS ?_|refine aw_condT rfl ?_|refine aw_condF rfl ?_))
    refine ⟨(k+1,b.set i (UInt8.ofNat k)),⟨by simp only;omega,hlen,fun c=>by simp only;rw [List.set_set],fun j hj=>?_⟩,by simp only;omega,?_⟩
    ·by_cases e:j=k
     ·subst e;exact hp
     ·exact hx4 j (by simp only at hj;omega)
    ·exact wkS
   ·rw [hf] at hp
    (repeat (first|refine walkS ?_|refine aw_condT rfl ?_|refine aw_condF rfl ?_))
    refine aw_freezeT (encB (b.set i (UInt8.ofNat k))) 4 128 1 b.length ((b.set i (UInt8.ofNat k)).map fun c=>[uD c]) (tl.map fun x=>A.d (.v x)) rfl (by rw [rowA_eq];rfl) (by rw [List.length_map];exact hlen) hz hks (by decide) (fun _ _ _ _ _ h=>h) ?_
    (refine rtS Tryz.results10 ?_;exact ⟨_,_,.inl ⟨rfl,rfl⟩,List.nodup_nil,by rw [tryX_hit hi hk' hp hx4 hi2,hm]⟩)
  ·obtain rfl:k=256:=by omega
   (repeat (first|refine walkS ?_|refine aw_condT rfl ?_|refine aw_condF rfl ?_))
   refine ⟨i+1,⟨by omega,fun i' j h1 h2=>?_⟩,by omega,?_⟩
   ·by_cases e:i'=i
    ·subst e;exact hx4 j h2
    ·exact hi2 i' j (by omega) h2
   ·exact wkS
 ·have e2:decide ((i:Int)<(b.length:Int))=false:=by simp;omega
  obtain rfl:i=b.length:=by omega
  (repeat (first|refine ctlS ?_|(refine ol_go ?_ (fun K1 hK1=>?_);exact trS;refine evS ?_;(try simp only [e1,e2]);refine hK1 _ _ ?_;clear hK1 K1)|(refine ow_go ?_ dsS (fun K1 hK1=>?_);exact trS;refine evS ?_;(try simp only [e1,e2]);refine hK1 _ ?_;clear hK1 K1)|refine skipS ?_|refine aw_condT rfl ?_|refine aw_condF rfl ?_))
  (refine rtS Tryz.results10 ?_;refine ⟨_,[],.inr (.inl ⟨.tup [encB b,mutE 0 0 0,bD false],rfl,rfl,?_⟩),List.nodup_nil,by rw [tryX_none hi2]⟩;exact wkDS)
theorem repRS_c (hD:DB M D) (hM:M≤1048576) (hb:b.length≤1048576):AC Tryz.prog 10 [.d (encD D),.d (encB b)] none (fun r' _=>r'=repZ (repR (fileP D) b)):=by
 unfold repR
 by_cases hl:40<b.length
 ·rw [if_pos hl];exact repRS_big hD hM hb hl
 ·rw [if_neg hl]
  cases hf:fileP D b
  ·rw [if_neg (by decide)];exact repRS_small hD hM (by omega) hf
  ·rw [if_pos rfl];exact repRS_file hD hM (by omega) hf
end
end Go.Proofs.YtndnefealooolaaGreatDoor.Eng
namespace Go.Proofs.YtndnefealooolaaGreatDoor.Eng
open Go Go.RowKit

section
variable {M:Nat}{D:List RuleD}{b:List UInt8}
theorem repLS_big (hb:b.length≤1048576) (hl:40<b.length):AC Tryz.prog 30 [.d (encD D),.d (encB b)] none (fun r' _=>r'=repZ (b,(0,0,0),false)):=by
 have e1:decide ((40:Int)<(b.length:Int))=true:=by simp;omega
 refine cbS Tryz.func30 rfl Tryz.call30 Tryz.ntmps30 fun en hsz hks hk0=>?_;refine enS ?_
 (repeat (first|refine ctlS ?_|(refine ol_go ?_ (fun K1 hK1=>?_);exact trS;refine evS ?_;(try simp only [e1]);refine hK1 _ _ ?_;clear hK1 K1)|(refine ow_go ?_ dsS (fun K1 hK1=>?_);exact trS;refine evS ?_;(try simp only [e1]);refine hK1 _ ?_;clear hK1 K1)|refine skipS ?_|refine aw_condT rfl ?_|refine aw_condF rfl ?_))
 (refine rtS Tryz.results30 ?_;refine ⟨_,[],.inr (.inl ⟨.tup [encB b,mutE 0 0 0,bD false],rfl,rfl,?_⟩),List.nodup_nil,rfl⟩;exact wkDS)
theorem repLS_file (hD:DB M D) (hM:M≤1048576) (hl:b.length≤40) (hf:fileP D b=true):AC Tryz.prog 30 [.d (encD D),.d (encB b)] none (fun r' _=>r'=repZ (b,(0,0,0),true)):=by
 have HF:=isFileS_c (b:=b) hD hM (by omega)
 rw [hf] at HF
 have e1:decide ((40:Int)<(b.length:Int))=false:=by simp;omega
 refine cbS Tryz.func30 rfl Tryz.call30 Tryz.ntmps30 fun en hsz hks hk0=>?_;refine enS ?_
 (repeat (first|refine ctlS ?_|(refine ol_go ?_ (fun K1 hK1=>?_);exact trS;refine evS ?_;(try simp only [e1]);refine hK1 _ _ ?_;clear hK1 K1)|(refine ow_go ?_ dsS (fun K1 hK1=>?_);exact trS;refine evS ?_;(try simp only [e1]);refine hK1 _ ?_;clear hK1 K1)|refine skipS ?_|refine cS (HF) ?_|refine aw_condT rfl ?_|refine aw_condF rfl ?_))
 (refine rtS Tryz.results30 ?_;refine ⟨_,[],.inr (.inl ⟨.tup [encB b,mutE 0 0 0,bD true],rfl,rfl,?_⟩),List.nodup_nil,rfl⟩;exact wkDS)
theorem repLS_small (hD:DB M D) (hM:M≤1048576) (hl:b.length≤40) (hf:fileP D b=false):AC Tryz.prog 30 [.d (encD D),.d (encB b)] none (fun r' _=>r'=repZ (if (tryX (fileP D) b 3 b.length 1).2.2=true then tryX (fileP D) b 3 b.length 1 else tryX (fileP D) b 2 (b.length+1) 256)):=by
 have HF:=isFileS_c (b:=b) hD hM (by omega)
 rw [hf] at HF
 have e1:decide ((40:Int)<(b.length:Int))=false:=by simp;omega
 refine cbS Tryz.func30 rfl Tryz.call30 Tryz.ntmps30 fun en hsz hks hk0=>?_;refine enS ?_
 (repeat (first|refine ctlS ?_|(refine ol_go ?_ (fun K1 hK1=>?_);exact trS;refine evS ?_;(try simp only [e1]);refine hK1 _ _ ?_;clear hK1 K1)|(refine ow_go ?_ dsS (fun K1 hK1=>?_);exact trS;refine evS ?_;(try simp only [e1]);refine hK1 _ ?_;clear hK1 K1)|refine skipS ?_|refine cS (HF) ?_|refine aw_condT rfl ?_|refine aw_condF rfl ?_))
 refine aw_loopS [1,2,4,5,6,7] (fun _ _=>[]) (fun _ z=>[(8,.d (iD (z:Nat)))]) [] (fun _ _=>[]) [] (fun _ _=>[]) (fun z:Nat=>z≤b.length∧∀ i j:Nat,i<z→j<1→((mutR b 3 i j).2 && fileP D (mutR b 3 i j).1)=false) (fun z=>b.length - z) (0) hks (fun _=>rfl) ⟨Nat.zero_le _,fun i j h=>by omega⟩ wkS ?_;intro x hx;refine headS ?_
 revert hx
 revert x
 intro i hi0
 obtain ⟨hi1,hi2⟩:=hi0
 refine walkS ?_
 refine aw_condS rfl (fun hc=>?_) (fun hc=>?_)
 ·have hi:i<b.length:=by omega
  have m3:=mutR_3 hi
  have z0:(((0:Nat):Int))=0:=rfl
  have HA:=applyS_3 (b:=b) (by omega) hi
  have hcl:=cutB_len (b:=b) (new:=[]) (a:=i) (n:=1) (by omega)
  simp only [List.length_nil] at hcl
  have HG:=isFileS_c (b:=cutB b i 1 []) hD hM (by omega)
  cases hg:fileP D (cutB b i 1 [])
  ·rw [hg] at HG
   (repeat (first|refine walkS ?_|refine cS (HA) ?_|refine cS (HG) ?_|refine aw_condT rfl ?_|refine aw_condF rfl ?_))
   refine ⟨i+1,⟨by omega,fun i' j h1 h2=>?_⟩,by omega,?_⟩
   ·by_cases e:i'=i
    ·subst e
     obtain rfl:j=0:=by omega
     rw [z0,m3,hg];rfl
    ·exact hi2 i' j (by omega) h2
   ·exact wkS
  ·rw [hg] at HG
   (repeat (first|refine walkS ?_|refine cS (HA) ?_|refine cS (HG) ?_|refine aw_condT rfl ?_|refine aw_condF rfl ?_))
   (refine rtS Tryz.results30 ?_;exact ⟨_,_,.inl ⟨rfl,rfl⟩,List.nodup_nil,by rw [tryX_hit (kind:=3) hi (k:=0) (by omega) (by rw [z0,m3,hg];rfl) (fun j hj=>by omega) hi2,if_pos rfl,z0,m3]⟩)
 ·obtain rfl:i=b.length:=by omega
  rw [tryX_none hi2,if_neg (by simp)]
  (repeat (first|refine walkS ?_|refine aw_condT rfl ?_|refine aw_condF rfl ?_))
  refine aw_loopS [1,2,4,5,6,7] (fun _ _=>[]) (fun _ z=>[(12,.d (iD (z:Nat)))]) [] (fun _ _=>[]) [] (fun _ _=>[]) (fun z:Nat=>z≤b.length+1∧∀ i j:Nat,i<z→j<256→((mutR b 2 i j).2 && fileP D (mutR b 2 i j).1)=false) (fun z=>b.length+1 - z) (0) hks (fun _=>rfl) ⟨Nat.zero_le _,fun i j h=>by omega⟩ wkS ?_;intro x hx;refine headS ?_
  revert hx
  revert x
  intro i hi0
  obtain ⟨hj1,hj2⟩:=hi0
  refine walkS ?_
  refine aw_condS rfl (fun hd=>?_) (fun hd=>?_)
  ·have hi:i≤b.length:=by omega
   (repeat (first|refine walkS ?_|refine aw_condT rfl ?_|refine aw_condF rfl ?_))
   refine aw_loopS [2,4,5,6,7,12] (fun _ _=>[]) (fun _ z=>[(13,.d (iD (z:Nat))),(1,.d (encB b))]) [] (fun _ _=>[]) [] (fun _ _=>[]) (fun z:Nat=>z≤256∧∀ j:Nat,j<z→((mutR b 2 i j).2 && fileP D (mutR b 2 i j).1)=false) (fun z=>256 - z) (0) hks (fun _=>rfl) ⟨Nat.zero_le _,fun j h=>by omega⟩ wkS ?_;intro x hx;refine headS ?_
   revert hx
   revert x
   intro k hk0
   obtain ⟨hk1,hk2⟩:=hk0
   refine walkS ?_
   refine aw_condS rfl (fun he=>?_) (fun he=>?_)
   ·have hk:k<256:=by omega
    have m2:=mutR_2 (b:=b) (c:=k) hi (by omega)
    have HA:=applyS_2 (b:=b) (c:=k) (by omega) hi (by omega)
    have hcl:=cutB_len (b:=b) (new:=[UInt8.ofNat k]) (a:=i) (n:=0) (by omega)
    simp only [List.length_singleton] at hcl
    have HG:=isFileS_c (b:=cutB b i 0 [UInt8.ofNat k]) hD hM (by omega)
    cases hg:fileP D (cutB b i 0 [UInt8.ofNat k])
    ·rw [hg] at HG
     (repeat (first|refine walkS ?_|refine cS (HA) ?_|refine cS (HG) ?_|refine aw_condT rfl ?_|refine aw_condF rfl ?_))
     refine ⟨k+1,⟨by omega,fun j h1=>?_⟩,by omega,?_⟩
     ·by_cases e:j=k
      ·subst e
       rw [m2,hg];rfl
      ·exact hk2 j (by omega)
     ·exact wkS
    ·rw [hg] at HG
     (repeat (first|refine walkS ?_|refine cS (HA) ?_|refine cS (HG) ?_|refine aw_condT rfl ?_|refine aw_condF rfl ?_))
     (refine rtS Tryz.results30 ?_;exact ⟨_,_,.inl ⟨rfl,rfl⟩,List.nodup_nil,by rw [tryX_hit (kind:=2) (show i<b.length+1 by omega) hk (by rw [m2,hg];rfl) hk2 hj2,m2]⟩)
   ·obtain rfl:k=256:=by omega
    (repeat (first|refine walkS ?_|refine aw_condT rfl ?_|refine aw_condF rfl ?_))
    refine ⟨i+1,⟨by omega,fun i' j h1 h2=>?_⟩,by omega,?_⟩
    ·by_cases e:i'=i
     ·subst e;exact hk2 j h2
     ·exact hj2 i' j (by omega) h2
    ·exact wkS
  ·obtain rfl:i=b.length+1:=by omega
   rw [tryX_none hj2]
   (repeat (first|refine walkS ?_|refine aw_condT rfl ?_|refine aw_condF rfl ?_))
   (refine rtS Tryz.results30 ?_;refine ⟨_,[],.inr (.inl ⟨.tup [encB b,mutE 0 0 0,bD false],rfl,rfl,?_⟩),List.nodup_nil,rfl⟩;exact wkDS)
theorem repLS_c (hD:DB M D) (hM:M≤1048576) (hb:b.length≤1048576):AC Tryz.prog 30 [.d (encD D),.d (encB b)] none (fun r' _=>r'=repZ (repL (fileP D) b)):=by
 unfold repL
 by_cases hl:40<b.length
 ·rw [if_pos hl];exact repLS_big hb hl
 ·rw [if_neg hl]
  cases hf:fileP D b
  ·rw [if_neg (by decide)];exact repLS_small hD hM (by omega) hf
  ·rw [if_pos rfl];exact repLS_file hD hM (by omega) hf
end
end Go.Proofs.YtndnefealooolaaGreatDoor.Eng
namespace Go.Proofs.YtndnefealooolaaGreatDoor.Eng
open Go Go.RowKit

theorem repN_sem (x:List UInt8 × Mut × Bool) (n:Nat) (C:CellR) (u:Value) (k:RepD C (repN x n) u):RepD C (.tup [encB x.1,mutE x.2.1.1 x.2.1.2.1 x.2.1.2.2,bD x.2.2]) u:=by
 unfold RepD at k ⊢
 obtain ⟨us,h1,h2⟩:=k
 refine ⟨us,h1,?_⟩
 unfold RepL at h2 ⊢
 obtain ⟨u,us',e,h3,h4⟩:=h2
 exact ⟨u,us',e,RepD.mono (fun _ _ _ h=>h.1) _ _ (repD_iv.1 h3),h4⟩
end Go.Proofs.YtndnefealooolaaGreatDoor.Eng
namespace Go.Proofs.YtndnefealooolaaGreatDoor.Eng
open Go Go.RowKit

section
variable {M:Nat}{D:List RuleD}{b:List UInt8}
theorem fmtMI_c {k i c:Nat} (hk:k=1∨k=2∨k=3) (hi:i≤1000) (hc:c≤1000):AC Tryz.prog 48 [.d (mutE k i c)] none (fun r' _=>r'=.d (sD (fmM k i c))):=by
 have f1:=fmtI_any (n:=i) (by omega) (by omega)
 have f2:=fmtI_any (n:=c) (by omega) (by omega)
 have z1:=itoB_size i
 have z2:=itoB_size c
 have y2:ByteArray.size ⟨#[45]⟩=1:=rfl
 have y3:ByteArray.size ⟨#[61]⟩=1:=rfl
 have y4:ByteArray.size ⟨#[43]⟩=1:=rfl
 have y5:ByteArray.size ⟨#[58]⟩=1:=rfl
 have hk3:fmM k i c=if (k:Int)=3 then ⟨#[45]⟩++itoB i else (if (k:Int)=1 then ⟨#[61]⟩ else if (k:Int)=2 then ⟨#[43]⟩ else ⟨#[63]⟩)++itoB i++⟨#[58]⟩++itoB c:=rfl
 generalize itoB (i:Int)=si at *
 generalize itoB (c:Int)=sc at *
 have a1:(⟨#[61]⟩++si).size=si.size+1:=by rw [ByteArray.size_append,y3];omega
 have a2:(⟨#[61]⟩++si++⟨#[58]⟩).size=si.size+2:=by rw [ByteArray.size_append,a1,y5]
 have a3:(⟨#[43]⟩++si).size=si.size+1:=by rw [ByteArray.size_append,y4];omega
 have a4:(⟨#[43]⟩++si++⟨#[58]⟩).size=si.size+2:=by rw [ByteArray.size_append,a3,y5]
 rcases hk with rfl|rfl|rfl
 ·rw [if_neg (by decide),if_pos (by decide)] at hk3
  rw [hk3]
  refine cbS Tryz.func48 rfl Tryz.call48 Tryz.ntmps48 fun en hsz hks hk0=>?_;refine enS ?_
  (repeat (first|refine walkS ?_|refine aw_condT rfl ?_|refine aw_condF rfl ?_))
  (repeat (first|refine walkS ?_|refine cS (f1) ?_|refine cS (f2) ?_|refine aw_condT rfl ?_|refine aw_condF rfl ?_))
  (refine rtS Tryz.results48 ?_;exact ⟨_,_,.inl ⟨rfl,rfl⟩,List.nodup_nil,rfl⟩)
 ·rw [if_neg (by decide),if_neg (by decide),if_pos (by decide)] at hk3
  rw [hk3]
  refine cbS Tryz.func48 rfl Tryz.call48 Tryz.ntmps48 fun en hsz hks hk0=>?_;refine enS ?_
  (repeat (first|refine walkS ?_|refine aw_condT rfl ?_|refine aw_condF rfl ?_))
  (repeat (first|refine walkS ?_|refine cS (f1) ?_|refine cS (f2) ?_|refine aw_condT rfl ?_|refine aw_condF rfl ?_))
  (refine rtS Tryz.results48 ?_;exact ⟨_,_,.inl ⟨rfl,rfl⟩,List.nodup_nil,rfl⟩)
 ·rw [if_pos (by decide)] at hk3
  rw [hk3]
  refine cbS Tryz.func48 rfl Tryz.call48 Tryz.ntmps48 fun en hsz hks hk0=>?_;refine enS ?_
  (repeat (first|refine walkS ?_|refine aw_condT rfl ?_|refine aw_condF rfl ?_))
  (repeat (first|refine walkS ?_|refine cS (f1) ?_|refine cS (f2) ?_|refine aw_condT rfl ?_|refine aw_condF rfl ?_))
  (refine rtS Tryz.results48 ?_;exact ⟨_,_,.inl ⟨rfl,rfl⟩,List.nodup_nil,rfl⟩)
end
end Go.Proofs.YtndnefealooolaaGreatDoor.Eng
