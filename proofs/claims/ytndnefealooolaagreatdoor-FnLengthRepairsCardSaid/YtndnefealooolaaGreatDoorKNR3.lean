/-
 Mutations, the program: ApplyMutation.

 Repairs: the program.
-/
import Derived.Test.YtndnefealooolaaGreatDoorKNR1
import Derived.Test.YtndnefealooolaaGreatDoorKNRF
set_option linter.unusedSimpArgs false
set_option linter.unusedVariables false
set_option linter.defProp false
set_option maxRecDepth 100000
set_option maxHeartbeats 4000000
namespace Go.Proofs.YtndnefealooolaaGreatDoor.Eng
open Go Go.RowKit

section
variable {b:List UInt8}
private def tyF:=ai (ai (ai tg102 (ai tg22 tg24)) (ai tg57 (ai tg65 tg26))) (ai (ai tg30 (ai tg97 tg3)) (ai tg4 (ai tg5 tg9)))
theorem key_c (k i c:Int):AC Tryz.prog 74 [.d (mutE k i c)] none (fun r' _=>r'=.d (.agg [iD k,iD i,iD c])):=by
 refine cbS Tryz.func74 rfl Tryz.call74 Tryz.ntmps74 fun en hsz hks hk0=>?_;refine enS ?_
 refine walkS ?_
 (refine rtS Tryz.results74 ?_;exact ⟨_,_,.inl ⟨rfl,rfl⟩,List.nodup_nil,rfl⟩)
theorem applyI_1 (hb:b.length≤1048576) {i c:Nat} (hi:i<b.length) (hc:c≤255):ACN Tryz.prog 52 [.d (encB b),.d (mutE 1 i c)] (mutD (cutB b i 1 [UInt8.ofNat c])):=by
 have r1:AC Tryz.prog 42 [.d (iD (c:Nat)),.d (iD 0),.d (iD 255)] none (fun r' _=>r'=.d (bD true)):=(inRangeI_c _ _ _).eqv (by simp;omega)
 have e1:decide ((i:Int)<0)=false:=by simp
 have e2:decide ((i:Int)<(b.length:Int))=true:=by simp;omega
 have hS:∀ tl,splice ((rowD b tl).map A.d) [A.d (uD (UInt8.ofNat c))] (i*1)=(rowD (b.set i (UInt8.ofNat c)) tl).map A.d:=fun tl=>by rw [Nat.mul_one];exact rowA_set hi _
 refine calls_bodyI Tryz.func52 rfl Tryz.call52 Tryz.ntmps52 (by simp) (by simp [ArgsOk]) fun en hsz hcok hX hks=>?_;refine enS ?_
 (repeat (first|(refine ow_bs0 ?_ dsS rfl te22 tr5 (fun ad=>?_);exact trS;simp only [St.set])|(refine ow_appendA ?_ dsS rfl te22 tr5 tz5 rfl rfl ?_ ?_ (fun tl=>?_);exact trS;(simp only [List.length_map];omega);(simp only [List.length_map];omega);simp only [St.set])|refine ctlS ?_|(refine ol_go ?_ (fun K1 hK1=>?_);exact trS;refine evS ?_;(try simp only [e1,e2,rowA_eq]);refine hK1 _ _ ?_;clear hK1 K1)|(refine ow_go ?_ dsS (fun K1 hK1=>?_);exact trS;refine evS ?_;(try simp only [e1,e2,rowA_eq]);refine hK1 _ ?_;clear hK1 K1)|refine skipS ?_|refine cS (r1) ?_))
 have hL:=rowD_len b tl
 (repeat (first|refine ctlS ?_|(refine ol_go ?_ (fun K1 hK1=>?_);exact trS;refine evS ?_;(try simp only [e1,e2,u8_nat,hS]);refine hK1 _ _ ?_;clear hK1 K1)|(refine ow_go ?_ dsS (fun K1 hK1=>?_);exact trS;refine evS ?_;(try simp only [e1,e2,u8_nat,hS]);refine hK1 _ ?_;clear hK1 K1)|refine skipS ?_|refine cS (r1) ?_|refine aw_condT rfl ?_|refine aw_condF rfl ?_))
 refine aw_freezeT (.iv (fun k=>en.w.heap.size≤k) (encB (b.set i (UInt8.ofNat c)))) 4 48 1 b.length ((b.set i (UInt8.ofNat c)).map fun c=>[uD c]) (tl.map fun x=>A.d (.v x)) rfl (by rw [rowA_eq];rfl) (by simp) (fun e he=>by obtain ⟨x,_,rfl⟩:=List.mem_map.1 he;rfl) hks (by decide) (freeze_new hX fun a=>.cons .v .nil) ?_
 (refine rtS Tryz.results52 ?_;exact ⟨_,_,.inl ⟨rfl,rfl⟩,List.nodup_nil,by rw [←set_cut hi]⟩)
theorem applyI_2 (hb:b.length≤1048576) {i c:Nat} (hi:i≤b.length) (hc:c≤255):ACN Tryz.prog 52 [.d (encB b),.d (mutE 2 i c)] (mutD (cutB b i 0 [UInt8.ofNat c])):=by
 have r1:AC Tryz.prog 42 [.d (iD (c:Nat)),.d (iD 0),.d (iD 255)] none (fun r' _=>r'=.d (bD true)):=(inRangeI_c _ _ _).eqv (by simp;omega)
 have e1:decide ((i:Int)<0)=false:=by simp
 have e2:decide ((i:Int)≤(b.length:Int))=true:=by simp;omega
 have HS:=spliceI_c hb (a:=i) (rm:=0) (by omega) (new:=[UInt8.ofNat c]) (by simp)
 refine calls_bodyI Tryz.func52 rfl Tryz.call52 Tryz.ntmps52 (by simp) (by simp [ArgsOk]) fun en hsz hcok hX hks=>?_;refine enS ?_
 (repeat (first|refine ctlS ?_|(refine ol_go ?_ (fun K1 hK1=>?_);exact trS;refine evS ?_;(try simp only [e1,e2,u8_nat]);refine hK1 _ _ ?_;clear hK1 K1)|(refine ow_go ?_ dsS (fun K1 hK1=>?_);exact trS;refine evS ?_;(try simp only [e1,e2,u8_nat]);refine hK1 _ ?_;clear hK1 K1)|refine skipS ?_|refine cS (r1) ?_|refine cS (HS) ?_|refine aw_condT rfl ?_|refine aw_condF rfl ?_))
 refine aw_ownI 4 96 1 5 ((cutB b i 0 [UInt8.ofNat c]).map fun c=>[uD c]) rfl rfl (flat_map _ _) hX ?_
 (refine rtS Tryz.results52 ?_;exact ⟨_,_,.inl ⟨rfl,rfl⟩,List.nodup_nil,rfl⟩)
theorem applyI_3 (hb:b.length≤1048576) {i:Nat} (hi:i<b.length):ACN Tryz.prog 52 [.d (encB b),.d (mutE 3 i 0)] (mutD (cutB b i 1 [])):=by
 have r1:AC Tryz.prog 42 [.d (iD 0),.d (iD 0),.d (iD 255)] none (fun r' _=>r'=.d (bD true)):=(inRangeI_c _ _ _).eqv (by simp)
 have e1:decide ((i:Int)<0)=false:=by simp
 have e2:decide ((i:Int)<(b.length:Int))=true:=by simp;omega
 have e3:((i:Int)==(i:Int))=true:=by simp
 have HS:=spliceI_n hb (a:=i) (rm:=1) (by omega)
 have HK:=key_c 3 i 0
 refine calls_bodyI Tryz.func52 rfl Tryz.call52 Tryz.ntmps52 (by simp) (by simp [ArgsOk]) fun en hsz hcok hX hks=>?_;refine enS ?_
 (repeat (first|refine ctlS ?_|(refine ol_go ?_ (fun K1 hK1=>?_);exact trS;refine evS ?_;(try simp only [e1,e2,e3]);refine hK1 _ _ ?_;clear hK1 K1)|(refine ow_go ?_ dsS (fun K1 hK1=>?_);exact trS;refine evS ?_;(try simp only [e1,e2,e3]);refine hK1 _ ?_;clear hK1 K1)|refine skipS ?_|refine cS (r1) ?_|refine cS (HS) ?_|refine cS (HK) ?_|refine aw_condT rfl ?_|refine aw_condF rfl ?_))
 refine aw_ownI 4 288 1 5 ((cutB b i 1 []).map fun c=>[uD c]) rfl rfl (flat_map _ _) hX ?_
 (refine rtS Tryz.results52 ?_;exact ⟨_,_,.inl ⟨rfl,rfl⟩,List.nodup_nil,rfl⟩)
end
end Go.Proofs.YtndnefealooolaaGreatDoor.Eng
namespace Go.Proofs.YtndnefealooolaaGreatDoor.Eng
open Go Go.RowKit

section
variable {M:Nat}{D:List RuleD}{b:List UInt8}
theorem wholeI_c (hD:DB M D) (hM:M≤1048576) (hb:b.length≤1048576):AC Tryz.prog 32 [.d (encD D),.d (encB b)] none (fun r' _=>r'=.tup [.own 5 1 (b.map fun c=>[uD c]),.d (bD (if 40<b.length then false else fileP D b)),.d (bD (if 40<b.length then true else fileP D b))]):=by
 have HF:=isFileI_c (b:=b) hD hM hb
 refine cbS Tryz.func32 rfl Tryz.call32 Tryz.ntmps32 fun en hsz hks hk0=>?_;refine enS ?_
 refine walkS ?_
 refine aw_condS rfl (fun h=>?_) (fun h=>?_)
 ·rw [if_pos (by omega),if_pos (by omega)]
  refine walkS ?_
  (refine rtS Tryz.results32 ?_;exact ⟨_,_,.inl (toZ_tup (toZL_cons (toZ_own (by simp [lk,St.mem])) (toZL_cons toZ_d (toZL_cons toZ_d toZL_nil)))),by simp,rfl⟩)
 ·rw [if_neg (by omega),if_neg (by omega)]
  (repeat (first|refine walkS ?_|refine cS (HF) ?_))
  (refine rtS Tryz.results32 ?_;exact ⟨_,_,.inl (toZ_tup (toZL_cons (toZ_own (by simp [lk,St.mem])) (toZL_cons toZ_d (toZL_cons toZ_d toZL_nil)))),by simp,rfl⟩)
theorem tryI_n (hD:DB M D) (hM:M≤1048576) (hb:b.length≤1048575) {kind:Int}{n m:Nat} (hn:n≤1048576) (hm:m≤256) (HA:∀ i c:Nat,i<n→c<m→ACN Tryz.prog 52 [.d (encB b),.d (mutE kind i c)] (mutD (mutR b kind i c).1)) (HT:∀ i c:Nat,i<n→c<m→(mutR b kind i c).2=true) :
  ACN Tryz.prog 33 [.d (encD D),.d (encB b),.d (iD kind),.d (iD ((n:Int) - 1)),.d (iD ((m:Int) - 1))] (repN (tryX (fileP D) b kind n m)):=by
 refine calls_bodyI Tryz.func33 rfl Tryz.call33 Tryz.ntmps33 (by simp) (by simp [ArgsOk]) fun en hsz hcok hX hks=>?_;refine enS ?_
 refine walkS ?_
 refine aw_loopS [1,2,3,4,5,10,11,12] (fun _ _=>[]) (fun _ i=>[(13,.d (iD (i:Nat)))]) [] (fun _ _=>[]) [] (fun _ _=>[]) (fun i:Nat=>i≤n∧∀ i' j,i'<i→j<m→((mutR b kind i' j).2 && fileP D (mutR b kind i' j).1)=false) (fun i=>n - i) (0) hks (fun _=>rfl) ⟨Nat.zero_le _,fun i' j h=>by omega⟩ wkS ?_;intro x hx;refine headS ?_
 revert hx
 revert x
 intro i hx
 obtain ⟨hx1,hx2⟩:=hx
 refine walkS ?_
 refine aw_condS rfl (fun hi=>?_) (fun hi=>?_)
 ·have hi':i<n:=by omega
  refine walkS ?_
  refine aw_loopS [1,2,4,5,10,11,12,13] (fun _ _=>[]) (fun _ c=>[(14,.d (iD (c:Nat))),(3,.d (iD ((n:Int) - 1)))]) [] (fun _ _=>[]) [] (fun _ _=>[]) (fun c:Nat=>c≤m∧∀ j,j<c→((mutR b kind i j).2 && fileP D (mutR b kind i j).1)=false) (fun c=>m - c) (0) hks (fun _=>rfl) ⟨Nat.zero_le _,fun j h=>by omega⟩ wkS ?_;intro x hx;refine headS ?_
  revert hx
  revert x
  intro c hc0
  obtain ⟨hc1,hc2⟩:=hc0
  refine walkS ?_
  refine aw_condS rfl (fun hc=>?_) (fun hc=>?_)
  ·have hc':c<m:=by omega
   have ha:=HA i c hi' hc'
   have ht:=HT i c hi' hc'
   have hl:=mutR_len b kind i c
   have am:=anti_mutD (mutR b kind i c).1
   have hcm:=hc2
   have HF:=isFileI_c (b:=(mutR b kind i c).1) hD hM (by omega)
   cases hf:fileP D (mutR b kind i c).1
   ·rw [hf] at HF
    (repeat (first|refine walkS ?_|(refine ow_callFA ?_ dsS rfl (ha) ?_;exact trS;simp only [St.set,List.map_cons,List.map_nil,mutD])|(refine callPre ?_;(first|refine callN_funS rfl (AC.iv HF) ?_))|(refine callPreL ?_;(first|refine callL_funS rfl (AC.iv HF) ?_))|refine aw_condT rfl ?_|refine aw_condF rfl ?_))
    refine ⟨c+1,⟨by omega,fun j hj=>?_⟩,by omega,?_⟩
    ·by_cases e:j=c
     ·subst e;rw [hf,Bool.and_false]
     ·exact hc2 j (by omega)
    ·exact wkS
   ·rw [hf] at HF
    (repeat (first|refine walkS ?_|(refine ow_callFA ?_ dsS rfl (ha) ?_;exact trS;simp only [St.set,List.map_cons,List.map_nil,mutD])|(refine callPre ?_;(first|refine callN_funS rfl (AC.iv HF) ?_))|(refine callPreL ?_;(first|refine callL_funS rfl (AC.iv HF) ?_))|refine aw_condT rfl ?_|refine aw_condF rfl ?_))
    (refine rtS Tryz.results33 ?_;exact ⟨_,_,.inl ⟨rfl,rfl⟩,List.nodup_nil,by rw [tryX_hit hi' hc' (by rw [ht,hf];rfl) hc2 hx2]⟩)
  ·obtain rfl:c=m:=by omega
   (repeat (first|refine walkS ?_|refine aw_condT rfl ?_|refine aw_condF rfl ?_))
   refine ⟨i+1,⟨by omega,fun i' j h1 h2=>?_⟩,by omega,?_⟩
   ·by_cases e:i'=i
    ·subst e;exact hc2 j h2
    ·exact hx2 i' j (by omega) h2
   ·exact wkS
 ·obtain rfl:i=n:=by omega
  (repeat (first|refine walkS ?_|refine aw_condT rfl ?_|refine aw_condF rfl ?_))
  refine aw_ownI 10 80 1 5 (b.map fun c=>[uD c]) rfl rfl (flat_map _ _) hX ?_
  (refine rtS Tryz.results33 ?_;exact ⟨_,_,.inl ⟨rfl,rfl⟩,List.nodup_nil,by rw [tryX_none hx2];rfl⟩)
theorem repRI_n (hD:DB M D) (hM:M≤1048576) (hb:b.length≤1048576):ACN Tryz.prog 9 [.d (encD D),.d (encB b)] (repN (repR (fileP D) b)):=by
 have HW:=wholeI_c (b:=b) hD hM (by omega)
 have hr:repR (fileP D) b=if 40<b.length then (b,(0,0,0),false) else if fileP D b=true then (b,(0,0,0),true) else tryX (fileP D) b 1 b.length 256:=rfl
 by_cases h40:40<b.length
 ·rw [if_pos h40,if_pos h40] at HW
  rw [hr,if_pos h40]
  refine calls_bodyI Tryz.func9 rfl Tryz.call9 Tryz.ntmps9 (by simp) (by simp [ArgsOk]) fun en hsz hcok hX hks=>?_;refine enS ?_
  (repeat (first|refine walkS ?_|refine cS (HW) ?_|refine aw_condT rfl ?_|refine aw_condF rfl ?_))
  refine aw_ownI 4 48 1 5 (b.map fun c=>[uD c]) rfl rfl (flat_map _ _) hX ?_
  (refine rtS Tryz.results9 ?_;exact ⟨_,_,.inl ⟨rfl,rfl⟩,List.nodup_nil,rfl⟩)
 ·rw [if_neg h40,if_neg h40] at HW
  rw [hr,if_neg h40]
  have HT:=tryI_n (b:=b) hD hM (by omega) (kind:=1) (n:=b.length) (m:=256) (by omega) (Nat.le_refl _) (fun i c hi hc=>by
   rw [mutR_1 hi (by omega)];exact applyI_1 (by omega) hi (by omega)) (fun i c hi hc=>by rw [mutR_1 hi (by omega)])
  rw [show ((256:Nat):Int) - 1=255 by rfl] at HT
  cases hf:fileP D b
  ·rw [hf] at HW
   rw [if_neg (by decide)]
   generalize tryX (fileP D) b 1 b.length 256=T at HT
   obtain ⟨out,⟨mk,mi,mc⟩,ok⟩:=T
   have am:=anti_repN (out,(mk,mi,mc),ok)
   refine calls_bodyI Tryz.func9 rfl Tryz.call9 Tryz.ntmps9 (by simp) (by simp [ArgsOk]) fun en hsz hcok hX hks=>?_;refine enS ?_
   (repeat (first|refine walkS ?_|(refine ow_callFA ?_ dsS rfl (HT) ?_;exact trS;simp only [St.set,List.map_cons,List.map_nil,repN])|refine cS (HW) ?_|refine aw_condT rfl ?_|refine aw_condF rfl ?_))
   (refine rtS Tryz.results9 ?_;exact ⟨_,_,.inl ⟨rfl,rfl⟩,List.nodup_nil,rfl⟩)
  ·rw [hf] at HW
   rw [if_pos rfl]
   refine calls_bodyI Tryz.func9 rfl Tryz.call9 Tryz.ntmps9 (by simp) (by simp [ArgsOk]) fun en hsz hcok hX hks=>?_;refine enS ?_
   (repeat (first|refine walkS ?_|refine cS (HW) ?_|refine aw_condT rfl ?_|refine aw_condF rfl ?_))
   refine aw_ownI 4 48 1 5 (b.map fun c=>[uD c]) rfl rfl (flat_map _ _) hX ?_
   (refine rtS Tryz.results9 ?_;exact ⟨_,_,.inl ⟨rfl,rfl⟩,List.nodup_nil,rfl⟩)
theorem repLI_n (hD:DB M D) (hM:M≤1048576) (hb:b.length≤1048576):ACN Tryz.prog 29 [.d (encD D),.d (encB b)] (repN (repL (fileP D) b)):=by
 have HW:=wholeI_c (b:=b) hD hM (by omega)
 have hr:repL (fileP D) b=if 40<b.length then (b,(0,0,0),false) else if fileP D b=true then (b,(0,0,0),true) else if (tryX (fileP D) b 3 b.length 1).2.2=true then tryX (fileP D) b 3 b.length 1 else tryX (fileP D) b 2 (b.length+1) 256:=rfl
 by_cases h40:40<b.length
 ·rw [if_pos h40,if_pos h40] at HW
  rw [hr,if_pos h40]
  refine calls_bodyI Tryz.func29 rfl Tryz.call29 Tryz.ntmps29 (by simp) (by simp [ArgsOk]) fun en hsz hcok hX hks=>?_;refine enS ?_
  (repeat (first|refine walkS ?_|refine cS (HW) ?_|refine aw_condT rfl ?_|refine aw_condF rfl ?_))
  refine aw_ownI 4 48 1 5 (b.map fun c=>[uD c]) rfl rfl (flat_map _ _) hX ?_
  (refine rtS Tryz.results29 ?_;exact ⟨_,_,.inl ⟨rfl,rfl⟩,List.nodup_nil,rfl⟩)
 ·rw [if_neg h40,if_neg h40] at HW
  rw [hr,if_neg h40]
  have HT:=tryI_n (b:=b) hD hM (by omega) (kind:=3) (n:=b.length) (m:=1) (by omega) (by omega) (fun i c hi hc=>by
   obtain rfl:c=0:=by omega
   have:=mutR_3 (b:=b) hi
   rw [show (((0:Nat):Int))=0 by rfl,this];exact applyI_3 (by omega) hi) (fun i c hi hc=>by
   obtain rfl:c=0:=by omega
   have:=mutR_3 (b:=b) hi
   rw [show (((0:Nat):Int))=0 by rfl,this])
  rw [show ((1:Nat):Int) - 1=0 by rfl] at HT
  have HU:=tryI_n (b:=b) hD hM (by omega) (kind:=2) (n:=b.length+1) (m:=256) (by omega) (Nat.le_refl _) (fun i c hi hc=>by
   rw [mutR_2 (by omega) (by omega)];exact applyI_2 (by omega) (by omega) (by omega)) (fun i c hi hc=>by rw [mutR_2 (by omega) (by omega)])
  rw [show ((256:Nat):Int) - 1=255 by rfl,show ((b.length+1:Nat):Int) - 1=b.length by omega] at HU
  cases hf:fileP D b
  ·rw [hf] at HW
   rw [if_neg (by decide)]
   generalize tryX (fileP D) b 3 b.length 1=T at HT
   obtain ⟨out,⟨mk,mi,mc⟩,ok⟩:=T
   generalize tryX (fileP D) b 2 (b.length+1) 256=U at HU
   obtain ⟨out2,⟨mk2,mi2,mc2⟩,ok2⟩:=U
   have am:=anti_repN (out,(mk,mi,mc),ok)
   have am2:=anti_repN (out2,(mk2,mi2,mc2),ok2)
   cases ok
   ·simp only [Bool.false_eq_true,if_false]
    refine calls_bodyI Tryz.func29 rfl Tryz.call29 Tryz.ntmps29 (by simp) (by simp [ArgsOk]) fun en hsz hcok hX hks=>?_;refine enS ?_
    (repeat (first|refine walkS ?_|(refine ow_callFA ?_ dsS rfl (HT) ?_;exact trS;simp only [St.set,List.map_cons,List.map_nil,repN])|(refine ow_callFA ?_ dsS rfl (HU) ?_;exact trS;simp only [St.set,List.map_cons,List.map_nil,repN])|refine cS (HW) ?_|refine aw_condT rfl ?_|refine aw_condF rfl ?_))
    (refine rtS Tryz.results29 ?_;exact ⟨_,_,.inl ⟨rfl,rfl⟩,List.nodup_nil,rfl⟩)
   ·simp only [if_true]
    refine calls_bodyI Tryz.func29 rfl Tryz.call29 Tryz.ntmps29 (by simp) (by simp [ArgsOk]) fun en hsz hcok hX hks=>?_;refine enS ?_
    (repeat (first|refine walkS ?_|(refine ow_callFA ?_ dsS rfl (HT) ?_;exact trS;simp only [St.set,List.map_cons,List.map_nil,repN])|(refine ow_callFA ?_ dsS rfl (HU) ?_;exact trS;simp only [St.set,List.map_cons,List.map_nil,repN])|refine cS (HW) ?_|refine aw_condT rfl ?_|refine aw_condF rfl ?_))
    (refine rtS Tryz.results29 ?_;exact ⟨_,_,.inl ⟨rfl,rfl⟩,List.nodup_nil,rfl⟩)
  ·rw [hf] at HW
   rw [if_pos rfl]
   refine calls_bodyI Tryz.func29 rfl Tryz.call29 Tryz.ntmps29 (by simp) (by simp [ArgsOk]) fun en hsz hcok hX hks=>?_;refine enS ?_
   (repeat (first|refine walkS ?_|refine cS (HW) ?_|refine aw_condT rfl ?_|refine aw_condF rfl ?_))
   refine aw_ownI 4 48 1 5 (b.map fun c=>[uD c]) rfl rfl (flat_map _ _) hX ?_
   (refine rtS Tryz.results29 ?_;exact ⟨_,_,.inl ⟨rfl,rfl⟩,List.nodup_nil,rfl⟩)
end
end Go.Proofs.YtndnefealooolaaGreatDoor.Eng
