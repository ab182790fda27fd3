/-
 What the laws' sizes bound: descriptions.

 Bytes of parts are read: both sides.

 The law: ReadBytesAt.
-/
import Derived.Test.YtecdbogicpffeaaGreatDoorKM2
import Derived.Test.YtecdbogicpffeaaGreatDoorKNP2
import Derived.Test.YtecdbogicpffeaaGreatDoorKE30
import Derived.Test.YtecdbogicpffeaaGreatDoorKE5
import Derived.Test.YtecdbogicpffeaaGreatDoorKPure16
import Derived.Test.YtecdbogicpffeaaGreatDoorKL
import Derived.Test.YtecdbogicpffeaaGreatDoorKM13
set_option linter.unusedSimpArgs false
set_option linter.unusedVariables false
set_option linter.defProp false
set_option maxRecDepth 100000
set_option maxHeartbeats 4000000
namespace Go.Proofs.YtecdbogicpffeaaGreatDoor.Eng
open Go Go.RowKit

theorem cntR_le {M:Nat}{r:RuleD} (h:RB M r):cntR r≤4+4*M:=by
 have h1:=h.lb
 have h2:=h.ln
 have h3:=h.lt
 have h4:=h.lk
 unfold cntR
 omega
theorem cntRs_bd {M:Nat}{D:List RuleD} (h:∀ r∈D,RB M r):cntRs D≤D.length*(4+4*M):=by
 induction D with
 | nil=>simp [cntRs]
 | cons r D ih=>
  have h1:=ih fun x hx=>h x (List.mem_cons_of_mem _ hx)
  have h2:=cntR_le (h r (List.mem_cons_self ..))
  simp only [cntRs,List.length_cons]
  rw [Nat.add_mul]
  omega
theorem cntRs_DB {D:List RuleD} (h:DB 1048576 D):cntRs D≤4398050705408:=by
 refine Nat.le_trans (cntRs_bd h.rule) (Nat.le_trans (Nat.mul_le_mul_right _ h.len) (by decide))
end Go.Proofs.YtecdbogicpffeaaGreatDoor.Eng
namespace Go.Proofs.YtecdbogicpffeaaGreatDoor.Eng
open Go Go.RowKit

abbrev bytRz (x:List UInt8 × Bool):Rz:=.tup [.own 5 1 (x.1.map fun c=>[uD c]),.d (bD x.2)]
theorem bytRz_ok (x:List UInt8 × Bool):rzOk (bytRz x):=by
 unfold rzOk
 unfold rzOkL
 refine ⟨by unfold rzOk;exact flat_map _ _,?_⟩
 unfold rzOkL
 exact ⟨by unfold rzOk;trivial,by unfold rzOkL;trivial⟩
def bytP (D:List RuleD):Option (Nat × V)→List UInt8 × Bool
 | some (n,.mk _ bs _)=>if (ruleD D n).kind=3∨(ruleD D n).kind=4∨(ruleD D n).kind=10 then (bs,true) else ([],false)
 | none=>([],false)
theorem bytP_y {D:List RuleD}{n:Nat}{r:RuleD} (hr:D[n]?=some r) {m:Int}{bs:List UInt8}{vs:List V} (h:r.kind=3∨r.kind=4∨r.kind=10):bytP D (some (n,.mk m bs vs))=(bs,true):=by
 have e:ruleD D n=r:=ruleD_get hr
 simp only [bytP,e]
 rw [if_pos h]
theorem bytP_n {D:List RuleD}{n:Nat}{r:RuleD} (hr:D[n]?=some r) {m:Int}{bs:List UInt8}{vs:List V} (h:¬(r.kind=3∨r.kind=4∨r.kind=10)):bytP D (some (n,.mk m bs vs))=([],false):=by
 have e:ruleD D n=r:=ruleD_get hr
 simp only [bytP,e]
 rw [if_neg h]
theorem bytP_len {M:Nat}{D:List RuleD} (hD:DB M D) (hM:M≤1048576) (b:List UInt8) (s:ByteArray):(bytP D (partP D b s)).1.length≤1048576:=by
 unfold partP
 cases hl:locP D b s with
 | none=>exact Nat.zero_le _
 | some y=>
  obtain ⟨n,p,q⟩:=y
  obtain ⟨hV,hb4,hn,hp⟩:=locP_some hl
  have hv:=rd_VB (hD.mono hM) (b:=b) (by omega) (by omega) D.length n p
  simp only [Option.map_some]
  generalize (rd D b D.length n p).1=v at hv
  obtain ⟨m,bs,vs⟩:=v
  unfold VB at hv
  simp only [bytP]
  split
  ·exact hv.1
  ·exact Nat.zero_le _
section
variable {M:Nat}{D:List RuleD}{b:List UInt8}
private def tyF:=ai (ai (ai tg25 (ai tg22 tg29)) (ai (ai tg40 tg80) (ai tg81 tg125))) (ai (ai (ai tg24 tg31) (ai tg42 tg83)) (ai (ai tg3 tg4) (ai tg5 tg9)))
theorem bytS_c (hD:DB M D) (hM:M≤1048576) {s:ByteArray} (hs:s.size≤1048576):AC Tryz.prog 9 [.d (encD D),.d (encB b),.d (sD s)] none (fun r' _=>r'=bytRz (bytP D (partP D b s))):=by
 unfold partP
 cases hl:locP D b s with
 | none=>
  have HK:=kindS_n hD hM (b:=b) hs hl
  have c3:((0:Int)==3)=false:=rfl
  have c4:((0:Int)==4)=false:=rfl
  have c10:((0:Int)==10)=false:=rfl
  refine cbS Tryz.func9 rfl Tryz.call9 Tryz.ntmps9 fun en hsz hks hk0=>?_;refine enS ?_
  (repeat (first|refine ctlS ?_|(refine ol_go ?_ (fun K1 hK1=>?_);exact trS;refine evS ?_;(try simp only [c3,c4,c10]);refine hK1 _ _ ?_;clear hK1 K1)|(refine ow_go ?_ dsS (fun K1 hK1=>?_);exact trS;refine evS ?_;(try simp only [c3,c4,c10]);refine hK1 _ ?_;clear hK1 K1)|refine skipS ?_|refine cS (HK) ?_|refine aw_condT rfl ?_|refine aw_condF rfl ?_))
  (refine rtS Tryz.results9 ?_;exact ⟨_,_,.inl (toZ_tup (toZL_cons (toZ_own (by simp [lk,St.mem])) (toZL_cons toZ_d toZL_nil))),by simp,rfl⟩)
 | some y=>
  obtain ⟨n,p,q⟩:=y
  obtain ⟨hV,hb4,hn,hp⟩:=locP_some hl
  have hr:D[n]?=some D[n]:=List.getElem?_eq_getElem hn
  have HK:=kindS_y hD hM (b:=b) hs hl hr
  have hy:=fun m bs vs h=>bytP_y hr (m:=m) (bs:=bs) (vs:=vs) h
  have hno:=fun m bs vs h=>bytP_n hr (m:=m) (bs:=bs) (vs:=vs) h
  have hv:=rd_VB (hD.mono hM) (b:=b) (by omega) (by omega) D.length n p
  simp only [Option.map_some]
  generalize (rd D b D.length n p).1=v at *
  obtain ⟨m,bs,vs⟩:=v
  unfold VB at hv
  have hbs:=hv.1
  generalize D[n]=r at *
  simp only [encV,encVc] at HK
  by_cases k3:r.kind=3
  ·have c3:(r.kind==3)=true:=beq_iff_eq.2 k3
   rw [hy m bs vs (Or.inl k3)]
   refine cbS Tryz.func9 rfl Tryz.call9 Tryz.ntmps9 fun en hsz hks hk0=>?_;refine enS ?_
   (repeat (first|refine ctlS ?_|(refine ol_go ?_ (fun K1 hK1=>?_);exact trS;refine evS ?_;(try simp only [c3]);refine hK1 _ _ ?_;clear hK1 K1)|(refine ow_go ?_ dsS (fun K1 hK1=>?_);exact trS;refine evS ?_;(try simp only [c3]);refine hK1 _ ?_;clear hK1 K1)|refine skipS ?_|refine cS (HK) ?_|refine aw_condT rfl ?_|refine aw_condF rfl ?_))
   (refine rtS Tryz.results9 ?_;exact ⟨_,_,.inl (toZ_tup (toZL_cons (toZ_own (by simp [lk,St.mem])) (toZL_cons toZ_d toZL_nil))),by simp,rfl⟩)
  have c3:(r.kind==3)=false:=by rw [beq_eq_false_iff_ne];exact k3
  by_cases k4:r.kind=4
  ·have c4:(r.kind==4)=true:=beq_iff_eq.2 k4
   rw [hy m bs vs (Or.inr (Or.inl k4))]
   refine cbS Tryz.func9 rfl Tryz.call9 Tryz.ntmps9 fun en hsz hks hk0=>?_;refine enS ?_
   (repeat (first|refine ctlS ?_|(refine ol_go ?_ (fun K1 hK1=>?_);exact trS;refine evS ?_;(try simp only [c3,c4]);refine hK1 _ _ ?_;clear hK1 K1)|(refine ow_go ?_ dsS (fun K1 hK1=>?_);exact trS;refine evS ?_;(try simp only [c3,c4]);refine hK1 _ ?_;clear hK1 K1)|refine skipS ?_|refine cS (HK) ?_|refine aw_condT rfl ?_|refine aw_condF rfl ?_))
   (refine rtS Tryz.results9 ?_;exact ⟨_,_,.inl (toZ_tup (toZL_cons (toZ_own (by simp [lk,St.mem])) (toZL_cons toZ_d toZL_nil))),by simp,rfl⟩)
  have c4:(r.kind==4)=false:=by rw [beq_eq_false_iff_ne];exact k4
  by_cases k10:r.kind=10
  ·have c10:(r.kind==10)=true:=beq_iff_eq.2 k10
   rw [hy m bs vs (Or.inr (Or.inr k10))]
   refine cbS Tryz.func9 rfl Tryz.call9 Tryz.ntmps9 fun en hsz hks hk0=>?_;refine enS ?_
   (repeat (first|refine ctlS ?_|(refine ol_go ?_ (fun K1 hK1=>?_);exact trS;refine evS ?_;(try simp only [c3,c4,c10]);refine hK1 _ _ ?_;clear hK1 K1)|(refine ow_go ?_ dsS (fun K1 hK1=>?_);exact trS;refine evS ?_;(try simp only [c3,c4,c10]);refine hK1 _ ?_;clear hK1 K1)|refine skipS ?_|refine cS (HK) ?_|refine aw_condT rfl ?_|refine aw_condF rfl ?_))
   (refine rtS Tryz.results9 ?_;exact ⟨_,_,.inl (toZ_tup (toZL_cons (toZ_own (by simp [lk,St.mem])) (toZL_cons toZ_d toZL_nil))),by simp,rfl⟩)
  have c10:(r.kind==10)=false:=by rw [beq_eq_false_iff_ne];exact k10
  rw [hno m bs vs (by omega)]
  refine cbS Tryz.func9 rfl Tryz.call9 Tryz.ntmps9 fun en hsz hks hk0=>?_;refine enS ?_
  (repeat (first|refine ctlS ?_|(refine ol_go ?_ (fun K1 hK1=>?_);exact trS;refine evS ?_;(try simp only [c3,c4,c10]);refine hK1 _ _ ?_;clear hK1 K1)|(refine ow_go ?_ dsS (fun K1 hK1=>?_);exact trS;refine evS ?_;(try simp only [c3,c4,c10]);refine hK1 _ ?_;clear hK1 K1)|refine skipS ?_|refine cS (HK) ?_|refine aw_condT rfl ?_|refine aw_condF rfl ?_))
  (refine rtS Tryz.results9 ?_;exact ⟨_,_,.inl (toZ_tup (toZL_cons (toZ_own (by simp [lk,St.mem])) (toZL_cons toZ_d toZL_nil))),by simp,rfl⟩)
theorem bytI_c (hD:DB M D) (hM:M≤1048576) {s:ByteArray} (hs:s.size≤1048576):AC Tryz.prog 12 [.d (encD D),.d (encB b),.d (sD s)] none (fun r' _=>r'=bytRz (bytP D (partP D b s))):=by
 have HP:=partI_c hD hM (b:=b) hs
 unfold partP at HP ⊢
 cases hl:locP D b s with
 | none=>
  rw [hl] at HP
  have HP':AC Tryz.prog 41 [.d (encD D),.d (encB b),.d (sD s)] none (fun r' _=>r'=.d (.tup [encV V0,iD (-1),bD false])):=HP
  have n2:(!false)=true:=rfl
  refine cbS Tryz.func12 rfl Tryz.call12 Tryz.ntmps12 fun en hsz hks hk0=>?_;refine enS ?_
  (repeat (first|refine ctlS ?_|(refine ol_go ?_ (fun K1 hK1=>?_);exact trS;refine evS ?_;(try simp only [n2]);refine hK1 _ _ ?_;clear hK1 K1)|(refine ow_go ?_ dsS (fun K1 hK1=>?_);exact trS;refine evS ?_;(try simp only [n2]);refine hK1 _ ?_;clear hK1 K1)|refine skipS ?_|refine cS (HP') ?_|refine aw_condT rfl ?_|refine aw_condF rfl ?_))
  (refine rtS Tryz.results12 ?_;exact ⟨_,_,.inl (toZ_tup (toZL_cons (toZ_own (by simp [lk,St.mem])) (toZL_cons toZ_d toZL_nil))),by simp,rfl⟩)
 | some y=>
  obtain ⟨n,p,q⟩:=y
  obtain ⟨hV,hb4,hn,hp⟩:=locP_some hl
  have hr:D[n]?=some D[n]:=List.getElem?_eq_getElem hn
  rw [hl] at HP
  have HP':AC Tryz.prog 41 [.d (encD D),.d (encB b),.d (sD s)] none (fun r' _=>r'=.d (.tup [encV (rd D b D.length n p).1,iD (n:Nat),bD true])):=HP
  have hy:=fun m bs vs h=>bytP_y hr (m:=m) (bs:=bs) (vs:=vs) h
  have hno:=fun m bs vs h=>bytP_n hr (m:=m) (bs:=bs) (vs:=vs) h
  have hv:=rd_VB (hD.mono hM) (b:=b) (by omega) (by omega) D.length n p
  have n1:(!true)=false:=rfl
  simp only [Option.map_some]
  clear HP
  generalize (rd D b D.length n p).1=v at *
  obtain ⟨m,bs,vs⟩:=v
  unfold VB at hv
  have hbs:=hv.1
  generalize D[n]=r at *
  simp only [encV,encVc] at HP'
  by_cases k3:r.kind=3
  ·have c3:(r.kind==3)=true:=beq_iff_eq.2 k3
   rw [hy m bs vs (Or.inl k3)]
   refine cbS Tryz.func12 rfl Tryz.call12 Tryz.ntmps12 fun en hsz hks hk0=>?_;refine enS ?_
   (repeat (first|refine ctlS ?_|(refine ol_go ?_ (fun K1 hK1=>?_);exact trS;refine evS ?_;(try simp only [n1,c3]);refine hK1 _ _ ?_;clear hK1 K1)|(refine ow_go ?_ dsS (fun K1 hK1=>?_);exact trS;refine evS ?_;(try simp only [n1,c3]);refine hK1 _ ?_;clear hK1 K1)|refine skipS ?_|refine cS (HP') ?_|refine aw_condT rfl ?_|refine aw_condF rfl ?_))
   (refine rtS Tryz.results12 ?_;exact ⟨_,_,.inl (toZ_tup (toZL_cons (toZ_own (by simp [lk,St.mem])) (toZL_cons toZ_d toZL_nil))),by simp,rfl⟩)
  have c3:(r.kind==3)=false:=by rw [beq_eq_false_iff_ne];exact k3
  by_cases k4:r.kind=4
  ·have c4:(r.kind==4)=true:=beq_iff_eq.2 k4
   rw [hy m bs vs (Or.inr (Or.inl k4))]
   refine cbS Tryz.func12 rfl Tryz.call12 Tryz.ntmps12 fun en hsz hks hk0=>?_;refine enS ?_
   (repeat (first|refine ctlS ?_|(refine ol_go ?_ (fun K1 hK1=>?_);exact trS;refine evS ?_;(try simp only [n1,c3,c4]);refine hK1 _ _ ?_;clear hK1 K1)|(refine ow_go ?_ dsS (fun K1 hK1=>?_);exact trS;refine evS ?_;(try simp only [n1,c3,c4]);refine hK1 _ ?_;clear hK1 K1)|refine skipS ?_|refine cS (HP') ?_|refine aw_condT rfl ?_|refine aw_condF rfl ?_))
   (refine rtS Tryz.results12 ?_;exact ⟨_,_,.inl (toZ_tup (toZL_cons (toZ_own (by simp [lk,St.mem])) (toZL_cons toZ_d toZL_nil))),by simp,rfl⟩)
  have c4:(r.kind==4)=false:=by rw [beq_eq_false_iff_ne];exact k4
  by_cases k10:r.kind=10
  ·have c10:(r.kind==10)=true:=beq_iff_eq.2 k10
   rw [hy m bs vs (Or.inr (Or.inr k10))]
   refine cbS Tryz.func12 rfl Tryz.call12 Tryz.ntmps12 fun en hsz hks hk0=>?_;refine enS ?_
   (repeat (first|refine ctlS ?_|(refine ol_go ?_ (fun K1 hK1=>?_);exact trS;refine evS ?_;(try simp only [n1,c3,c4,c10]);refine hK1 _ _ ?_;clear hK1 K1)|(refine ow_go ?_ dsS (fun K1 hK1=>?_);exact trS;refine evS ?_;(try simp only [n1,c3,c4,c10]);refine hK1 _ ?_;clear hK1 K1)|refine skipS ?_|refine cS (HP') ?_|refine aw_condT rfl ?_|refine aw_condF rfl ?_))
   (refine rtS Tryz.results12 ?_;exact ⟨_,_,.inl (toZ_tup (toZL_cons (toZ_own (by simp [lk,St.mem])) (toZL_cons toZ_d toZL_nil))),by simp,rfl⟩)
  have c10:(r.kind==10)=false:=by rw [beq_eq_false_iff_ne];exact k10
  rw [hno m bs vs (by omega)]
  refine cbS Tryz.func12 rfl Tryz.call12 Tryz.ntmps12 fun en hsz hks hk0=>?_;refine enS ?_
  (repeat (first|refine ctlS ?_|(refine ol_go ?_ (fun K1 hK1=>?_);exact trS;refine evS ?_;(try simp only [n1,c3,c4,c10]);refine hK1 _ _ ?_;clear hK1 K1)|(refine ow_go ?_ dsS (fun K1 hK1=>?_);exact trS;refine evS ?_;(try simp only [n1,c3,c4,c10]);refine hK1 _ ?_;clear hK1 K1)|refine skipS ?_|refine cS (HP') ?_|refine aw_condT rfl ?_|refine aw_condF rfl ?_))
  (refine rtS Tryz.results12 ?_;exact ⟨_,_,.inl (toZ_tup (toZL_cons (toZ_own (by simp [lk,St.mem])) (toZL_cons toZ_d toZL_nil))),by simp,rfl⟩)
end
end Go.Proofs.YtecdbogicpffeaaGreatDoor.Eng
namespace Go.Proofs.YtecdbogicpffeaaGreatDoor.Eng
open Go Go.RowKit

theorem lawReadBytesAt_c {D:List RuleD} (hD:DB 9223372036854775807 D) {b:List UInt8} (hb0:b.length≤9223372036854775807) {s:ByteArray} (hs0:s.size≤9223372036854775807):AC Tryz.prog 3 [.d (encD D),.d (encB b),.d (sD s)] none (fun r' _=>r'=.d (bD true)):=by
 refine calls_bodyL Tryz.func3 rfl Tryz.call3 Tryz.ntmps3 (by simp) (by simp [ArgsOk]) fun en hsz hcok hX hks=>?_;refine enS ?_
 refine walkS ?_
 refine aw_condS rfl (fun h0=>?_) (fun h0=>?_)
 ·refine walkS ?_
  (refine rtS Tryz.results3 ?_;exact ⟨_,_,.inl ⟨rfl,rfl⟩,List.nodup_nil,rfl⟩)
 have hb:b.length≤1048576:=by omega
 refine walkS ?_
 refine aw_condS rfl (fun h00=>?_) (fun h00=>?_)
 ·refine walkS ?_
  (refine rtS Tryz.results3 ?_;exact ⟨_,_,.inl ⟨rfl,rfl⟩,List.nodup_nil,rfl⟩)
 have hs:s.size≤1048576:=by omega
 (repeat (first|refine walkS ?_|(refine callPre ?_;(first|refine callN_funS rfl (szDescription_c hD 1048576 (by omega)) ?_))|(refine callPreL ?_;(first|refine callL_funS rfl (szDescription_c hD 1048576 (by omega)) ?_))))
 refine aw_condS rfl (fun h1=>?_) (fun h1=>?_)
 ·refine walkS ?_
  (refine rtS Tryz.results3 ?_;exact ⟨_,_,.inl ⟨rfl,rfl⟩,List.nodup_nil,rfl⟩)
 have hDM:DB 1048576 D:=lftDs_ge (x:=1048576) (by omega) (by omega) (by omega)
 have hcn:=cntRs_DB hDM
 have HS:=bytS_c hDM (Nat.le_refl _) (b:=b) hs
 have HI:=bytI_c hDM (Nat.le_refl _) (b:=b) hs
 have hTl:=bytP_len hDM (Nat.le_refl _) b s
 generalize bytP D (partP D b s)=T at HS HI hTl
 obtain ⟨out,ok⟩:=T
 simp only at hTl
 (repeat (first|refine walkS ?_|refine cS (toByteS_c hb) ?_|(refine callPre ?_;(first|refine callN_funS rfl (toDescription_c hDM (Nat.le_refl _)) ?_))|(refine callPreL ?_;(first|refine callL_funS rfl (toDescription_c hDM (Nat.le_refl _)) ?_))))
 (refine ow_callDA [] [] ?_ dsS rfl (ACD.iv (HS.acd (bytRz_ok _)) ?_) (fun n hn=>?_);exact trS;(repeat (first|exact IvL.nil|refine IvL.iv ?_|refine IvL.agg1 ?_|refine IvL.aggV ?_|refine IvL.agg3 ?_|refine IvL.same ?_));simp (decide:=true) only [St.bound,boundA_iv,boundA_sl,boundA_B,boundA_I,boundA_S,boundA_Ds,boundA_v,St.f,lk,St.set,rzI,rzIL,reduceIte,List.map_cons,List.map_nil,List.cons_append,List.nil_append,Option.map_some,Option.map_none])
 refine walkS ?_
 (refine ow_callDA [1,2,8] [16] ?_ dsS rfl (ACD.iv ((toDescription_n hDM (Nat.le_refl _)).acd) ?_) (fun n hn=>?_);exact trS;(repeat (first|exact IvL.nil|refine IvL.iv ?_|refine IvL.agg1 ?_|refine IvL.aggV ?_|refine IvL.agg3 ?_|refine IvL.same ?_));simp (decide:=true) only [St.bound,boundA_iv,boundA_sl,boundA_B,boundA_I,boundA_S,boundA_Ds,boundA_v,St.f,lk,St.set,rzI,rzIL,reduceIte,List.map_cons,List.map_nil,List.cons_append,List.nil_append,Option.map_some,Option.map_none])
 refine walkS ?_
 (refine ow_callDA [1,2,8] [16,80] ?_ dsS rfl (ACD.iv ((toByteS_i hb).acd) ?_) (fun n hn=>?_);exact trS;(repeat (first|exact IvL.nil|refine IvL.iv ?_|refine IvL.agg1 ?_|refine IvL.aggV ?_|refine IvL.agg3 ?_|refine IvL.same ?_));simp (decide:=true) only [St.bound,boundA_iv,boundA_sl,boundA_B,boundA_I,boundA_S,boundA_Ds,boundA_v,St.f,lk,St.set,rzI,rzIL,reduceIte,List.map_cons,List.map_nil,List.cons_append,List.nil_append,Option.map_some,Option.map_none])
 refine walkS ?_
 (refine ow_callDA [1,2,8,11] [16,80] ?_ dsS rfl (ACD.iv (HI.acd (bytRz_ok _)) ?_) (fun n hn=>?_);exact trS;(repeat (first|exact IvL.nil|refine IvL.iv ?_|refine IvL.agg1 ?_|refine IvL.aggV ?_|refine IvL.agg3 ?_|refine IvL.same ?_));simp (decide:=true) only [St.bound,boundA_iv,boundA_sl,boundA_B,boundA_I,boundA_S,boundA_Ds,boundA_v,St.f,lk,St.set,rzI,rzIL,reduceIte,List.map_cons,List.map_nil,List.cons_append,List.nil_append,Option.map_some,Option.map_none])
 (repeat (first|refine walkS ?_|(refine callPre ?_;(first|refine callN_funS rfl (AC.iv (eqByteS_c (l:=out) (by omega))) ?_))|(refine callPreL ?_;(first|refine callL_funS rfl (AC.iv (eqByteS_c (l:=out) (by omega))) ?_))))
 refine aw_condS rfl (fun h2=>?_) (fun h2=>?_)
 ·(first|exact absurd trivial h2|exact absurd rfl h2|(cases h2;done)|omega|exact absurd h2 (by decide)|(simp at h2;done))
 (repeat (first|refine walkS ?_|(refine callPre ?_;(first|refine callN_funS rfl (AC.iv (toDescription_c hDM (Nat.le_refl _))) ?_|refine callN_funS rfl (AC.iv (eqDescription_c hDM (Nat.le_refl _))) ?_))|(refine callPreL ?_;(first|refine callL_funS rfl (AC.iv (toDescription_c hDM (Nat.le_refl _))) ?_|refine callL_funS rfl (AC.iv (eqDescription_c hDM (Nat.le_refl _))) ?_))))
 refine aw_condS rfl (fun h3=>?_) (fun h3=>?_)
 ·(first|exact absurd trivial h3|exact absurd rfl h3|(cases h3;done)|omega|exact absurd h3 (by decide)|(simp at h3;done))
 (repeat (first|refine walkS ?_|(refine callPre ?_;(first|refine callN_funS rfl (AC.iv (toByteS_c hb)) ?_|refine callN_funS rfl (AC.iv (eqByteS_c hb)) ?_))|(refine callPreL ?_;(first|refine callL_funS rfl (AC.iv (toByteS_c hb)) ?_|refine callL_funS rfl (AC.iv (eqByteS_c hb)) ?_))))
 refine aw_condS rfl (fun h4=>?_) (fun h4=>?_)
 ·(first|exact absurd trivial h4|exact absurd rfl h4|(cases h4;done)|omega|exact absurd h4 (by decide)|(simp at h4;done))
 refine walkS ?_
 (refine ow_mark [1,2,3,8,9,11,12,13,14] [16] ?_ dsS rfl rfl rfl ⟨markD_1 (by omega),on_agg1,hcok,(by intro b h;(try dsimp only at h);omega),(by (repeat (refine And.intro (by first|exact Safe.v|exact Safe.ptr|exact Safe.iv (by intro b h1 h2;(try dsimp only at h1 h2);omega)|exact Safe.top) ?_));exact trivial),(by (repeat (refine And.intro (by intro cs hcs;cases hcs;(repeat (refine And.intro (by first|exact Safe.v|exact Safe.ptr|exact Safe.iv (by intro b h1 h2;(try dsimp only at h1 h2);omega)|exact Safe.top) ?_));exact trivial) ?_));exact trivial)⟩ ?_;exact trS;simp (decide:=true) only [St.keep,St.f,lk,St.set,reduceIte,List.map_cons,List.map_nil,List.cons_append,List.nil_append])
 refine walkS ?_
 (refine ow_mark [1,2,3,8,9,12,13,14] [16] ?_ dsS rfl rfl rfl ⟨markB_m (l:=b) (by omega) (by omega),on_iv,hcok,(by intro b h;(try dsimp only at h);omega),(by (repeat (refine And.intro (by first|exact Safe.v|exact Safe.ptr|exact Safe.iv (by intro b h1 h2;(try dsimp only at h1 h2);omega)|exact Safe.top) ?_));exact trivial),(by (repeat (refine And.intro (by intro cs hcs;cases hcs;(repeat (refine And.intro (by first|exact Safe.v|exact Safe.ptr|exact Safe.iv (by intro b h1 h2;(try dsimp only at h1 h2);omega)|exact Safe.top) ?_));exact trivial) ?_));exact trivial)⟩ ?_;exact trS;simp (decide:=true) only [St.keep,St.f,lk,St.set,reduceIte,List.map_cons,List.map_nil,List.cons_append,List.nil_append])
 have e1:decide (1+(cntRs D:Int)+b.length<0)=false:=decide_eq_false (by omega)
 (repeat (first|refine ctlS ?_|(refine ol_go ?_ (fun K1 hK1=>?_);exact trS;refine evS ?_;(try simp only [e1]);refine hK1 _ _ ?_;clear hK1 K1)|(refine ow_go ?_ dsS (fun K1 hK1=>?_);exact trS;refine evS ?_;(try simp only [e1]);refine hK1 _ ?_;clear hK1 K1)|refine skipS ?_|(refine callPre ?_;(first|refine callN_funS rfl (AC.iv (eqByteS_c (l:=out) (by omega))) ?_))|(refine callPreL ?_;(first|refine callL_funS rfl (AC.iv (eqByteS_c (l:=out) (by omega))) ?_))))
 refine aw_condS rfl (fun h5=>?_) (fun h5=>?_)
 ·(first|exact absurd trivial h5|exact absurd rfl h5|(cases h5;done)|omega|exact absurd h5 (by decide)|(simp at h5;done))
 (iterate 7 (first|refine aw_seq ?_|refine aw_region ?_|refine aw_block ?_|(refine aw_exit ?_;(try simp (decide:=true) only [reduceIte]))|(refine aw_skip ?_;try dsimp only)|(refine aw_any (by kernel_rfl) (by kernel_rfl) (by simp only [hsz];kernel_rfl) ?_)|(refine ow_nil ?_;try dsimp only)|(refine ol_go ?_ (fun K1 hK1=>?_);exact trS;refine evS ?_;refine hK1 _ _ ?_;clear hK1 K1)|(refine ol_skip rfl rfl ?_ ?_;(focus (intro hne;cases hne;done));simp only [St.set])|(refine ol_nil ⟨by kernel_rfl,?_⟩;try dsimp only)|(refine ow_go ?_ dsS (fun K1 hK1=>?_);exact trS;refine evS ?_;refine hK1 _ ?_;clear hK1 K1)|(refine ow_skip rfl rfl ?_ dsS ?_;(focus (intro hne;cases hne;done));simp only [St.set])))
 (refine ow_mark3 [1,2,3,8,9] [16] rfl rfl rfl rfl rfl rfl rfl rfl (by rw [hsz];decide) (by rw [hsz];decide) (by rw [hsz];decide) (by decide) rfl rfl rfl ⟨markB_x (l:=out) (k:=1) (by omega) (by omega),on_iv,hcok,(by intro b h;(try dsimp only at h);omega),(by (repeat (refine And.intro (by first|exact Safe.v|exact Safe.ptr|exact Safe.iv (by intro b h1 h2;(try dsimp only at h1 h2);omega)|exact Safe.top) ?_));exact trivial),(by (repeat (refine And.intro (by intro cs hcs;cases hcs;(repeat (refine And.intro (by first|exact Safe.v|exact Safe.ptr|exact Safe.iv (by intro b h1 h2;(try dsimp only at h1 h2);omega)|exact Safe.top) ?_));exact trivial) ?_));exact trivial)⟩ ?_;simp (decide:=true) only [St.keep,St.f,lk,St.set,reduceIte,List.map_cons,List.map_nil,List.cons_append,List.nil_append])
 have HH:=heldB_c (k:=1) (n:=out.length) (by omega) (by omega)
 (repeat (first|refine walkS ?_|(refine callPre ?_;(first|refine callN_funS rfl (AC.iv HH) ?_))|(refine callPreL ?_;(first|refine callL_funS rfl (AC.iv HH) ?_))))
 refine aw_condS rfl (fun h6=>?_) (fun h6=>?_)
 ·(first|exact absurd trivial h6|exact absurd rfl h6|(cases h6;done)|omega|exact absurd h6 (by decide)|(simp at h6;done))
 refine walkS ?_
 refine aw_condS rfl (fun h7=>?_) (fun h7=>?_)
 ·(first|exact absurd trivial h7|exact absurd rfl h7|(cases h7;done)|omega|exact absurd h7 (by decide)|(simp at h7;done))
 (repeat (first|refine walkS ?_|refine cS (HI) ?_|(refine callPre ?_;(first|refine callN_funS rfl (AC.iv (toDescription_c hDM (Nat.le_refl _))) ?_|refine callN_funS rfl (AC.iv (toByteS_c hb)) ?_))|(refine callPreL ?_;(first|refine callL_funS rfl (AC.iv (toDescription_c hDM (Nat.le_refl _))) ?_|refine callL_funS rfl (AC.iv (toByteS_c hb)) ?_))))
 (repeat (first|refine walkS ?_|(refine callPre ?_;(first|refine callN_funS rfl (AC.iv (eqByteS_c (l:=out) (by omega))) ?_))|(refine callPreL ?_;(first|refine callL_funS rfl (AC.iv (eqByteS_c (l:=out) (by omega))) ?_))))
 refine aw_condS rfl (fun h8=>?_) (fun h8=>?_)
 ·(first|exact absurd trivial h8|exact absurd rfl h8|(cases h8;done)|omega|exact absurd h8 (by decide)|(simp at h8;done))
 (repeat (first|refine walkS ?_|(refine callPre ?_;(first|refine callN_funS rfl (AC.iv HH) ?_))|(refine callPreL ?_;(first|refine callL_funS rfl (AC.iv HH) ?_))))
 refine aw_condS rfl (fun h9=>?_) (fun h9=>?_)
 ·(first|exact absurd trivial h9|exact absurd rfl h9|(cases h9;done)|omega|exact absurd h9 (by decide)|(simp at h9;done))
 refine walkS ?_
 refine aw_condS rfl (fun h10=>?_) (fun h10=>?_)
 ·(first|exact absurd trivial h10|exact absurd rfl h10|(cases h10;done)|omega|exact absurd h10 (by decide)|(simp at h10;done))
 ·refine walkS ?_
  (refine rtS Tryz.results3 ?_;exact ⟨_,_,.inl ⟨rfl,rfl⟩,List.nodup_nil,rfl⟩)
end Go.Proofs.YtecdbogicpffeaaGreatDoor.Eng
