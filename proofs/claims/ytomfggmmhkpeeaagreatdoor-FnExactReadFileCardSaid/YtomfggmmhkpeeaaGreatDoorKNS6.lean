/-
 The program's reader: what is checked, in blocks of its own.
-/
import Derived.Test.YtomfggmmhkpeeaaGreatDoorKNS3
import Derived.Test.YtomfggmmhkpeeaaGreatDoorKNH
set_option linter.unusedSimpArgs false
set_option linter.unusedVariables false
set_option linter.defProp false
set_option maxRecDepth 100000
set_option maxHeartbeats 4000000
namespace Go.Proofs.YtomfggmmhkpeeaaGreatDoor.Eng
open Go Go.RowKit

section
variable {M:Nat}{D:List RuleD}{b:List UInt8}
private def tyF:=ai (ai (ai (ai tg25 tg27) (ai tg32 tg86)) (ai (ai tg87 tg29) (ai tg34 (ai tg59 tg89)))) (ai (ai (ai tg3 tg4) (ai tg5 tg57)) (ai (ai tg61 tg9) (ai encWi_len (ai mkAgg_W cells1_W))))
theorem checkedW_c (hD:DB M D) (hM:M≤1048576) (hb:b.length≤1048576) {f:Nat} (H:RdOKW D b f) {n:Nat}{r:RuleD} (hr:D[n]?=some r) (hn:n≤f) (G:GoodR D n r) (hk:r.kind=9) (p:Nat) (hp:p≤b.length):RdCW D b 71 [.d (frD D b),.d (encR r),.d (iD p)] (rd D b (f+1) n p):=by
 have hrb:=hD.rule r (List.mem_of_getElem? hr)
 have g1:=G.k9 hk
 have hrd:=ruleD_get hr
 have hnl:n<D.length:=(List.getElem?_eq_some_iff.1 hr).1
 have HI:=itemsW_k H 0 r.kids (by omega) (fun i hi=>by have:=G.kid i hi;omega) p hp
 have e:r.kids.map Int.toNat=[(kid0 r).toNat]:=by
  match hq:r.kids,g1 with
  | [y],_=>simp [kid0,hq]
 rw [e] at HI
 have hin:=mkItems_in (n:=0) (rdItems_in (fun k p hp=>rd_in D b f k p hp) [(kid0 r).toNat] p hp)
 have ham:=atItems_mk (f:=rd D b f) (ks:=[(kid0 r).toNat]) (n:=0) (p:=p)
 generalize atItems (rd D b f) [(kid0 r).toNat] p=am at *
 cases hm:mkItems 0 (rdItems (rd D b f) [(kid0 r).toNat] p) with
 | mk v y=>
  obtain ⟨q,c⟩:=y
  rw [hm] at HI hin ham
  obtain ⟨hin1,hin2⟩:=hin
  simp only at hin1 hin2 ham
  by_cases hc0:c=0
  ·subst hc0
   obtain rfl:=ham rfl
   have hanti:=rdW_anti v (iD am) nilE
   replace HI:ACN Tryz.prog 68 [.d (frD D b),.d (V0d 0),.d (encI r.kids),.d (iD p)] (fun n0=>.tup [.agg (encWi (fun b=>n0≤b) v),iD am,nilE]):=HI
   have HT:=take_c (D:=D) hb am hin2 1 ⟨by omega,by omega⟩
   cases hq:b[am]? with
   | none=>
    have hpl:b.length≤am:=List.getElem?_eq_none_iff.1 hq
    rw [rd_9n hrd hk hm hq]
    rw [if_pos (by omega)] at HT
    refine ⟨p,fun h=>(by cases h),?_⟩
    refine calls_bodyI Tryz.func71 rfl Tryz.call71 Tryz.ntmps71 (by simp) (by simp [ArgsOk]) fun en hsz hcok hX hks=>?_;refine enS ?_
    (repeat (first|refine walkS ?_|(refine ow_callFA ?_ dsS rfl (HI) ?_;exact trS;simp only [St.set,List.map_cons,List.map_nil])|(refine ol_callN ?_ rfl (HI) ?_;exact trS;simp only [St.set,List.map_cons,List.map_nil])))
    refine aw_condS rfl (fun hc=>?_) (fun hc=>?_)
    ·(first|exact absurd trivial hc|exact absurd rfl hc|(cases hc;done)|omega|exact absurd hc (by decide)|(simp at hc;done))
    (repeat (first|refine walkS ?_|refine cS (HT) ?_))
    refine aw_condS rfl (fun hc=>?_) (fun hc=>?_)
    ·refine walkS ?_
     (refine rtS Tryz.results71 ?_;refine ⟨_,[],.inr (.inr ⟨.tup [.agg [iD 0,.iv (fun b=>en.w.heap.size≤b) (encB []),.iv (fun b=>en.w.heap.size≤b) (.sp 3 [])],iD (p:Nat),erD am 1],_,rfl,rfl,rfl,?_⟩),List.nodup_nil,rfl⟩;exact semS)
    ·(first|exact absurd trivial hc|exact absurd rfl hc|(cases hc;done)|omega|exact absurd hc (by decide)|(simp at hc;done))
   | some s=>
    have hpl:=get_lt hq
    have hle:=u8le s
    rw [if_neg (by omega)] at HT
    have hi:(List.take (Int.toNat 1) (List.drop am b))[0]?=some s:=by rw [List.getElem?_take_of_lt (by decide),List.getElem?_drop,Nat.add_zero,hq]
    by_cases hs:s.toNat=sumB ((b.drop p).take (am - p))
    ·rw [rd_9s hrd hk hm hq hs]
     refine ⟨am+1,fun _=>rfl,?_⟩
     refine calls_bodyI Tryz.func71 rfl Tryz.call71 Tryz.ntmps71 (by simp) (by simp [ArgsOk]) fun en hsz hcok hX hks=>?_;refine enS ?_
     (repeat (first|refine walkS ?_|(refine ow_callFA ?_ dsS rfl (HI) ?_;exact trS;simp only [St.set,List.map_cons,List.map_nil])|(refine ol_callN ?_ rfl (HI) ?_;exact trS;simp only [St.set,List.map_cons,List.map_nil])))
     refine aw_condS rfl (fun hc=>?_) (fun hc=>?_)
     ·(first|exact absurd trivial hc|exact absurd rfl hc|(cases hc;done)|omega|exact absurd hc (by decide)|(simp at hc;done))
     (repeat (first|refine walkS ?_|refine cS (HT) ?_))
     refine aw_condS rfl (fun hc=>?_) (fun hc=>?_)
     ·(first|exact absurd trivial hc|exact absurd rfl hc|(cases hc;done)|omega|exact absurd hc (by decide)|(simp at hc;done))
     (repeat (first|refine walkS ?_|(refine callPre ?_;(first|refine callN_funS rfl ((sumI_c (l:=List.take (am - p) (List.drop p b)) (by simp;omega))) ?_))|(refine callPreL ?_;(first|refine callL_funS rfl ((sumI_c (l:=List.take (am - p) (List.drop p b)) (by simp;omega))) ?_))))
     refine aw_condS rfl (fun hc=>?_) (fun hc=>?_)
     ·omega
     ·refine walkS ?_
      (refine rtS Tryz.results71 ?_;refine ⟨_,[],.inr (.inr ⟨.tup [.agg (encWi (fun b=>en.w.heap.size≤b) v),iD ((am:Int)+1),nilE],_,rfl,rfl,rfl,?_⟩),List.nodup_nil,rfl⟩;exact semS)
    ·rw [rd_9f hrd hk hm hq hs]
     refine ⟨p,fun h=>(by cases h),?_⟩
     refine calls_bodyI Tryz.func71 rfl Tryz.call71 Tryz.ntmps71 (by simp) (by simp [ArgsOk]) fun en hsz hcok hX hks=>?_;refine enS ?_
     (repeat (first|refine walkS ?_|(refine ow_callFA ?_ dsS rfl (HI) ?_;exact trS;simp only [St.set,List.map_cons,List.map_nil])|(refine ol_callN ?_ rfl (HI) ?_;exact trS;simp only [St.set,List.map_cons,List.map_nil])))
     refine aw_condS rfl (fun hc=>?_) (fun hc=>?_)
     ·(first|exact absurd trivial hc|exact absurd rfl hc|(cases hc;done)|omega|exact absurd hc (by decide)|(simp at hc;done))
     (repeat (first|refine walkS ?_|refine cS (HT) ?_))
     refine aw_condS rfl (fun hc=>?_) (fun hc=>?_)
     ·(first|exact absurd trivial hc|exact absurd rfl hc|(cases hc;done)|omega|exact absurd hc (by decide)|(simp at hc;done))
     (repeat (first|refine walkS ?_|(refine callPre ?_;(first|refine callN_funS rfl ((sumI_c (l:=List.take (am - p) (List.drop p b)) (by simp;omega))) ?_))|(refine callPreL ?_;(first|refine callL_funS rfl ((sumI_c (l:=List.take (am - p) (List.drop p b)) (by simp;omega))) ?_))))
     refine aw_condS rfl (fun hc=>?_) (fun hc=>?_)
     ·(repeat (first|refine walkS ?_|refine cS (fail_c am 5) ?_))
      (refine rtS Tryz.results71 ?_;refine ⟨_,[],.inr (.inr ⟨.tup [.agg [iD 0,.iv (fun b=>en.w.heap.size≤b) (encB []),.iv (fun b=>en.w.heap.size≤b) (.sp 3 [])],iD (p:Nat),erD am 5],_,rfl,rfl,rfl,?_⟩),List.nodup_nil,rfl⟩;exact semS)
     ·omega
  ·rw [rd_9e hrd hk hm hc0]
   have hv:v=V0:=by
    unfold mkItems at hm
    split at hm
    ·simp only [Prod.mk.injEq] at hm;omega
    ·simp only [Prod.mk.injEq] at hm;exact hm.1.symm
   subst hv
   have hanti:=rdW_anti V0 (iD am) (erD q c)
   replace HI:ACN Tryz.prog 68 [.d (frD D b),.d (V0d 0),.d (encI r.kids),.d (iD p)] (fun n0=>.tup [.agg (encWi (fun b=>n0≤b) V0),iD am,erD q c]):=by rw [rdW_p hc0] at HI;exact HI
   refine ⟨p,fun h=>absurd h hc0,?_⟩
   refine calls_bodyI Tryz.func71 rfl Tryz.call71 Tryz.ntmps71 (by simp) (by simp [ArgsOk]) fun en hsz hcok hX hks=>?_;refine enS ?_
   (repeat (first|refine walkS ?_|(refine ow_callFA ?_ dsS rfl (HI) ?_;exact trS;simp only [St.set,List.map_cons,List.map_nil])|(refine ol_callN ?_ rfl (HI) ?_;exact trS;simp only [St.set,List.map_cons,List.map_nil])))
   refine aw_condS rfl (fun hc=>?_) (fun hc=>?_)
   ·refine walkS ?_
    (refine rtS Tryz.results71 ?_;refine ⟨_,[],.inr (.inr ⟨.tup [.agg [iD 0,.iv (fun b=>en.w.heap.size≤b) (encB []),.iv (fun b=>en.w.heap.size≤b) (.sp 3 [])],iD (p:Nat),erD q c],_,rfl,rfl,rfl,?_⟩),List.nodup_nil,by simp only [rdW,eD_p hc0];rfl⟩;exact semS)
   ·(first|exact absurd trivial hc|exact absurd rfl hc|(cases hc;done)|omega|exact absurd hc (by decide)|(simp at hc;done))
end
end Go.Proofs.YtomfggmmhkpeeaaGreatDoor.Eng
