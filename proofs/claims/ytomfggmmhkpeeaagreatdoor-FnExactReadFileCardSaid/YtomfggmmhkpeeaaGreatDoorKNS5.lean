/-
 The program's reader: options, in blocks of their own.
-/
import Derived.Test.YtomfggmmhkpeeaaGreatDoorKNS3
import Derived.Test.YtomfggmmhkpeeaaGreatDoorKNH
set_option linter.unusedSimpArgs false
set_option linter.unusedVariables false
set_option linter.defProp false
set_option maxRecDepth 100000
set_option maxHeartbeats 4000000
namespace Go.Proofs.YtomfggmmhkpeeaaGreatDoor.Eng
open Go Go.RowKit

section
variable {M:Nat}{D:List RuleD}{b:List UInt8}
private def tyF:=ai (ai (ai tg25 (ai tg27 tg86)) (ai (ai tg87 tg29) (ai tg89 tg3))) (ai (ai (ai tg4 tg5) (ai tg57 tg61)) (ai (ai tg9 encWi_len) (ai mkAgg_W cells1_W)))
theorem optionW_c (hD:DB M D) (hM:M≤1048576) (hb:b.length≤1048576) {f:Nat} (H:RdOKW D b f) {n:Nat}{r:RuleD} (hr:D[n]?=some r) (hn:n≤f) (G:GoodR D n r) (hk:r.kind=8) (p:Nat) (hp:p≤b.length):RdCW D b 70 [.d (frD D b),.d (encR r),.d (iD p)] (rd D b (f+1) n p):=by
 have hrb:=hD.rule r (List.mem_of_getElem? hr)
 have g1:=G.k8 hk
 have hrd:=ruleD_get hr
 have hnl:n<D.length:=(List.getElem?_eq_some_iff.1 hr).1
 have HT:=take_c (D:=D) hb p hp 1 ⟨by omega,by omega⟩
 cases hc0:b[p]? with
 | none=>
  have hpl:b.length≤p:=List.getElem?_eq_none_iff.1 hc0
  rw [rd_8n hrd hk hc0]
  rw [if_pos (by omega)] at HT
  refine ⟨p,fun h=>(by cases h),?_⟩
  refine calls_bodyI Tryz.func70 rfl Tryz.call70 Tryz.ntmps70 (by simp) (by simp [ArgsOk]) fun en hsz hcok hX hks=>?_;refine enS ?_
  (repeat (first|refine walkS ?_|refine cS (HT) ?_))
  refine aw_condS rfl (fun hc=>?_) (fun hc=>?_)
  ·refine walkS ?_
   (refine rtS Tryz.results70 ?_;refine ⟨_,[],.inr (.inr ⟨.tup [.agg [iD 0,.iv (fun b=>en.w.heap.size≤b) (encB []),.iv (fun b=>en.w.heap.size≤b) (.sp 3 [])],iD (p:Nat),erD p 1],_,rfl,rfl,rfl,?_⟩),List.nodup_nil,rfl⟩;exact semS)
  ·(first|exact absurd trivial hc|exact absurd rfl hc|(cases hc;done)|omega|exact absurd hc (by decide)|(simp at hc;done))
 | some c=>
  have hpl:=get_lt hc0
  have hle:=u8le c
  rw [if_neg (by omega)] at HT
  have hi:(List.take (Int.toNat 1) (List.drop p b))[0]?=some c:=by rw [List.getElem?_take_of_lt (by decide),List.getElem?_drop,Nat.add_zero,hc0]
  by_cases h1:1<c.toNat
  ·rw [rd_8f hrd hk hc0 h1]
   refine ⟨p,fun h=>(by cases h),?_⟩
   refine calls_bodyI Tryz.func70 rfl Tryz.call70 Tryz.ntmps70 (by simp) (by simp [ArgsOk]) fun en hsz hcok hX hks=>?_;refine enS ?_
   (repeat (first|refine walkS ?_|refine cS (HT) ?_))
   refine aw_condS rfl (fun hc=>?_) (fun hc=>?_)
   ·(first|exact absurd trivial hc|exact absurd rfl hc|(cases hc;done)|omega|exact absurd hc (by decide)|(simp at hc;done))
   refine walkS ?_
   refine aw_condS rfl (fun hc=>?_) (fun hc=>?_)
   ·(repeat (first|refine walkS ?_|refine cS (fail_c p 4) ?_))
    (refine rtS Tryz.results70 ?_;refine ⟨_,[],.inr (.inr ⟨.tup [.agg [iD 0,.iv (fun b=>en.w.heap.size≤b) (encB []),.iv (fun b=>en.w.heap.size≤b) (.sp 3 [])],iD (p:Nat),erD p 4],_,rfl,rfl,rfl,?_⟩),List.nodup_nil,rfl⟩;exact semS)
   ·omega
  ·have hfin:=rd_8s (f:=f) hrd hk hc0 h1
   by_cases h0:c.toNat=0
   ·rw [h0] at hfin
    rw [hfin]
    refine ⟨p+1,fun _=>rfl,?_⟩
    refine calls_bodyI Tryz.func70 rfl Tryz.call70 Tryz.ntmps70 (by simp) (by simp [ArgsOk]) fun en hsz hcok hX hks=>?_;refine enS ?_
    (repeat (first|refine walkS ?_|refine cS (HT) ?_))
    refine aw_condS rfl (fun hc=>?_) (fun hc=>?_)
    ·(first|exact absurd trivial hc|exact absurd rfl hc|(cases hc;done)|omega|exact absurd hc (by decide)|(simp at hc;done))
    refine walkS ?_
    refine aw_condS rfl (fun hc=>?_) (fun hc=>?_)
    ·omega
    refine walkS ?_
    refine aw_condS rfl (fun hc=>?_) (fun hc=>?_)
    ·refine walkS ?_
     (refine rtS Tryz.results70 ?_;refine ⟨_,[],.inr (.inr ⟨.tup [.agg [iD 0,.iv (fun b=>en.w.heap.size≤b) (encB []),.iv (fun b=>en.w.heap.size≤b) (.sp 3 [])],iD ((p:Int)+1),nilE],_,rfl,rfl,rfl,?_⟩),List.nodup_nil,rfl⟩;exact semS)
    ·omega
   ·rw [show c.toNat=1 by omega] at hfin
    obtain ⟨x,ex,hx⟩:=kid_nat G (by omega)
    have HI:=itemsW_k H 0 r.kids (by omega) (fun i hi=>by have:=G.kid i hi;omega) (p+1) (by omega)
    have e:r.kids.map Int.toNat=List.replicate 1 (kid0 r).toNat:=by
     match hq:r.kids,g1 with
     | [y],_=>simp [kid0,hq]
    rw [e] at HI
    rw [hfin]
    refine ⟨_,atItems_mk,?_⟩
    generalize atItems (rd D b f) (List.replicate 1 (kid0 r).toNat) (p+1)=am at *
    generalize mkItems 0 (rdItems (rd D b f) (List.replicate 1 (kid0 r).toNat) (p+1))=y at *
    refine calls_bodyI Tryz.func70 rfl Tryz.call70 Tryz.ntmps70 (by simp) (by simp [ArgsOk]) fun en hsz hcok hX hks=>?_;refine enS ?_
    (repeat (first|refine walkS ?_|refine cS (HT) ?_))
    refine aw_condS rfl (fun hc=>?_) (fun hc=>?_)
    ·(first|exact absurd trivial hc|exact absurd rfl hc|(cases hc;done)|omega|exact absurd hc (by decide)|(simp at hc;done))
    refine walkS ?_
    refine aw_condS rfl (fun hc=>?_) (fun hc=>?_)
    ·omega
    refine walkS ?_
    refine aw_condS rfl (fun hc=>?_) (fun hc=>?_)
    ·omega
    have hanti:=rdW_anti y.1 (iD am) (eD y.2.1 y.2.2)
    (repeat (first|refine walkS ?_|(refine ow_callFA ?_ dsS rfl (HI) ?_;exact trS;simp only [St.set,List.map_cons,List.map_nil])|(refine ol_callN ?_ rfl (HI) ?_;exact trS;simp only [St.set,List.map_cons,List.map_nil])))
    (refine rtS Tryz.results70 ?_;refine ⟨_,[],.inr (.inr ⟨.tup [.agg (encWi (fun b=>en.w.heap.size≤b) y.1),iD am,eD y.2.1 y.2.2],_,rfl,rfl,rfl,?_⟩),List.nodup_nil,rfl⟩;exact semS)
end
end Go.Proofs.YtomfggmmhkpeeaaGreatDoor.Eng
