/-
 The program's reader: a value of a rule, in blocks of its own.
-/
import Derived.Test.YtomfggmmhkpeeaaGreatDoorKNS4
import Derived.Test.YtomfggmmhkpeeaaGreatDoorKNS5
import Derived.Test.YtomfggmmhkpeeaaGreatDoorKNS6
import Derived.Test.YtomfggmmhkpeeaaGreatDoorKL
import Derived.Test.YtomfggmmhkpeeaaGreatDoorKE6
set_option linter.unusedSimpArgs false
set_option linter.unusedVariables false
set_option linter.defProp false
set_option maxRecDepth 100000
set_option maxHeartbeats 4000000
namespace Go.Proofs.YtomfggmmhkpeeaaGreatDoor.Eng
open Go Go.RowKit

section
variable {M:Nat}{D:List RuleD}{b:List UInt8}
theorem ownC_ok (e:TypeId) (bs:List UInt8) {q:Int}{y:Eng.D}:rzOk (.tup [.agg [.d (iD 0),.own e 1 (bs.map fun c=>[uD c]),.d (.v (.slice none 0 0))],.d (iD q),.d y]):=by
 simp only [rzOk,rzOkL,and_true,true_and]
 exact flat_map _ _
private def tyF:=ai (ai (ai (ai tg25 tg27) (ai tg32 tg86)) (ai (ai tg87 tg29) (ai tg34 (ai tg59 tg89)))) (ai (ai (ai tg3 tg4) (ai tg5 tg57)) (ai (ai tg61 tg9) (ai encWi_len (ai mkAgg_W cells1_W))))
theorem valueW_step (hD:DB M D) (hM:M≤1048576) (hb:b.length≤1048576) (hV:descP D) {f:Nat} (H:RdOKW D b f):RdOKW D b (f+1):=fun n p hnf hnl hp=>by
 obtain ⟨r,hr⟩:∃ r,D[n]?=some r:=⟨_,List.getElem?_eq_getElem hnl⟩
 have G:GoodR D n r:=good_of hV hr
 have hrb:=hD.rule r (List.mem_of_getElem? hr)
 have hrd:=ruleD_get hr
 have hn:n≤f:=by omega
 have hlk:=hrb.lk
 obtain ⟨kd1,kd2⟩:=G.kd
 have hex:∃ m:Nat,((rd D b (f+1) n p).2.2=0→m=(rd D b (f+1) n p).2.1)∧((r.kind=1∨r.kind=3∨r.kind=4∨r.kind=10)→m=(rd D b (f+1) n p).2.1)∧(r.kind=2→m=if (rd D b (f+1) n p).2.2=0 then (rd D b (f+1) n p).2.1 else p)∧
   (r.kind=5→ACN Tryz.prog 67 [.d (frD D b),.d (encR r),.d (iD p)] (rdW m (rd D b (f+1) n p)))∧
   (r.kind=6→ACN Tryz.prog 68 [.d (frD D b),.d (V0d 0),.d (encI r.kids),.d (iD p)] (rdW m (rd D b (f+1) n p)))∧
   (r.kind=7→ACN Tryz.prog 69 [.d (frD D b),.d (encR r),.d (iD p)] (rdW m (rd D b (f+1) n p)))∧
   (r.kind=8→ACN Tryz.prog 70 [.d (frD D b),.d (encR r),.d (iD p)] (rdW m (rd D b (f+1) n p)))∧
   (r.kind=9→ACN Tryz.prog 71 [.d (frD D b),.d (encR r),.d (iD p)] (rdW m (rd D b (f+1) n p))):=by
  by_cases h5:r.kind=5
  ·obtain ⟨m,e1,e2⟩:=arrayW_c hD hM hb H hr hn G h5 p hp
   exact ⟨m,e1,by omega,by omega,fun _=>e2,by omega,by omega,by omega,by omega⟩
  by_cases h6:r.kind=6
  ·have e2:=itemsW_k H 0 r.kids (by omega) (fun i hi=>by have:=G.kid i hi;omega) p hp
   have e1:=atItems_mk (f:=rd D b f) (ks:=r.kids.map Int.toNat) (n:=0) (p:=p)
   rw [←rd_6 hrd h6] at e1 e2
   exact ⟨_,e1,by omega,by omega,by omega,fun _=>e2,by omega,by omega,by omega⟩
  by_cases h7:r.kind=7
  ·obtain ⟨m,e1,e2⟩:=choiceW_c hD hM hb H hr hn G h7 p hp
   exact ⟨m,e1,by omega,by omega,by omega,by omega,fun _=>e2,by omega,by omega⟩
  by_cases h8:r.kind=8
  ·obtain ⟨m,e1,e2⟩:=optionW_c hD hM hb H hr hn G h8 p hp
   exact ⟨m,e1,by omega,by omega,by omega,by omega,by omega,fun _=>e2,by omega⟩
  by_cases h9:r.kind=9
  ·obtain ⟨m,e1,e2⟩:=checkedW_c hD hM hb H hr hn G h9 p hp
   exact ⟨m,e1,by omega,by omega,by omega,by omega,by omega,by omega,fun _=>e2⟩
  by_cases h2:r.kind=2
  ·refine ⟨if (rd D b (f+1) n p).2.2=0 then (rd D b (f+1) n p).2.1 else p,fun h=>if_pos h,by omega,fun _=>rfl,by omega,by omega,by omega,by omega,by omega⟩
  ·exact ⟨(rd D b (f+1) n p).2.1,fun _=>rfl,fun _=>rfl,by omega,by omega,by omega,by omega,by omega,by omega⟩
 obtain ⟨m,e1,e13,e2,a5,a6,a7,a8,a9⟩:=hex
 refine ⟨m,e1,?_⟩
 clear e1
 refine calls_bodyI Tryz.func34 rfl Tryz.call34 Tryz.ntmps34 (by simp) (by simp [ArgsOk]) fun en hsz hcok hX hks=>?_;refine enS ?_
 refine walkS ?_
 refine aw_condS rfl (fun n1=>?_) (fun n1=>?_)
 ·have HN:=integerI_c hD hM hb hr (G.k1 n1) p hp
  obtain rfl:=e13 (.inl n1)
  clear e13 e2 a5 a6 a7 a8 a9
  cases hi:intAt r b p with
  | none=>
   rw [hi] at HN
   rw [rd_1n hrd n1 hi]
   (repeat (first|refine walkS ?_|refine cS (HN) ?_))
   (refine rtS Tryz.results34 ?_;refine ⟨_,[],.inr (.inr ⟨.tup [.agg [iD 0,.iv (fun b=>en.w.heap.size≤b) (encB []),.iv (fun b=>en.w.heap.size≤b) (.sp 3 [])],iD (p:Nat),erD p 1],_,rfl,rfl,rfl,?_⟩),List.nodup_nil,rfl⟩;exact semS)
  | some k=>
   rw [hi] at HN
   rw [rd_1s hrd n1 hi]
   (repeat (first|refine walkS ?_|refine cS (HN) ?_))
   (refine rtS Tryz.results34 ?_;refine ⟨_,[],.inr (.inr ⟨.tup [.agg [iD k,.iv (fun b=>en.w.heap.size≤b) (encB []),.iv (fun b=>en.w.heap.size≤b) (.sp 3 [])],iD ((p+r.size.toNat:Nat):Int),nilE],_,rfl,rfl,rfl,?_⟩),List.nodup_nil,rfl⟩;exact semS)
 refine walkS ?_
 refine aw_condS rfl (fun n2=>?_) (fun n2=>?_)
 ·have HC:=constantI_c (D:=D) hrb hM hb p hp
  have e:=e2 n2
  rw [rd_2 hrd n2] at e ⊢
  clear e13 e2 a5 a6 a7 a8 a9
  rw [←e] at HC
  generalize constAt b p 0 r.bytes=z at *
  obtain ⟨q,c⟩:=z
  (repeat (first|refine walkS ?_|refine cS (HC) ?_))
  (refine rtS Tryz.results34 ?_;refine ⟨_,[],.inr (.inr ⟨.tup [.agg [iD 0,.iv (fun b=>en.w.heap.size≤b) (encB []),.iv (fun b=>en.w.heap.size≤b) (.sp 3 [])],iD (m:Nat),eD q c],_,rfl,rfl,rfl,?_⟩),List.nodup_nil,rfl⟩;exact semS)
 refine walkS ?_
 refine aw_condS rfl (fun n3=>?_) (fun n3=>?_)
 ·have hk3:=G.k3 n3
  obtain rfl:=e13 (.inr (.inl n3))
  rw [rd_3 hrd n3]
  clear e13 e2 a5 a6 a7 a8 a9
  by_cases hno:(b.length:Int) - p<r.size.toNat
  ·have HB:=contentI_c (D:=D) hb p hp r.size.toNat (by omega)
   rw [Int.toNat_of_nonneg (by omega),bytesAt_no (by omega)] at HB
   rw [bytesAt_no (by omega)]
   (repeat (first|refine walkS ?_|refine cS (HB) ?_))
   (refine rtS Tryz.results34 ?_;refine ⟨_,[],.inr (.inr ⟨.tup [.agg [iD 0,.iv (fun b=>en.w.heap.size≤b) (encB []),.iv (fun b=>en.w.heap.size≤b) (.sp 3 [])],iD (p:Nat),erD p 1],_,rfl,rfl,rfl,?_⟩),List.nodup_nil,rfl⟩;exact semS)
  ·have HB:=contentO_c (D:=D) hb p hp r.size.toNat (by omega) hno
   rw [Int.toNat_of_nonneg (by omega)] at HB
   rw [bytesAt_yes (by omega)]
   refine walkS ?_
   (refine ow_callDA [] [] ?_ dsS rfl (ACD.iv (HB.acd (ownC_ok _ _)) ?_) (fun n hn=>?_);exact trS;(repeat (first|exact IvL.nil|refine IvL.iv ?_|refine IvL.agg1 ?_|refine IvL.aggV ?_|refine IvL.agg3 ?_|refine IvL.same ?_));simp (decide:=true) only [St.bound,boundA_iv,boundA_sl,boundA_B,boundA_I,boundA_S,boundA_Ds,boundA_v,St.f,lk,St.set,rzI,rzIL,reduceIte,List.map_cons,List.map_nil,List.cons_append,List.nil_append,Option.map_some,Option.map_none])
   refine walkS ?_
   (refine rtS Tryz.results34 ?_;refine ⟨_,[],.inr (.inr ⟨.tup [.agg [iD 0,.iv (fun b=>en.w.heap.size≤b) (encB (List.take r.size.toNat (List.drop p b))),.iv (fun b=>en.w.heap.size≤b) (.sp 3 [])],iD ((p+r.size.toNat:Nat):Int),nilE],_,rfl,rfl,rfl,?_⟩),List.nodup_nil,rfl⟩;exact semS)
 refine walkS ?_
 refine aw_condS rfl (fun n4=>?_) (fun n4=>?_)
 ·obtain ⟨g1,g2⟩:=G.k4 n4
  obtain ⟨j,q,ej,hj,hq,hqr⟩:=kid_int (by omega:0≤limD D (kid0 r))
  have hkid:r.kids[0]?=some (j:Int):=by rw [kids0 (by omega),ej]
  have HN:=integerI_c hD hM hb hj hq p hp
  obtain rfl:=e13 (.inr (.inr (.inl n4)))
  clear e13 e2 a5 a6 a7 a8 a9
  cases hi:intAt q b p with
  | none=>
   rw [hi] at HN
   rw [rd_45n hrd (.inl n4) (by rw [hqr];exact hi)]
   (repeat (first|refine walkS ?_|refine cS (HN) ?_))
   refine aw_condS rfl (fun hc=>?_) (fun hc=>?_)
   ·refine walkS ?_
    (refine rtS Tryz.results34 ?_;refine ⟨_,[],.inr (.inr ⟨.tup [.agg [iD 0,.iv (fun b=>en.w.heap.size≤b) (encB []),.iv (fun b=>en.w.heap.size≤b) (.sp 3 [])],iD (p:Nat),erD p 1],_,rfl,rfl,rfl,?_⟩),List.nodup_nil,rfl⟩;exact semS)
   ·(first|exact absurd trivial hc|exact absurd rfl hc|(cases hc;done)|omega|exact absurd hc (by decide)|(simp at hc;done))
  | some k=>
   rw [hi] at HN
   obtain ⟨hi1,hi2⟩:=intAt_in hi hp
   have hfin:=rd_4s (f:=f) hrd n4 (by rw [hqr];exact hi)
   rw [hqr] at hfin
   rw [hfin]
   by_cases hno:(b.length:Int) - (p+q.size.toNat:Nat)<k
   ·have HB:=contentI_c (D:=D) hb (p+q.size.toNat) hi1 k (by omega)
    rw [bytesAt_no (by omega)] at HB
    rw [bytesAt_no (by omega)]
    (repeat (first|refine walkS ?_|refine cS (HN) ?_))
    refine aw_condS rfl (fun hc=>?_) (fun hc=>?_)
    ·(first|exact absurd trivial hc|exact absurd rfl hc|(cases hc;done)|omega|exact absurd hc (by decide)|(simp at hc;done))
    (repeat (first|refine walkS ?_|refine cS (HB) ?_))
    (refine rtS Tryz.results34 ?_;refine ⟨_,[],.inr (.inr ⟨.tup [.agg [iD 0,.iv (fun b=>en.w.heap.size≤b) (encB []),.iv (fun b=>en.w.heap.size≤b) (.sp 3 [])],iD ((p+q.size.toNat:Nat):Int),erD (p+q.size.toNat:Nat) 1],_,rfl,rfl,rfl,?_⟩),List.nodup_nil,rfl⟩;exact semS)
   ·have HB:=contentO_c (D:=D) hb (p+q.size.toNat) hi1 k (by omega) hno
    rw [bytesAt_yes (by omega)]
    (repeat (first|refine walkS ?_|refine cS (HN) ?_))
    refine aw_condS rfl (fun hc=>?_) (fun hc=>?_)
    ·(first|exact absurd trivial hc|exact absurd rfl hc|(cases hc;done)|omega|exact absurd hc (by decide)|(simp at hc;done))
    refine walkS ?_
    (refine ow_callDA [] [] ?_ dsS rfl (ACD.iv (HB.acd (ownC_ok _ _)) ?_) (fun n hn=>?_);exact trS;(repeat (first|exact IvL.nil|refine IvL.iv ?_|refine IvL.agg1 ?_|refine IvL.aggV ?_|refine IvL.agg3 ?_|refine IvL.same ?_));simp (decide:=true) only [St.bound,boundA_iv,boundA_sl,boundA_B,boundA_I,boundA_S,boundA_Ds,boundA_v,St.f,lk,St.set,rzI,rzIL,reduceIte,List.map_cons,List.map_nil,List.cons_append,List.nil_append,Option.map_some,Option.map_none])
    refine walkS ?_
    (refine rtS Tryz.results34 ?_;refine ⟨_,[],.inr (.inr ⟨.tup [.agg [iD 0,.iv (fun b=>en.w.heap.size≤b) (encB (List.take k (List.drop (p+q.size.toNat) b))),.iv (fun b=>en.w.heap.size≤b) (.sp 3 [])],iD ((p+q.size.toNat+k:Nat):Int),nilE],_,rfl,rfl,rfl,?_⟩),List.nodup_nil,rfl⟩;exact semS)
 refine walkS ?_
 refine aw_condS rfl (fun n5=>?_) (fun n5=>?_)
 ·have HA:=a5 n5
  generalize rd D b (f+1) n p=y at *
  clear e13 e2 a5 a6 a7 a8 a9
  have hanti:=rdW_anti y.1 (iD m) (eD y.2.1 y.2.2)
  (repeat (first|refine walkS ?_|(refine ow_callFA ?_ dsS rfl (HA) ?_;exact trS;simp only [St.set,List.map_cons,List.map_nil])|(refine ol_callN ?_ rfl (HA) ?_;exact trS;simp only [St.set,List.map_cons,List.map_nil])))
  (refine rtS Tryz.results34 ?_;refine ⟨_,[],.inr (.inr ⟨.tup [.agg (encWi (fun b=>en.w.heap.size≤b) y.1),iD m,eD y.2.1 y.2.2],_,rfl,rfl,rfl,?_⟩),List.nodup_nil,rfl⟩;exact semS)
 refine walkS ?_
 refine aw_condS rfl (fun n6=>?_) (fun n6=>?_)
 ·have HA:=a6 n6
  generalize rd D b (f+1) n p=y at *
  clear e13 e2 a5 a6 a7 a8 a9
  have hanti:=rdW_anti y.1 (iD m) (eD y.2.1 y.2.2)
  (repeat (first|refine walkS ?_|(refine ow_callFA ?_ dsS rfl (HA) ?_;exact trS;simp only [St.set,List.map_cons,List.map_nil])|(refine ol_callN ?_ rfl (HA) ?_;exact trS;simp only [St.set,List.map_cons,List.map_nil])))
  (refine rtS Tryz.results34 ?_;refine ⟨_,[],.inr (.inr ⟨.tup [.agg (encWi (fun b=>en.w.heap.size≤b) y.1),iD m,eD y.2.1 y.2.2],_,rfl,rfl,rfl,?_⟩),List.nodup_nil,rfl⟩;exact semS)
 refine walkS ?_
 refine aw_condS rfl (fun n7=>?_) (fun n7=>?_)
 ·have HA:=a7 n7
  generalize rd D b (f+1) n p=y at *
  clear e13 e2 a5 a6 a7 a8 a9
  have hanti:=rdW_anti y.1 (iD m) (eD y.2.1 y.2.2)
  (repeat (first|refine walkS ?_|(refine ow_callFA ?_ dsS rfl (HA) ?_;exact trS;simp only [St.set,List.map_cons,List.map_nil])|(refine ol_callN ?_ rfl (HA) ?_;exact trS;simp only [St.set,List.map_cons,List.map_nil])))
  (refine rtS Tryz.results34 ?_;refine ⟨_,[],.inr (.inr ⟨.tup [.agg (encWi (fun b=>en.w.heap.size≤b) y.1),iD m,eD y.2.1 y.2.2],_,rfl,rfl,rfl,?_⟩),List.nodup_nil,rfl⟩;exact semS)
 refine walkS ?_
 refine aw_condS rfl (fun n8=>?_) (fun n8=>?_)
 ·have HA:=a8 n8
  generalize rd D b (f+1) n p=y at *
  clear e13 e2 a5 a6 a7 a8 a9
  have hanti:=rdW_anti y.1 (iD m) (eD y.2.1 y.2.2)
  (repeat (first|refine walkS ?_|(refine ow_callFA ?_ dsS rfl (HA) ?_;exact trS;simp only [St.set,List.map_cons,List.map_nil])|(refine ol_callN ?_ rfl (HA) ?_;exact trS;simp only [St.set,List.map_cons,List.map_nil])))
  (refine rtS Tryz.results34 ?_;refine ⟨_,[],.inr (.inr ⟨.tup [.agg (encWi (fun b=>en.w.heap.size≤b) y.1),iD m,eD y.2.1 y.2.2],_,rfl,rfl,rfl,?_⟩),List.nodup_nil,rfl⟩;exact semS)
 refine walkS ?_
 refine aw_condS rfl (fun n9=>?_) (fun n9=>?_)
 ·have HA:=a9 n9
  generalize rd D b (f+1) n p=y at *
  clear e13 e2 a5 a6 a7 a8 a9
  have hanti:=rdW_anti y.1 (iD m) (eD y.2.1 y.2.2)
  (repeat (first|refine walkS ?_|(refine ow_callFA ?_ dsS rfl (HA) ?_;exact trS;simp only [St.set,List.map_cons,List.map_nil])|(refine ol_callN ?_ rfl (HA) ?_;exact trS;simp only [St.set,List.map_cons,List.map_nil])))
  (refine rtS Tryz.results34 ?_;refine ⟨_,[],.inr (.inr ⟨.tup [.agg (encWi (fun b=>en.w.heap.size≤b) y.1),iD m,eD y.2.1 y.2.2],_,rfl,rfl,rfl,?_⟩),List.nodup_nil,rfl⟩;exact semS)
 have n10:r.kind=10:=by omega
 have hh:=head_get (G.k10 n10)
 obtain rfl:=e13 (.inr (.inr (.inr n10)))
 clear e13 e2 a5 a6 a7 a8 a9
 cases ht:readTerm b p (r.bytes.headD 0) with
 | none=>
  rw [rd_10n hrd n10 ht]
  (repeat (first|refine walkS ?_|(refine callPre ?_;(first|refine callN_funS rfl ((rtI_c hb p hp (r.bytes.headD 0)).eqv (r1:=.d (.tup [encB [],iD p,bD false])) (by rw [rtR,rdT,ht])) ?_))|(refine callPreL ?_;(first|refine callL_funS rfl ((rtI_c hb p hp (r.bytes.headD 0)).eqv (r1:=.d (.tup [encB [],iD p,bD false])) (by rw [rtR,rdT,ht])) ?_))))
  refine aw_condS rfl (fun hc=>?_) (fun hc=>?_)
  ·(repeat (first|refine walkS ?_|refine cS (fail_c p 1) ?_))
   (refine rtS Tryz.results34 ?_;refine ⟨_,[],.inr (.inr ⟨.tup [.agg [iD 0,.iv (fun b=>en.w.heap.size≤b) (encB []),.iv (fun b=>en.w.heap.size≤b) (.sp 3 [])],iD (p:Nat),erD p 1],_,rfl,rfl,rfl,?_⟩),List.nodup_nil,rfl⟩;exact semS)
  ·(first|exact absurd trivial hc|exact absurd rfl hc|(cases hc;done)|omega|exact absurd hc (by decide)|(simp at hc;done))
 | some y=>
  rw [rd_10s hrd n10 ht]
  (repeat (first|refine walkS ?_|refine cS (rtO_c hb p hp (r.bytes.headD 0) ht) ?_))
  refine aw_condS rfl (fun hc=>?_) (fun hc=>?_)
  ·(first|exact absurd trivial hc|exact absurd rfl hc|(cases hc;done)|omega|exact absurd hc (by decide)|(simp at hc;done))
  ·refine aw_ownI 18 192 1 5 (y.1.map fun c=>[uD c]) rfl rfl (flat_map _ _) hX ?_
   refine walkS ?_
   (refine rtS Tryz.results34 ?_;refine ⟨_,[],.inr (.inr ⟨.tup [.agg [iD 0,.iv (fun b=>en.w.heap.size≤b) (encB y.1),.iv (fun b=>en.w.heap.size≤b) (.sp 3 [])],iD (y.2:Nat),nilE],_,rfl,rfl,rfl,?_⟩),List.nodup_nil,rfl⟩;exact semS)
theorem valueW_all (hD:DB M D) (hM:M≤1048576) (hb:b.length≤1048576) (hV:descP D):∀ f,RdOKW D b f
 | 0=>fun n p h=>by omega
 | f+1=>valueW_step hD hM hb hV (valueW_all hD hM hb hV f)
end
end Go.Proofs.YtomfggmmhkpeeaaGreatDoor.Eng
