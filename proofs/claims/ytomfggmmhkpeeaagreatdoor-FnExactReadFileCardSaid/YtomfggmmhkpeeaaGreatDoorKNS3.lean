/-
 The program's reader: arrays.
-/
import Derived.Test.YtomfggmmhkpeeaaGreatDoorKNS2
set_option linter.unusedSimpArgs false
set_option linter.unusedVariables false
set_option linter.defProp false
set_option maxRecDepth 100000
set_option maxHeartbeats 4000000
namespace Go.Proofs.YtomfggmmhkpeeaaGreatDoor.Eng
open Go Go.RowKit

section
variable {M:Nat}{D:List RuleD}{b:List UInt8}
def RdCW (D:List RuleD) (b:List UInt8) (f:FuncId) (args:List A) (x:V × Nat × Nat):Prop:=∃ m:Nat,(x.2.2=0→m=x.2.1)∧ACN Tryz.prog f args (rdW m x)
theorem itemsW_n {f:Nat} (H:RdOKW D b f) (n:Int) (x k:Nat) (hk:k≤1048576) (hx:x<f∧x<D.length) (p:Nat) (hp:p≤b.length):ACN Tryz.prog 68 [.d (frD D b),.d (V0d n),.d (encI (List.replicate k (x:Int))),.d (iD p)] (rdW (atItems (rd D b f) (List.replicate k x) p) (mkItems n (rdItems (rd D b f) (List.replicate k x) p))):=by
 have:=itemsW_c H n (List.replicate k x) (by simpa using hk) (fun i hi=>by rw [replicate_get hi];exact hx) p hp
 rwa [List.map_replicate] at this
theorem itemsW_k {f:Nat} (H:RdOKW D b f) (n:Int) (ks:List Int) (hkl:ks.length≤1048576) (hkr:∀ i (hi:i<ks.length),0≤ks[i]∧ks[i]<f∧ks[i]<D.length) (p:Nat) (hp:p≤b.length):ACN Tryz.prog 68 [.d (frD D b),.d (V0d n),.d (encI ks),.d (iD p)] (rdW (atItems (rd D b f) (ks.map Int.toNat) p) (mkItems n (rdItems (rd D b f) (ks.map Int.toNat) p))):=by
 have:=itemsW_c H n (ks.map Int.toNat) (by simpa using hkl) (fun i hi=>by
  have hi':i<ks.length:=by simpa using hi
  have:=hkr i hi'
  rw [List.getElem_map]
  omega) p hp
 have e:((ks.map Int.toNat).map fun k:Nat=>(k:Int))=ks:=by
  rw [List.map_map]
  refine List.ext_getElem (by simp) fun i h1 h2=>?_
  have:=hkr i h2
  rw [List.getElem_map]
  show ((ks[i].toNat:Nat):Int)=ks[i]
  omega
 rwa [e] at this
private def tyF:=ai (ai (ai tg25 (ai tg27 tg86)) (ai (ai tg87 tg29) (ai tg89 tg3))) (ai (ai (ai tg4 tg5) (ai tg57 tg61)) (ai (ai tg9 encWi_len) (ai mkAgg_W cells1_W)))
theorem arrayW_c (hD:DB M D) (hM:M≤1048576) (hb:b.length≤1048576) {f:Nat} (H:RdOKW D b f) {n:Nat}{r:RuleD} (hr:D[n]?=some r) (hn:n≤f) (G:GoodR D n r) (hk:r.kind=5) (p:Nat) (hp:p≤b.length):RdCW D b 67 [.d (frD D b),.d (encR r),.d (iD p)] (rd D b (f+1) n p):=by
 have hrb:=hD.rule r (List.mem_of_getElem? hr)
 obtain ⟨g1,g2⟩:=G.k5 hk
 obtain ⟨j,q,ej,hj,hq,hqr⟩:=kid_int (by omega:0≤limD D (kid0 r))
 have hkid:r.kids[0]?=some (j:Int):=by rw [kids0 (by omega),ej]
 obtain ⟨kk,ekk,hkk⟩:∃ x:Nat,kid1 r=(x:Int)∧x<n:=by
  have h1:=kids1 (r:=r) (by omega)
  have h2:=G.kid 1 (by omega)
  rw [List.getElem?_eq_getElem (by omega)] at h1
  have h3:=Option.some.inj h1
  exact ⟨(kid1 r).toNat,by omega,by omega⟩
 have hkid1:r.kids[1]?=some (kk:Int):=by rw [kids1 (by omega),ekk]
 have hrd:=ruleD_get hr
 have hnl:n<D.length:=(List.getElem?_eq_some_iff.1 hr).1
 have HN:=integerI_c hD hM hb hj hq p hp
 cases hi:intAt q b p with
 | none=>
  rw [hi] at HN
  rw [rd_45n hrd (.inr hk) (by rw [hqr];exact hi)]
  refine ⟨p,fun h=>(by cases h),?_⟩
  refine calls_bodyI Tryz.func67 rfl Tryz.call67 Tryz.ntmps67 (by simp) (by simp [ArgsOk]) fun en hsz hcok hX hks=>?_;refine enS ?_
  (repeat (first|refine walkS ?_|(refine ow_make ?_ dsS rfl rfl ?_ te87 tr3 tz3 ?_;exact trS;omega;refine stS0 ?_)|refine cS (HN) ?_))
  refine aw_condS rfl (fun hc=>?_) (fun hc=>?_)
  ·(repeat (first|refine walkS ?_|(refine ow_make ?_ dsS rfl rfl ?_ te87 tr3 tz3 ?_;exact trS;omega;refine stS0 ?_)))
   (refine rtS Tryz.results67 ?_;refine ⟨_,[],.inr (.inr ⟨.tup [.agg [iD 0,.iv (fun b=>en.w.heap.size≤b) (encB []),.iv (fun b=>en.w.heap.size≤b) (.sp 3 [])],iD (p:Nat),erD p 1],_,rfl,rfl,rfl,?_⟩),List.nodup_nil,rfl⟩;exact semS)
  ·(first|exact absurd trivial hc|exact absurd rfl hc|(cases hc;done)|omega|exact absurd hc (by decide)|(simp at hc;done))
 | some m=>
  rw [hi] at HN
  obtain ⟨hi1,hi2⟩:=intAt_in hi hp
  by_cases h40:40<m
  ·rw [rd_5c hrd hk (by rw [hqr];exact hi) h40]
   refine ⟨p,fun h=>(by cases h),?_⟩
   refine calls_bodyI Tryz.func67 rfl Tryz.call67 Tryz.ntmps67 (by simp) (by simp [ArgsOk]) fun en hsz hcok hX hks=>?_;refine enS ?_
   (repeat (first|refine walkS ?_|(refine ow_make ?_ dsS rfl rfl ?_ te87 tr3 tz3 ?_;exact trS;omega;refine stS0 ?_)|refine cS (HN) ?_))
   refine aw_condS rfl (fun hc=>?_) (fun hc=>?_)
   ·(first|exact absurd trivial hc|exact absurd rfl hc|(cases hc;done)|omega|exact absurd hc (by decide)|(simp at hc;done))
   (repeat (first|refine walkS ?_|(refine ow_make ?_ dsS rfl rfl ?_ te87 tr3 tz3 ?_;exact trS;omega;refine stS0 ?_)))
   refine aw_condS rfl (fun hc=>?_) (fun hc=>?_)
   ·(repeat (first|refine walkS ?_|(refine ow_make ?_ dsS rfl rfl ?_ te87 tr3 tz3 ?_;exact trS;omega;refine stS0 ?_)|refine cS (fail_c p 6) ?_))
    (refine rtS Tryz.results67 ?_;refine ⟨_,[],.inr (.inr ⟨.tup [.agg [iD 0,.iv (fun b=>en.w.heap.size≤b) (encB []),.iv (fun b=>en.w.heap.size≤b) (.sp 3 [])],iD (p:Nat),erD p 6],_,rfl,rfl,rfl,?_⟩),List.nodup_nil,rfl⟩;exact semS)
   ·(first|exact absurd trivial hc|exact absurd rfl hc|(cases hc;done)|omega|exact absurd hc (by decide)|(simp at hc;done))
  ·have hfin:=rd_5s (f:=f) hrd hk (by rw [hqr];exact hi) h40
   rw [hqr,show (kid1 r).toNat=kk by omega] at hfin
   rw [hfin]
   have HI:=itemsW_n H 0 kk m (by omega) ⟨by omega,by omega⟩ (p+q.size.toNat) hi1
   refine ⟨atItems (rd D b f) (List.replicate m kk) (p+q.size.toNat),atItems_mk,?_⟩
   generalize atItems (rd D b f) (List.replicate m kk) (p+q.size.toNat)=am at *
   generalize mkItems 0 (rdItems (rd D b f) (List.replicate m kk) (p+q.size.toNat))=y at *
   have hl:(List.replicate m (kk:Int)).length=m:=List.length_replicate ..
   have h0:List.map A.d (List.replicate m [Eng.D.v (Value.int IntKind.i64 0)]).flatten=arrC (fun v:Int=>[iD v]) [iD 0] (List.replicate m (kk:Int)) 0:=by rw [arrC_0,hl]
   refine calls_bodyI Tryz.func67 rfl Tryz.call67 Tryz.ntmps67 (by simp) (by simp [ArgsOk]) fun en hsz hcok hX hks=>?_;refine enS ?_
   (repeat (first|refine walkS ?_|(refine ow_make ?_ dsS rfl rfl ?_ te87 tr3 tz3 ?_;exact trS;omega;refine stS0 ?_)|refine cS (HN) ?_))
   refine aw_condS rfl (fun hc=>?_) (fun hc=>?_)
   ·(first|exact absurd trivial hc|exact absurd rfl hc|(cases hc;done)|omega|exact absurd hc (by decide)|(simp at hc;done))
   (repeat (first|refine walkS ?_|(refine ow_make ?_ dsS rfl rfl ?_ te87 tr3 tz3 ?_;exact trS;omega;refine stS0 ?_)))
   refine aw_condS rfl (fun hc=>?_) (fun hc=>?_)
   ·(first|exact absurd trivial hc|exact absurd rfl hc|(cases hc;done)|omega|exact absurd hc (by decide)|(simp at hc;done))
   (repeat (first|refine walkS ?_|(refine ow_make ?_ dsS rfl rfl ?_ te87 tr3 tz3 ?_;exact trS;omega;refine stS0 ?_)))
   rw [h0]
   refine aw_loopS [0,4,6,7,8,10,12,39] (fun _ _=>[]) (fun _ k=>[(40,.d (iD (k:Nat)))]) [64] (fun _ k=>[(64,some (arrC (fun v:Int=>[iD v]) [iD 0] (List.replicate m (kk:Int)) k))]) [] (fun _ _=>[]) (fun k=>k≤m) (fun k=>m - k) (0) hks (fun _=>rfl) (Nat.zero_le _) wkS ?_;intro x hx;refine headS ?_
   (repeat (first|refine walkS ?_|(refine ow_make ?_ dsS rfl rfl ?_ te87 tr3 tz3 ?_;exact trS;omega;refine stS0 ?_)))
   refine aw_condS rfl (fun hk1=>?_) (fun hk1=>?_)
   ·have hA:=arrC_len (f:=fun v:Int=>[iD v]) (zero:=[iD 0]) (l:=List.replicate m (kk:Int)) (k:=x) (z:=1) (fun _ _=>rfl) rfl (by omega)
    have hB:splice (arrC (fun v:Int=>[iD v]) [iD 0] (List.replicate m (kk:Int)) x) [A.d (iD kk)] (x*1)=arrC (fun v:Int=>[iD v]) [iD 0] (List.replicate m (kk:Int)) (x+1):=by
     have:=arrC_step (f:=fun v:Int=>[iD v]) (zero:=[iD 0]) (z:=1) (l:=List.replicate m (kk:Int)) (k:=x) (fun _ _=>rfl) rfl (by omega)
     rwa [List.getElem_replicate] at this
    (repeat (first|refine ctlS ?_|(refine ol_go ?_ (fun K1 hK1=>?_);exact trS;refine evS ?_;(try rw [hB]);refine hK1 _ _ ?_;clear hK1 K1)|(refine ow_go ?_ dsS (fun K1 hK1=>?_);exact trS;refine evS ?_;(try rw [hB]);refine hK1 _ ?_;clear hK1 K1)|refine skipS ?_|(refine ow_make ?_ dsS rfl rfl ?_ te87 tr3 tz3 ?_;exact trS;omega;refine stS0 ?_)))
    refine ⟨x+1,by omega,by omega,?_⟩
    exact wkS
   ·have hx':x=m:=by omega
    subst hx'
    refine aw_freeze 12 64 1 x ((List.replicate x (kk:Int)).map fun v=>[iD v]) rfl (by rw [←arrC_all (f:=fun v:Int=>[iD v]) (zero:=[iD 0]),hl];rfl) (by simp) (by simp) hks (by decide) ?_
    have hanti:=rdW_anti y.1 (iD am) (eD y.2.1 y.2.2)
    (repeat (first|refine walkS ?_|(refine ow_make ?_ dsS rfl rfl ?_ te87 tr3 tz3 ?_;exact trS;omega;refine stS0 ?_)|(refine ow_callFA ?_ dsS rfl (HI) ?_;exact trS;simp only [St.set,List.map_cons,List.map_nil])|(refine ol_callN ?_ rfl (HI) ?_;exact trS;simp only [St.set,List.map_cons,List.map_nil])))
    (refine rtS Tryz.results67 ?_;refine ⟨_,[],.inr (.inr ⟨.tup [.agg (encWi (fun b=>en.w.heap.size≤b) y.1),iD am,eD y.2.1 y.2.2],_,rfl,rfl,rfl,?_⟩),List.nodup_nil,rfl⟩;exact semS)
end
end Go.Proofs.YtomfggmmhkpeeaaGreatDoor.Eng
