/-
 A value's own fields, values of a rule: the reference.
-/
import Derived.Test.YtodkkldopciagaaGreatDoorKLSB
import Derived.Test.YtodkkldopciagaaGreatDoorKNB
import Derived.Test.YtodkkldopciagaaGreatDoorKP2
set_option linter.unusedSimpArgs false
set_option linter.unusedVariables false
set_option linter.defProp false
set_option maxRecDepth 100000
set_option maxHeartbeats 4000000
namespace Go.Proofs.YtodkkldopciagaaGreatDoor.Eng
open Go Go.RowKit

private def tyF:=ai (ai (ai tg22 (ai tg24 tg38)) (ai tg58 (ai tg60 tg26))) (ai (ai tg40 (ai tg62 tg3)) (ai tg4 (ai tg5 tg9)))
theorem power_c {s:Int} (h:1≤s∧s≤4):AC Tryz.prog 102 [.d (iD s)] none (fun r' _=>r'=.d (iD (2 ^ (8*s.toNat)))):=by
 have:s=1∨s=2∨s=3∨s=4:=by omega
 rcases this with rfl|rfl|rfl|rfl
 all_goals
  refine cbS Tryz.func102 rfl Tryz.call102 Tryz.ntmps102 fun en hsz hks hk0=>?_;refine enS ?_
  refine walkS ?_
  (refine rtS Tryz.results102 ?_;exact ⟨_,_,.inl ⟨rfl,rfl⟩,List.nodup_nil,congrArg (fun n=>Rz.d (iD n)) (by decide)⟩)
theorem minS_c (a b:Int):AC Tryz.prog 101 [.d (iD a),.d (iD b)] none (fun r' _=>r'=.d (iD (minF a b))):=by
 refine cbS Tryz.func101 rfl Tryz.call101 Tryz.ntmps101 fun en hsz hks hk0=>?_;refine enS ?_
 refine walkS ?_
 refine aw_condS rfl (fun h=>?_) (fun h=>?_)
 ·refine walkS ?_
  (refine rtS Tryz.results101 ?_;exact ⟨_,_,.inl ⟨rfl,rfl⟩,List.nodup_nil,by rw [minF,if_pos h]⟩)
 ·refine walkS ?_
  (refine rtS Tryz.results101 ?_;exact ⟨_,_,.inl ⟨rfl,rfl⟩,List.nodup_nil,by rw [minF,if_neg h]⟩)

section
variable {M:Nat}{D:List RuleD}
theorem good_items {i:Nat}{r:RuleD} (G:GoodR D i r):(r.kind=5→2≤r.kids.length)∧(r.kind=7→r.kids.length=r.tags.length+1)∧(r.kind=8∨r.kind=9→1≤r.kids.length):=
 ⟨fun h=>by have:=(G.k5 h).1;omega,fun h=>(G.k7 h).1,fun h=>h.elim (fun h=>by have:=G.k8 h;omega) fun h=>by have:=G.k9 h;omega⟩
theorem own_kid {i:Nat}{r:RuleD} (G:GoodR D i r) (hi:i<D.length) {n:Int}{lb lv:Nat} (h:ownV D r n lb lv=true) {k:Nat} (hk:k<lv):∃ j:Nat,itemK r n k=j∧j<D.length:=by
 obtain ⟨kd1,kd2⟩:=G.kd
 obtain ⟨h5,h7,h8⟩:=good_items G
 have kid:∀ j (hj:j<r.kids.length),∃ x:Nat,r.kids[j]=x∧x<D.length:=fun j hj=>by
  have:=G.kid j hj
  exact ⟨r.kids[j].toNat,by omega,by omega⟩
 have k0:0<r.kids.length→∃ x:Nat,kid0 r=x∧x<D.length:=fun h=>by
  have e:=kids0 h
  rw [List.getElem?_eq_getElem h] at e
  rw [←Option.some.inj e]
  exact kid 0 h
 by_cases e5:r.kind=5
 ·rw [itemK_5 e5]
  have h:=h5 e5
  have e:=kids1 (r:=r) (by omega)
  rw [List.getElem?_eq_getElem (by omega)] at e
  rw [←Option.some.inj e]
  exact kid 1 (by omega)
 by_cases e6:r.kind=6
 ·rw [ownV_6 e6,decide_eq_true_eq] at h
  rw [itemK_6 e6 (by omega)]
  exact kid k (by omega)
 by_cases e7:r.kind=7
 ·rw [ownV_7 e7,decide_eq_true_eq] at h
  obtain ⟨_,_,h3⟩:=h
  cases ht:tagIx r.tags n with
  | none=>rw [itemK_7n e7 ht] at h3;omega
  | some t=>
   have:=tagIx_lt ht
   have:=h7 e7
   rw [itemK_7 e7 ht (by omega)]
   exact kid (t+1) (by omega)
 by_cases e8:r.kind=8
 ·rw [itemK_8 (.inl e8)]
  exact k0 (by have:=h8 (.inl e8);omega)
 by_cases e9:r.kind=9
 ·rw [itemK_8 (.inr e9)]
  exact k0 (by have:=h8 (.inr e9);omega)
 exfalso
 have:r.kind=1∨r.kind=2∨r.kind=3∨r.kind=4∨r.kind=10:=by omega
 rcases this with e|e|e|e|e
 ·rw [ownV_1 e,decide_eq_true_eq] at h;omega
 ·rw [ownV_2 e,decide_eq_true_eq] at h;omega
 ·rw [ownV_3 e,decide_eq_true_eq] at h;omega
 ·rw [ownV_4 e,decide_eq_true_eq] at h;omega
 ·rw [ownV_10 e,decide_eq_true_eq] at h;omega
theorem l9Own_c (hD:DB M D) (hM:M≤1048576) {i:Nat}{r:RuleD} (hr:RB M r) (G:GoodR D i r) {n:Int}{bs:List UInt8}{vs:List V} (hv:VB 1048576 (.mk n bs vs)):AC Tryz.prog 114 [.d (encD D),.d (encR r),.d (encV (.mk n bs vs))] none (fun r' _=>r'=.d (bD (ownV D r n bs.length vs.length))):=by
 unfold VB at hv
 obtain ⟨v1,v2,_⟩:=hv
 have hrk:=hr.lk
 obtain ⟨kd1,kd2⟩:=G.kd
 rw [encV_mk,encVs_eq]
 refine cbS Tryz.func114 rfl Tryz.call114 Tryz.ntmps114 fun en hsz hks hk0=>?_;refine enS ?_
 refine walkS ?_
 refine aw_condS rfl (fun n1=>?_) (fun n1=>?_)
 ·obtain ⟨pw,hpw,pw1,pw2⟩:∃ pw:Int,2 ^ (8*r.size.toNat)=pw∧1≤pw∧pw≤4294967296:=by
   have hs:=G.k1 n1
   have:r.size=1∨r.size=2∨r.size=3∨r.size=4:=by omega
   rcases this with e|e|e|e<;>rw [e]<;>exact ⟨_,rfl,by decide,by decide⟩
  have P:=power_c (G.k1 n1)
  rw [hpw] at P
  have hO:ownV D r n bs.length vs.length=(decide (0≤n∧n≤pw - 1) && (((bs.length:Int)==0) && ((vs.length:Int)==0))):=by
   rw [ownV_1 n1,hpw,Bool.eq_iff_iff]
   simp only [decide_eq_true_eq,Bool.and_eq_true,beq_iff_eq]
   omega
  by_cases hA:0≤n∧n≤pw - 1
  ·rw [decide_eq_true hA,Bool.true_and] at hO
   cases eB:((bs.length:Int)==0) with
   | false=>
    rw [eB] at hO
    (repeat (first|refine ctlS ?_|(refine ol_go ?_ (fun K1 hK1=>?_);exact trS;refine evS ?_;(try simp only [eB]);refine hK1 _ _ ?_;clear hK1 K1)|(refine ow_go ?_ dsS (fun K1 hK1=>?_);exact trS;refine evS ?_;(try simp only [eB]);refine hK1 _ ?_;clear hK1 K1)|refine skipS ?_|refine cS (P) ?_|refine cS (l1In_t hA) ?_))
    (refine rtS Tryz.results114 ?_;exact ⟨_,_,.inl ⟨rfl,rfl⟩,List.nodup_nil,by rw [hO];rfl⟩)
   | true=>
    rw [eB] at hO
    (repeat (first|refine ctlS ?_|(refine ol_go ?_ (fun K1 hK1=>?_);exact trS;refine evS ?_;(try simp only [eB]);refine hK1 _ _ ?_;clear hK1 K1)|(refine ow_go ?_ dsS (fun K1 hK1=>?_);exact trS;refine evS ?_;(try simp only [eB]);refine hK1 _ ?_;clear hK1 K1)|refine skipS ?_|refine cS (P) ?_|refine cS (l1In_t hA) ?_))
    (refine rtS Tryz.results114 ?_;exact ⟨_,_,.inl ⟨rfl,rfl⟩,List.nodup_nil,by rw [hO];rfl⟩)
  ·rw [decide_eq_false hA] at hO
   (repeat (first|refine walkS ?_|refine cS (P) ?_|refine cS (l1In_f hA) ?_))
   (refine rtS Tryz.results114 ?_;exact ⟨_,_,.inl ⟨rfl,rfl⟩,List.nodup_nil,by rw [hO];rfl⟩)
 refine walkS ?_
 refine aw_condS rfl (fun n2=>?_) (fun n2=>?_)
 ·have hO:ownV D r n bs.length vs.length=((n==0) && (((bs.length:Int)==0) && ((vs.length:Int)==0))):=by
   rw [ownV_2 n2,Bool.eq_iff_iff]
   simp only [decide_eq_true_eq,Bool.and_eq_true,beq_iff_eq]
   omega
  cases eA:(n==0) with
  | false=>
   rw [eA] at hO
   (repeat (first|refine ctlS ?_|(refine ol_go ?_ (fun K1 hK1=>?_);exact trS;refine evS ?_;(try simp only [eA]);refine hK1 _ _ ?_;clear hK1 K1)|(refine ow_go ?_ dsS (fun K1 hK1=>?_);exact trS;refine evS ?_;(try simp only [eA]);refine hK1 _ ?_;clear hK1 K1)|refine skipS ?_))
   (refine rtS Tryz.results114 ?_;exact ⟨_,_,.inl ⟨rfl,rfl⟩,List.nodup_nil,by rw [hO];rfl⟩)
  | true=>
   cases eB:((bs.length:Int)==0) with
   | false=>
    rw [eA,eB] at hO
    (repeat (first|refine ctlS ?_|(refine ol_go ?_ (fun K1 hK1=>?_);exact trS;refine evS ?_;(try simp only [eA,eB]);refine hK1 _ _ ?_;clear hK1 K1)|(refine ow_go ?_ dsS (fun K1 hK1=>?_);exact trS;refine evS ?_;(try simp only [eA,eB]);refine hK1 _ ?_;clear hK1 K1)|refine skipS ?_))
    (refine rtS Tryz.results114 ?_;exact ⟨_,_,.inl ⟨rfl,rfl⟩,List.nodup_nil,by rw [hO];rfl⟩)
   | true=>
    rw [eA,eB] at hO
    (repeat (first|refine ctlS ?_|(refine ol_go ?_ (fun K1 hK1=>?_);exact trS;refine evS ?_;(try simp only [eA,eB]);refine hK1 _ _ ?_;clear hK1 K1)|(refine ow_go ?_ dsS (fun K1 hK1=>?_);exact trS;refine evS ?_;(try simp only [eA,eB]);refine hK1 _ ?_;clear hK1 K1)|refine skipS ?_))
    (refine rtS Tryz.results114 ?_;exact ⟨_,_,.inl ⟨rfl,rfl⟩,List.nodup_nil,by rw [hO];rfl⟩)
 refine walkS ?_
 refine aw_condS rfl (fun n3=>?_) (fun n3=>?_)
 ·have hO:ownV D r n bs.length vs.length=((n==0) && (((bs.length:Int)==r.size) && ((vs.length:Int)==0))):=by
   rw [ownV_3 n3,Bool.eq_iff_iff]
   simp only [decide_eq_true_eq,Bool.and_eq_true,beq_iff_eq]
   omega
  cases eA:(n==0) with
  | false=>
   rw [eA] at hO
   (repeat (first|refine ctlS ?_|(refine ol_go ?_ (fun K1 hK1=>?_);exact trS;refine evS ?_;(try simp only [eA]);refine hK1 _ _ ?_;clear hK1 K1)|(refine ow_go ?_ dsS (fun K1 hK1=>?_);exact trS;refine evS ?_;(try simp only [eA]);refine hK1 _ ?_;clear hK1 K1)|refine skipS ?_))
   (refine rtS Tryz.results114 ?_;exact ⟨_,_,.inl ⟨rfl,rfl⟩,List.nodup_nil,by rw [hO];rfl⟩)
  | true=>
   cases eB:((bs.length:Int)==r.size) with
   | false=>
    rw [eA,eB] at hO
    (repeat (first|refine ctlS ?_|(refine ol_go ?_ (fun K1 hK1=>?_);exact trS;refine evS ?_;(try simp only [eA,eB]);refine hK1 _ _ ?_;clear hK1 K1)|(refine ow_go ?_ dsS (fun K1 hK1=>?_);exact trS;refine evS ?_;(try simp only [eA,eB]);refine hK1 _ ?_;clear hK1 K1)|refine skipS ?_))
    (refine rtS Tryz.results114 ?_;exact ⟨_,_,.inl ⟨rfl,rfl⟩,List.nodup_nil,by rw [hO];rfl⟩)
   | true=>
    rw [eA,eB] at hO
    (repeat (first|refine ctlS ?_|(refine ol_go ?_ (fun K1 hK1=>?_);exact trS;refine evS ?_;(try simp only [eA,eB]);refine hK1 _ _ ?_;clear hK1 K1)|(refine ow_go ?_ dsS (fun K1 hK1=>?_);exact trS;refine evS ?_;(try simp only [eA,eB]);refine hK1 _ ?_;clear hK1 K1)|refine skipS ?_))
    (refine rtS Tryz.results114 ?_;exact ⟨_,_,.inl ⟨rfl,rfl⟩,List.nodup_nil,by rw [hO];rfl⟩)
 refine walkS ?_
 refine aw_condS rfl (fun n4=>?_) (fun n4=>?_)
 ·have hO:ownV D r n bs.length vs.length=((n==0) && (decide ((bs.length:Int)≤minF 400 (limD D (kid0 r))) && ((vs.length:Int)==0))):=by
   rw [ownV_4 n4,Bool.eq_iff_iff]
   simp only [decide_eq_true_eq,Bool.and_eq_true,beq_iff_eq]
   unfold minF;split<;>omega
  have k0:=kids0 (r:=r) (by have:=(G.k4 n4).1;omega)
  cases eA:(n==0) with
  | false=>
   rw [eA] at hO
   (repeat (first|refine ctlS ?_|(refine ol_go ?_ (fun K1 hK1=>?_);exact trS;refine evS ?_;(try simp only [eA]);refine hK1 _ _ ?_;clear hK1 K1)|(refine ow_go ?_ dsS (fun K1 hK1=>?_);exact trS;refine evS ?_;(try simp only [eA]);refine hK1 _ ?_;clear hK1 K1)|refine skipS ?_|refine cS (limS_c hD hM (kid0 r)) ?_|refine cS (minS_c 400 (limD D (kid0 r))) ?_))
   (refine rtS Tryz.results114 ?_;exact ⟨_,_,.inl ⟨rfl,rfl⟩,List.nodup_nil,by rw [hO];rfl⟩)
  | true=>
   cases eB:decide ((bs.length:Int)≤minF 400 (limD D (kid0 r))) with
   | false=>
    rw [eA,eB] at hO
    (repeat (first|refine ctlS ?_|(refine ol_go ?_ (fun K1 hK1=>?_);exact trS;refine evS ?_;(try simp only [eA,eB]);refine hK1 _ _ ?_;clear hK1 K1)|(refine ow_go ?_ dsS (fun K1 hK1=>?_);exact trS;refine evS ?_;(try simp only [eA,eB]);refine hK1 _ ?_;clear hK1 K1)|refine skipS ?_|refine cS (limS_c hD hM (kid0 r)) ?_|refine cS (minS_c 400 (limD D (kid0 r))) ?_))
    (refine rtS Tryz.results114 ?_;exact ⟨_,_,.inl ⟨rfl,rfl⟩,List.nodup_nil,by rw [hO];rfl⟩)
   | true=>
    rw [eA,eB] at hO
    (repeat (first|refine ctlS ?_|(refine ol_go ?_ (fun K1 hK1=>?_);exact trS;refine evS ?_;(try simp only [eA,eB]);refine hK1 _ _ ?_;clear hK1 K1)|(refine ow_go ?_ dsS (fun K1 hK1=>?_);exact trS;refine evS ?_;(try simp only [eA,eB]);refine hK1 _ ?_;clear hK1 K1)|refine skipS ?_|refine cS (limS_c hD hM (kid0 r)) ?_|refine cS (minS_c 400 (limD D (kid0 r))) ?_))
    (refine rtS Tryz.results114 ?_;exact ⟨_,_,.inl ⟨rfl,rfl⟩,List.nodup_nil,by rw [hO];rfl⟩)
 refine walkS ?_
 refine aw_condS rfl (fun n10=>?_) (fun n10=>?_)
 ·have hO:ownV D r n bs.length vs.length=((n==0) && (decide ((bs.length:Int)≤400) && ((vs.length:Int)==0))):=by
   rw [ownV_10 n10,Bool.eq_iff_iff]
   simp only [decide_eq_true_eq,Bool.and_eq_true,beq_iff_eq]
   omega
  cases eA:(n==0) with
  | false=>
   rw [eA] at hO
   (repeat (first|refine ctlS ?_|(refine ol_go ?_ (fun K1 hK1=>?_);exact trS;refine evS ?_;(try simp only [eA]);refine hK1 _ _ ?_;clear hK1 K1)|(refine ow_go ?_ dsS (fun K1 hK1=>?_);exact trS;refine evS ?_;(try simp only [eA]);refine hK1 _ ?_;clear hK1 K1)|refine skipS ?_))
   (refine rtS Tryz.results114 ?_;exact ⟨_,_,.inl ⟨rfl,rfl⟩,List.nodup_nil,by rw [hO];rfl⟩)
  | true=>
   cases eB:decide ((bs.length:Int)≤400) with
   | false=>
    rw [eA,eB] at hO
    (repeat (first|refine ctlS ?_|(refine ol_go ?_ (fun K1 hK1=>?_);exact trS;refine evS ?_;(try simp only [eA,eB]);refine hK1 _ _ ?_;clear hK1 K1)|(refine ow_go ?_ dsS (fun K1 hK1=>?_);exact trS;refine evS ?_;(try simp only [eA,eB]);refine hK1 _ ?_;clear hK1 K1)|refine skipS ?_))
    (refine rtS Tryz.results114 ?_;exact ⟨_,_,.inl ⟨rfl,rfl⟩,List.nodup_nil,by rw [hO];rfl⟩)
   | true=>
    rw [eA,eB] at hO
    (repeat (first|refine ctlS ?_|(refine ol_go ?_ (fun K1 hK1=>?_);exact trS;refine evS ?_;(try simp only [eA,eB]);refine hK1 _ _ ?_;clear hK1 K1)|(refine ow_go ?_ dsS (fun K1 hK1=>?_);exact trS;refine evS ?_;(try simp only [eA,eB]);refine hK1 _ ?_;clear hK1 K1)|refine skipS ?_))
    (refine rtS Tryz.results114 ?_;exact ⟨_,_,.inl ⟨rfl,rfl⟩,List.nodup_nil,by rw [hO];rfl⟩)
 refine walkS ?_
 refine aw_condS rfl (fun n5=>?_) (fun n5=>?_)
 ·have hO:ownV D r n bs.length vs.length=((n==0) && (((bs.length:Int)==0) && decide ((vs.length:Int)≤minF 40 (limD D (kid0 r))))):=by
   rw [ownV_5 n5,Bool.eq_iff_iff]
   simp only [decide_eq_true_eq,Bool.and_eq_true,beq_iff_eq]
   unfold minF;split<;>omega
  have k0:=kids0 (r:=r) (by have:=(G.k5 n5).1;omega)
  cases eA:(n==0) with
  | false=>
   rw [eA] at hO
   (repeat (first|refine ctlS ?_|(refine ol_go ?_ (fun K1 hK1=>?_);exact trS;refine evS ?_;(try simp only [eA]);refine hK1 _ _ ?_;clear hK1 K1)|(refine ow_go ?_ dsS (fun K1 hK1=>?_);exact trS;refine evS ?_;(try simp only [eA]);refine hK1 _ ?_;clear hK1 K1)|refine skipS ?_|refine cS (limS_c hD hM (kid0 r)) ?_|refine cS (minS_c 40 (limD D (kid0 r))) ?_))
   (refine rtS Tryz.results114 ?_;exact ⟨_,_,.inl ⟨rfl,rfl⟩,List.nodup_nil,by rw [hO];rfl⟩)
  | true=>
   cases eB:((bs.length:Int)==0) with
   | false=>
    rw [eA,eB] at hO
    (repeat (first|refine ctlS ?_|(refine ol_go ?_ (fun K1 hK1=>?_);exact trS;refine evS ?_;(try simp only [eA,eB]);refine hK1 _ _ ?_;clear hK1 K1)|(refine ow_go ?_ dsS (fun K1 hK1=>?_);exact trS;refine evS ?_;(try simp only [eA,eB]);refine hK1 _ ?_;clear hK1 K1)|refine skipS ?_|refine cS (limS_c hD hM (kid0 r)) ?_|refine cS (minS_c 40 (limD D (kid0 r))) ?_))
    (refine rtS Tryz.results114 ?_;exact ⟨_,_,.inl ⟨rfl,rfl⟩,List.nodup_nil,by rw [hO];rfl⟩)
   | true=>
    rw [eA,eB] at hO
    (repeat (first|refine ctlS ?_|(refine ol_go ?_ (fun K1 hK1=>?_);exact trS;refine evS ?_;(try simp only [eA,eB]);refine hK1 _ _ ?_;clear hK1 K1)|(refine ow_go ?_ dsS (fun K1 hK1=>?_);exact trS;refine evS ?_;(try simp only [eA,eB]);refine hK1 _ ?_;clear hK1 K1)|refine skipS ?_|refine cS (limS_c hD hM (kid0 r)) ?_|refine cS (minS_c 40 (limD D (kid0 r))) ?_))
    (refine rtS Tryz.results114 ?_;exact ⟨_,_,.inl ⟨rfl,rfl⟩,List.nodup_nil,by rw [hO];rfl⟩)
 refine walkS ?_
 refine aw_condS rfl (fun n6=>?_) (fun n6=>?_)
 ·have hO:ownV D r n bs.length vs.length=((n==0) && (((bs.length:Int)==0) && ((vs.length:Int)==r.kids.length))):=by
   rw [ownV_6 n6,Bool.eq_iff_iff]
   simp only [decide_eq_true_eq,Bool.and_eq_true,beq_iff_eq]
   omega
  cases eA:(n==0) with
  | false=>
   rw [eA] at hO
   (repeat (first|refine ctlS ?_|(refine ol_go ?_ (fun K1 hK1=>?_);exact trS;refine evS ?_;(try simp only [eA]);refine hK1 _ _ ?_;clear hK1 K1)|(refine ow_go ?_ dsS (fun K1 hK1=>?_);exact trS;refine evS ?_;(try simp only [eA]);refine hK1 _ ?_;clear hK1 K1)|refine skipS ?_))
   (refine rtS Tryz.results114 ?_;exact ⟨_,_,.inl ⟨rfl,rfl⟩,List.nodup_nil,by rw [hO];rfl⟩)
  | true=>
   cases eB:((bs.length:Int)==0) with
   | false=>
    rw [eA,eB] at hO
    (repeat (first|refine ctlS ?_|(refine ol_go ?_ (fun K1 hK1=>?_);exact trS;refine evS ?_;(try simp only [eA,eB]);refine hK1 _ _ ?_;clear hK1 K1)|(refine ow_go ?_ dsS (fun K1 hK1=>?_);exact trS;refine evS ?_;(try simp only [eA,eB]);refine hK1 _ ?_;clear hK1 K1)|refine skipS ?_))
    (refine rtS Tryz.results114 ?_;exact ⟨_,_,.inl ⟨rfl,rfl⟩,List.nodup_nil,by rw [hO];rfl⟩)
   | true=>
    rw [eA,eB] at hO
    (repeat (first|refine ctlS ?_|(refine ol_go ?_ (fun K1 hK1=>?_);exact trS;refine evS ?_;(try simp only [eA,eB]);refine hK1 _ _ ?_;clear hK1 K1)|(refine ow_go ?_ dsS (fun K1 hK1=>?_);exact trS;refine evS ?_;(try simp only [eA,eB]);refine hK1 _ ?_;clear hK1 K1)|refine skipS ?_))
    (refine rtS Tryz.results114 ?_;exact ⟨_,_,.inl ⟨rfl,rfl⟩,List.nodup_nil,by rw [hO];rfl⟩)
 refine walkS ?_
 refine aw_condS rfl (fun n7=>?_) (fun n7=>?_)
 ·have hO:ownV D r n bs.length vs.length=(((bs.length:Int)==0) && (((vs.length:Int)==1) && decide (0≤itemK r n 0))):=by
   rw [ownV_7 n7,Bool.eq_iff_iff]
   simp only [decide_eq_true_eq,Bool.and_eq_true,beq_iff_eq]
   omega
  cases eA:((bs.length:Int)==0) with
  | false=>
   rw [eA] at hO
   (repeat (first|refine ctlS ?_|(refine ol_go ?_ (fun K1 hK1=>?_);exact trS;refine evS ?_;(try simp only [eA]);refine hK1 _ _ ?_;clear hK1 K1)|(refine ow_go ?_ dsS (fun K1 hK1=>?_);exact trS;refine evS ?_;(try simp only [eA]);refine hK1 _ ?_;clear hK1 K1)|refine skipS ?_|(refine callPre ?_;(first|refine callN_funS rfl (l9Item_c hr hM n 0 (by omega) (fun _=>(G.k7 n7).1) (by omega)) ?_))|(refine callPreL ?_;(first|refine callL_funS rfl (l9Item_c hr hM n 0 (by omega) (fun _=>(G.k7 n7).1) (by omega)) ?_))))
   (refine rtS Tryz.results114 ?_;exact ⟨_,_,.inl ⟨rfl,rfl⟩,List.nodup_nil,by rw [hO];rfl⟩)
  | true=>
   cases eB:((vs.length:Int)==1) with
   | false=>
    rw [eA,eB] at hO
    (repeat (first|refine ctlS ?_|(refine ol_go ?_ (fun K1 hK1=>?_);exact trS;refine evS ?_;(try simp only [eA,eB]);refine hK1 _ _ ?_;clear hK1 K1)|(refine ow_go ?_ dsS (fun K1 hK1=>?_);exact trS;refine evS ?_;(try simp only [eA,eB]);refine hK1 _ ?_;clear hK1 K1)|refine skipS ?_|(refine callPre ?_;(first|refine callN_funS rfl (l9Item_c hr hM n 0 (by omega) (fun _=>(G.k7 n7).1) (by omega)) ?_))|(refine callPreL ?_;(first|refine callL_funS rfl (l9Item_c hr hM n 0 (by omega) (fun _=>(G.k7 n7).1) (by omega)) ?_))))
    (refine rtS Tryz.results114 ?_;exact ⟨_,_,.inl ⟨rfl,rfl⟩,List.nodup_nil,by rw [hO];rfl⟩)
   | true=>
    rw [eA,eB] at hO
    (repeat (first|refine ctlS ?_|(refine ol_go ?_ (fun K1 hK1=>?_);exact trS;refine evS ?_;(try simp only [eA,eB]);refine hK1 _ _ ?_;clear hK1 K1)|(refine ow_go ?_ dsS (fun K1 hK1=>?_);exact trS;refine evS ?_;(try simp only [eA,eB]);refine hK1 _ ?_;clear hK1 K1)|refine skipS ?_|(refine callPre ?_;(first|refine callN_funS rfl (l9Item_c hr hM n 0 (by omega) (fun _=>(G.k7 n7).1) (by omega)) ?_))|(refine callPreL ?_;(first|refine callL_funS rfl (l9Item_c hr hM n 0 (by omega) (fun _=>(G.k7 n7).1) (by omega)) ?_))))
    (refine rtS Tryz.results114 ?_;exact ⟨_,_,.inl ⟨rfl,rfl⟩,List.nodup_nil,by rw [hO];rfl⟩)
 refine walkS ?_
 refine aw_condS rfl (fun n8=>?_) (fun n8=>?_)
 ·have hO:ownV D r n bs.length vs.length=((n==0) && (((bs.length:Int)==0) && decide ((vs.length:Int)≤1))):=by
   rw [ownV_8 n8,Bool.eq_iff_iff]
   simp only [decide_eq_true_eq,Bool.and_eq_true,beq_iff_eq]
   omega
  cases eA:(n==0) with
  | false=>
   rw [eA] at hO
   (repeat (first|refine ctlS ?_|(refine ol_go ?_ (fun K1 hK1=>?_);exact trS;refine evS ?_;(try simp only [eA]);refine hK1 _ _ ?_;clear hK1 K1)|(refine ow_go ?_ dsS (fun K1 hK1=>?_);exact trS;refine evS ?_;(try simp only [eA]);refine hK1 _ ?_;clear hK1 K1)|refine skipS ?_))
   (refine rtS Tryz.results114 ?_;exact ⟨_,_,.inl ⟨rfl,rfl⟩,List.nodup_nil,by rw [hO];rfl⟩)
  | true=>
   cases eB:((bs.length:Int)==0) with
   | false=>
    rw [eA,eB] at hO
    (repeat (first|refine ctlS ?_|(refine ol_go ?_ (fun K1 hK1=>?_);exact trS;refine evS ?_;(try simp only [eA,eB]);refine hK1 _ _ ?_;clear hK1 K1)|(refine ow_go ?_ dsS (fun K1 hK1=>?_);exact trS;refine evS ?_;(try simp only [eA,eB]);refine hK1 _ ?_;clear hK1 K1)|refine skipS ?_))
    (refine rtS Tryz.results114 ?_;exact ⟨_,_,.inl ⟨rfl,rfl⟩,List.nodup_nil,by rw [hO];rfl⟩)
   | true=>
    rw [eA,eB] at hO
    (repeat (first|refine ctlS ?_|(refine ol_go ?_ (fun K1 hK1=>?_);exact trS;refine evS ?_;(try simp only [eA,eB]);refine hK1 _ _ ?_;clear hK1 K1)|(refine ow_go ?_ dsS (fun K1 hK1=>?_);exact trS;refine evS ?_;(try simp only [eA,eB]);refine hK1 _ ?_;clear hK1 K1)|refine skipS ?_))
    (refine rtS Tryz.results114 ?_;exact ⟨_,_,.inl ⟨rfl,rfl⟩,List.nodup_nil,by rw [hO];rfl⟩)
 have n9:r.kind=9:=by omega
 have hO:ownV D r n bs.length vs.length=((n==0) && (((bs.length:Int)==0) && ((vs.length:Int)==1))):=by
  rw [ownV_9 n9,Bool.eq_iff_iff]
  simp only [decide_eq_true_eq,Bool.and_eq_true,beq_iff_eq]
  omega
 cases eA:(n==0) with
 | false=>
  rw [eA] at hO
  (repeat (first|refine ctlS ?_|(refine ol_go ?_ (fun K1 hK1=>?_);exact trS;refine evS ?_;(try simp only [eA]);refine hK1 _ _ ?_;clear hK1 K1)|(refine ow_go ?_ dsS (fun K1 hK1=>?_);exact trS;refine evS ?_;(try simp only [eA]);refine hK1 _ ?_;clear hK1 K1)|refine skipS ?_))
  (refine rtS Tryz.results114 ?_;exact ⟨_,_,.inl ⟨rfl,rfl⟩,List.nodup_nil,by rw [hO];rfl⟩)
 | true=>
  cases eB:((bs.length:Int)==0) with
  | false=>
   rw [eA,eB] at hO
   (repeat (first|refine ctlS ?_|(refine ol_go ?_ (fun K1 hK1=>?_);exact trS;refine evS ?_;(try simp only [eA,eB]);refine hK1 _ _ ?_;clear hK1 K1)|(refine ow_go ?_ dsS (fun K1 hK1=>?_);exact trS;refine evS ?_;(try simp only [eA,eB]);refine hK1 _ ?_;clear hK1 K1)|refine skipS ?_))
   (refine rtS Tryz.results114 ?_;exact ⟨_,_,.inl ⟨rfl,rfl⟩,List.nodup_nil,by rw [hO];rfl⟩)
  | true=>
   rw [eA,eB] at hO
   (repeat (first|refine ctlS ?_|(refine ol_go ?_ (fun K1 hK1=>?_);exact trS;refine evS ?_;(try simp only [eA,eB]);refine hK1 _ _ ?_;clear hK1 K1)|(refine ow_go ?_ dsS (fun K1 hK1=>?_);exact trS;refine evS ?_;(try simp only [eA,eB]);refine hK1 _ ?_;clear hK1 K1)|refine skipS ?_))
   (refine rtS Tryz.results114 ?_;exact ⟨_,_,.inl ⟨rfl,rfl⟩,List.nodup_nil,by rw [hO];rfl⟩)

theorem l9Valid_step (hD:DB M D) (hM:M≤1048576) (hV:descP D) {i:Nat} (hi:i<D.length) {n:Int}{bs:List UInt8}{vs:List V} (hv:VB 1048576 (.mk n bs vs)) (H:∀ v∈vs,∀ j:Nat,j<D.length→AC Tryz.prog 94 [.d (encD D),.d (iD j),.d (encV v)] none (fun r' _=>r'=.d (bD (validV D j v)))):AC Tryz.prog 94 [.d (encD D),.d (iD i),.d (encV (.mk n bs vs))] none (fun r' _=>r'=.d (bD (validV D i (.mk n bs vs)))):=by
 obtain ⟨r,hr⟩:∃ r,D[i]?=some r:=⟨_,List.getElem?_eq_getElem hi⟩
 have G:GoodR D i r:=good_of hV hr
 have hrb:=hD.rule r (List.mem_of_getElem? hr)
 have HO:=l9Own_c hD hM hrb G hv
 have hl:vs.length≤1048576:=by unfold VB at hv;exact hv.2.1
 have hval:validV D i (.mk n bs vs)=(ownV D r n bs.length vs.length && validVs D r n 0 vs):=by rw [validV,ruleD_get hr]
 rw [encV_mk,encVs_eq] at HO ⊢
 cases hO:ownV D r n bs.length vs.length with
 | false=>
  rw [hO] at HO hval
  refine cbS Tryz.func94 rfl Tryz.call94 Tryz.ntmps94 fun en hsz hks hk0=>?_;refine enS ?_
  (repeat (first|refine walkS ?_|refine cS (HO) ?_))
  refine aw_condS rfl (fun hc=>?_) (fun hc=>?_)
  ·refine walkS ?_
   (refine rtS Tryz.results94 ?_;exact ⟨_,_,.inl ⟨rfl,rfl⟩,List.nodup_nil,by rw [hval];rfl⟩)
  ·(first|exact absurd trivial hc|exact absurd rfl hc|(cases hc;done)|omega|exact absurd hc (by decide)|(simp at hc;done))
 | true=>
  have hkid:∀ k (h:k<vs.length),∃ j:Nat,itemK r n k=j∧j<D.length:=fun k h=>own_kid G hi hO h
  rw [hO,Bool.true_and] at hval
  rw [hO] at HO
  obtain ⟨h5,h7,h8⟩:=good_items G
  refine cbS Tryz.func94 rfl Tryz.call94 Tryz.ntmps94 fun en hsz hks hk0=>?_;refine enS ?_
  (repeat (first|refine walkS ?_|refine cS (HO) ?_))
  refine aw_condS rfl (fun hc=>?_) (fun hc=>?_)
  ·(first|exact absurd trivial hc|exact absurd rfl hc|(cases hc;done)|omega|exact absurd hc (by decide)|(simp at hc;done))
  refine walkS ?_
  refine aw_loopS [3,5,6,7] (fun _ _=>[]) (fun _ k=>[(8,.d (iD (k:Nat)))]) [] (fun _ _=>[]) [] (fun _ _=>[]) (fun k=>k≤vs.length∧validVs D r n 0 vs=validVs D r n k (vs.drop k)) (fun k=>vs.length - k) (0) hks (fun _=>rfl) ⟨Nat.zero_le _,rfl⟩ wkS ?_;intro x hx;refine headS ?_
  obtain ⟨hx1,hx2⟩:=hx
  refine walkS ?_
  refine aw_condS rfl (fun hk=>?_) (fun hk=>?_)
  ·obtain ⟨j,hj1,hj2⟩:=hkid x (by omega)
   have HV:=H (vs[x]'(by omega)) (List.getElem_mem _) j hj2
   rw [List.drop_eq_getElem_cons (show x<vs.length by omega),validVs,hj1] at hx2
   cases he:validV D j (vs[x]'(by omega)) with
   | false=>
    rw [he] at hx2 HV
    (repeat (first|refine walkS ?_|refine cS (HV) ?_|(refine callPre ?_;(first|refine callN_funS rfl ((l9Item_c hrb hM n x h5 h7 h8).eqv (r1:=.d (iD (j:Nat))) (by rw [hj1])) ?_))|(refine callPreL ?_;(first|refine callL_funS rfl ((l9Item_c hrb hM n x h5 h7 h8).eqv (r1:=.d (iD (j:Nat))) (by rw [hj1])) ?_))))
    refine aw_condS rfl (fun hc=>?_) (fun hc=>?_)
    ·refine walkS ?_
     (refine rtS Tryz.results94 ?_;exact ⟨_,_,.inl ⟨rfl,rfl⟩,List.nodup_nil,by rw [hval,hx2];rfl⟩)
    ·(first|exact absurd trivial hc|exact absurd rfl hc|(cases hc;done)|omega|exact absurd hc (by decide)|(simp at hc;done))
   | true=>
    rw [he,Bool.true_and] at hx2
    rw [he] at HV
    (repeat (first|refine walkS ?_|refine cS (HV) ?_|(refine callPre ?_;(first|refine callN_funS rfl ((l9Item_c hrb hM n x h5 h7 h8).eqv (r1:=.d (iD (j:Nat))) (by rw [hj1])) ?_))|(refine callPreL ?_;(first|refine callL_funS rfl ((l9Item_c hrb hM n x h5 h7 h8).eqv (r1:=.d (iD (j:Nat))) (by rw [hj1])) ?_))))
    refine aw_condS rfl (fun hc=>?_) (fun hc=>?_)
    ·(first|exact absurd trivial hc|exact absurd rfl hc|(cases hc;done)|omega|exact absurd hc (by decide)|(simp at hc;done))
    ·refine walkS ?_
     refine ⟨x+1,⟨by omega,hx2⟩,by omega,?_⟩
     exact wkS
  ·rw [List.drop_eq_nil_of_le (by omega),validVs] at hx2
   refine walkS ?_
   (refine rtS Tryz.results94 ?_;exact ⟨_,_,.inl ⟨rfl,rfl⟩,List.nodup_nil,by rw [hval,hx2]⟩)
theorem l9Valid_all (hD:DB M D) (hM:M≤1048576) (hV:descP D):∀ N:Nat,∀ {v:V}{i:Nat},i<D.length→SizeOf.sizeOf v≤N→VB 1048576 v→AC Tryz.prog 94 [.d (encD D),.d (iD i),.d (encV v)] none (fun r' _=>r'=.d (bD (validV D i v)))
 | 0,.mk n bs vs,i,_,h,_=>by simp only [V.mk.sizeOf_spec] at h;omega
 | N+1,.mk n bs vs,i,hi,h,hv=>l9Valid_step hD hM hV hi hv fun v hvm j hj=>l9Valid_all hD hM hV N hj (by have:=item_lt (n:=n) (bs:=bs) hvm;omega) (by unfold VB at hv;exact hv.2.2.el v hvm)

noncomputable def isVal (D:List RuleD) (i:Int) (v:V):Bool:=vKnown D i && validV D i v
theorem isValidS_c (hD:DB M D) (hM:M≤1048576) (i:Int) {v:V} (hv:VB 1048576 v):AC Tryz.prog 55 [.d (encD D),.d (iD i),.d (encV v)] none (fun r' _=>r'=.d (bD (isVal D i v))):=by
 have hp:isVal D i v=(vKnown D i && validV D i v):=rfl
 cases hk:vKnown D i with
 | false=>
  rw [hk] at hp
  refine cbS Tryz.func55 rfl Tryz.call55 Tryz.ntmps55 fun en hsz hks hk0=>?_;refine enS ?_
  (repeat (first|refine walkS ?_|(refine callPre ?_;(first|refine callN_funS rfl ((l7Rule_c hD hM i).eqv (r1:=.d (bD false)) (by rw [hk])) ?_))|(refine callPreL ?_;(first|refine callL_funS rfl ((l7Rule_c hD hM i).eqv (r1:=.d (bD false)) (by rw [hk])) ?_))))
  (refine rtS Tryz.results55 ?_;exact ⟨_,_,.inl ⟨rfl,rfl⟩,List.nodup_nil,by rw [hp];rfl⟩)
 | true=>
  rw [hk] at hp
  obtain ⟨v1,v2,v3⟩:=vKnown_spec hk
  have HV:=l9Valid_all hD hM v1 _ (i:=i.toNat) (by omega) (Nat.le_refl _) hv
  rw [Int.toNat_of_nonneg v2] at HV
  refine cbS Tryz.func55 rfl Tryz.call55 Tryz.ntmps55 fun en hsz hks hk0=>?_;refine enS ?_
  (repeat (first|refine walkS ?_|refine cS (HV) ?_|(refine callPre ?_;(first|refine callN_funS rfl ((l7Rule_c hD hM i).eqv (r1:=.d (bD true)) (by rw [hk])) ?_))|(refine callPreL ?_;(first|refine callL_funS rfl ((l7Rule_c hD hM i).eqv (r1:=.d (bD true)) (by rw [hk])) ?_))))
  (refine rtS Tryz.results55 ?_;exact ⟨_,_,.inl ⟨rfl,rfl⟩,List.nodup_nil,by rw [hp];rfl⟩)
end
end Go.Proofs.YtodkkldopciagaaGreatDoor.Eng
