/-
 The program's reader: errors, integers, consts, bytes.

 The program's reader: items.

 The program's reader: arrays, choices, options, what is checked.
-/
import Derived.Test.YtecdbogicpffeaaGreatDoorKNR
import Derived.Test.YtecdbogicpffeaaGreatDoorKN10
import Derived.Test.YtecdbogicpffeaaGreatDoorKE4
set_option linter.unusedSimpArgs false
set_option linter.unusedVariables false
set_option linter.defProp false
set_option maxRecDepth 100000
set_option maxHeartbeats 4000000
namespace Go.Proofs.YtecdbogicpffeaaGreatDoor.Eng
open Go Go.RowKit

abbrev erD (q c:Int):D:=.ifc 117 (.rp [iD q,iD c])
abbrev nilE:D:=.v .nilIface
def eD (q c:Nat):D:=if c=0 then nilE else erD q c
theorem eD_p {q c:Nat} (h:c≠0):eD q c=erD q c:=if_neg h
abbrev rdE (m:Nat) (x:V × Nat × Nat):Rz:=.d (.tup [encV x.1,iD m,eD x.2.1 x.2.2])
abbrev frD (D:List RuleD) (b:List UInt8):Eng.D:=.rp [encDs D,encB b]

private def tyF:=ai (ai (ai (ai tg25 tg29) (ai tg40 tg80)) (ai (ai tg81 tg112) (ai tg121 tg31))) (ai (ai (ai tg42 tg83) (ai tg110 tg114)) (ai (ai tg117 tg3) (ai tg4 (ai tg5 tg9))))
theorem fail_c (q c:Int):AC Tryz.prog 140 [.d (iD q),.d (iD c)] none (fun r' _=>r'=.d (erD q c)):=by
 refine cbS Tryz.func140 rfl Tryz.call140 Tryz.ntmps140 fun en hsz hks hk0=>?_;refine enS ?_
 refine walkS ?_
 refine aw_freezeI 4 16 _ [iD q,iD c] rfl rfl hks (by decide) ?_
 (refine rtS Tryz.results140 ?_;exact ⟨_,_,.inl ⟨rfl,rfl⟩,List.nodup_nil,rfl⟩)

section
variable {M:Nat}{D:List RuleD}{b:List UInt8}
theorem take_c (hb:b.length≤1048576) (p:Nat) (hp:p≤b.length) (n:Int) (hn:0≤n∧n≤4294967296):AC Tryz.prog 183 [.d (frD D b),.d (iD p),.d (iD n)] none (fun r' _=>r'=if (b.length:Int) - p<n then .d (.tup [encB [],erD p 1]) else .d (.tup [encB ((b.drop p).take n.toNat),nilE])):=by
 refine cbS Tryz.func183 rfl Tryz.call183 Tryz.ntmps183 fun en hsz hks hk0=>?_;refine enS ?_
 refine walkS ?_
 refine aw_condS rfl (fun h=>?_) (fun h=>?_)
 ·(repeat (first|refine walkS ?_|refine cS (fail_c p 1) ?_))
  (refine rtS Tryz.results183 ?_;refine ⟨_,[],.inr (.inl ⟨.tup [encB [],erD p 1],rfl,rfl,?_⟩),List.nodup_nil,by rw [if_pos (by omega)]⟩;exact wkDS)
 ·refine walkS ?_
  (refine rtS Tryz.results183 ?_;exact ⟨_,_,.inl ⟨rfl,rfl⟩,List.nodup_nil,by rw [if_neg (by omega),show ((p:Int)+n).toNat - p=n.toNat by omega]⟩)

abbrev intE (x:Option Nat) (s p:Nat):Rz:=match x with
 | some n=>.d (.tup [iD n,iD (p+s:Nat),nilE])
 | none=>.d (.tup [iD 0,iD p,erD p 1])
theorem intAt_no {r:RuleD}{p:Nat} (h:(b.length:Int) - p<r.size):intAt r b p=none:=by simp [intAt,h]
theorem intAt_yes {r:RuleD}{p:Nat} (h:¬(b.length:Int) - p<r.size):intAt r b p=some (readInt ((b.drop p).take r.size.toNat) r.little):=by simp [intAt,h]
theorem integerI_c (hD:DB M D) (hM:M≤1048576) (hb:b.length≤1048576) {n:Nat}{r:RuleD} (hr:D[n]?=some r) (hsz':1≤r.size∧r.size≤4) (p:Nat) (hp:p≤b.length):AC Tryz.prog 131 [.d (frD D b),.d (iD n),.d (iD p)] none (fun r' _=>r'=intE (intAt r b p) r.size.toNat p):=by
 have HT:=take_c (D:=D) hb p hp r.size ⟨by omega,by omega⟩
 by_cases h:(b.length:Int) - p<r.size
 ·rw [if_pos h] at HT
  rw [intAt_no h]
  refine cbS Tryz.func131 rfl Tryz.call131 Tryz.ntmps131 fun en hsz hks hk0=>?_;refine enS ?_
  (repeat (first|refine walkS ?_|refine cS (HT) ?_))
  refine aw_condS rfl (fun hc=>?_) (fun hc=>?_)
  ·refine walkS ?_
   (refine rtS Tryz.results131 ?_;exact ⟨_,_,.inl ⟨rfl,rfl⟩,List.nodup_nil,rfl⟩)
  ·(first|exact absurd trivial hc|exact absurd rfl hc|(cases hc;done)|omega|exact absurd hc (by decide)|(simp at hc;done))
 ·rw [if_neg h] at HT
  rw [intAt_yes h]
  have hlen:(List.take r.size.toNat (List.drop p b)).length≤4:=by simp;omega
  refine cbS Tryz.func131 rfl Tryz.call131 Tryz.ntmps131 fun en hsz hks hk0=>?_;refine enS ?_
  (repeat (first|refine walkS ?_|refine cS (HT) ?_))
  refine aw_condS rfl (fun hc=>?_) (fun hc=>?_)
  ·(first|exact absurd trivial hc|exact absurd rfl hc|(cases hc;done)|omega|exact absurd hc (by decide)|(simp at hc;done))
  ·(repeat (first|refine walkS ?_|refine cS (readIntI_c r.little) ?_))
   (refine rtS Tryz.results131 ?_;exact ⟨_,_,.inl ⟨rfl,rfl⟩,List.nodup_nil,by simp only [intE];rw [show ((p+r.size.toNat:Nat):Int)=p+r.size by omega]⟩)

theorem constantI_c {r:RuleD} (hr:RB M r) (hM:M≤1048576) (hb:b.length≤1048576) (p:Nat) (hp:p≤b.length):AC Tryz.prog 132 [.d (frD D b),.d (encR r),.d (iD p)] none (fun r' _=>r'=.d (.tup [iD (if (constAt b p 0 r.bytes).2=0 then (constAt b p 0 r.bytes).1 else p:Nat),eD (constAt b p 0 r.bytes).1 (constAt b p 0 r.bytes).2])):=by
 have hl:=hr.lb
 refine cbS Tryz.func132 rfl Tryz.call132 Tryz.ntmps132 fun en hsz hks hk0=>?_;refine enS ?_
 refine walkS ?_
 refine aw_loopS [0,2,4,6,7,11,12] (fun _ _=>[]) (fun _ k=>[(13,.d (iD (k:Nat)))]) [] (fun _ _=>[]) [] (fun _ _=>[]) (fun k=>k≤r.bytes.length∧p+k≤b.length∧constAt b p 0 r.bytes=constAt b p k (r.bytes.drop k)) (fun k=>r.bytes.length - k) (0) hks (fun _=>rfl) ⟨Nat.zero_le _,hp,rfl⟩ wkS ?_;intro x hx;refine headS ?_
 obtain ⟨hx1,hx2,hx3⟩:=hx
 refine walkS ?_
 refine aw_condS rfl (fun hk=>?_) (fun hk=>?_)
 ·have hd:r.bytes.drop x=r.bytes[x]'(by omega)::r.bytes.drop (x+1):=List.drop_eq_getElem_cons (by omega)
  rw [hd] at hx3
  refine walkS ?_
  refine aw_condS rfl (fun hs=>?_) (fun hs=>?_)
  ·(repeat (first|refine walkS ?_|refine cS (fail_c p 1) ?_))
   (refine rtS Tryz.results132 ?_;exact ⟨_,_,.inl ⟨rfl,rfl⟩,List.nodup_nil,by rw [hx3,constAt_short (by omega)];rfl⟩)
  ·have hi:b[p+x]?=some (b[p+x]'(by omega)):=List.getElem?_eq_getElem (by omega)
   have hpx:((p:Int)+x).toNat=p+x:=by omega
   (repeat (first|refine ctlS ?_|(refine ol_go ?_ (fun K1 hK1=>?_);exact trS;refine evS ?_;(try rw [hpx]);(first|refine ⟨_,idx_some _ hi,?_⟩|skip);refine hK1 _ _ ?_;clear hK1 K1)|(refine ow_go ?_ dsS (fun K1 hK1=>?_);exact trS;refine evS ?_;(try rw [hpx]);(first|refine ⟨_,idx_some _ hi,?_⟩|skip);refine hK1 _ ?_;clear hK1 K1)|refine skipS ?_))
   refine aw_condS rfl (fun hn=>?_) (fun hn=>?_)
   ·(repeat (first|refine walkS ?_|refine cS (fail_c ((p:Int)+x) 2) ?_))
    (refine rtS Tryz.results132 ?_;exact ⟨_,_,.inl ⟨rfl,rfl⟩,List.nodup_nil,by rw [hx3,constAt_bad (by omega) (u8_ninj hn)];rfl⟩)
   ·refine walkS ?_
    refine ⟨x+1,⟨by omega,by omega,by rw [hx3,constAt_step (by omega) (u8_inj hn)]⟩,by omega,?_⟩
    exact wkS
 ·refine walkS ?_
  (refine rtS Tryz.results132 ?_;exact ⟨_,_,.inl ⟨rfl,rfl⟩,List.nodup_nil,by rw [hx3,List.drop_eq_nil_of_le (by omega),constAt_end,show x=r.bytes.length by omega];rfl⟩)

theorem contentI_c (hb:b.length≤1048576) (p:Nat) (hp:p≤b.length) (n:Nat) (hn:n≤4294967296):AC Tryz.prog 133 [.d (frD D b),.d (iD p),.d (iD n)] none (fun r' _=>r'=rdE (bytesAt b p n).2.1 (bytesAt b p n)):=by
 have HT:=take_c (D:=D) hb p hp n ⟨by omega,by omega⟩
 by_cases h:(b.length:Int) - p<n
 ·rw [if_pos h] at HT
  refine cbS Tryz.func133 rfl Tryz.call133 Tryz.ntmps133 fun en hsz hks hk0=>?_;refine enS ?_
  (repeat (first|refine walkS ?_|refine cS (HT) ?_))
  refine aw_condS rfl (fun hc=>?_) (fun hc=>?_)
  ·refine walkS ?_
   (refine rtS Tryz.results133 ?_;refine ⟨_,[],.inr (.inl ⟨.tup [encV V0,iD (p:Int),erD p 1],rfl,rfl,?_⟩),List.nodup_nil,by rw [bytesAt_no (by omega)];rfl⟩;exact wkDS)
  ·(first|exact absurd trivial hc|exact absurd rfl hc|(cases hc;done)|omega|exact absurd hc (by decide)|(simp at hc;done))
 ·rw [if_neg h] at HT
  have hlen:(List.take n (List.drop p b)).length≤1048576:=by simp;omega
  refine cbS Tryz.func133 rfl Tryz.call133 Tryz.ntmps133 fun en hsz hks hk0=>?_;refine enS ?_
  (repeat (first|refine walkS ?_|refine cS (HT) ?_))
  refine aw_condS rfl (fun hc=>?_) (fun hc=>?_)
  ·(first|exact absurd trivial hc|exact absurd rfl hc|(cases hc;done)|omega|exact absurd hc (by decide)|(simp at hc;done))
  ·refine walkS ?_
   (refine rtS Tryz.results133 ?_;refine ⟨_,[],.inr (.inl ⟨.tup [encV (.mk 0 (List.take n (List.drop p b)) []),iD ((p:Int)+n),nilE],rfl,rfl,?_⟩),List.nodup_nil,by rw [bytesAt_yes (by omega)];rfl⟩;exact wkDS)
end
end Go.Proofs.YtecdbogicpffeaaGreatDoor.Eng
namespace Go.Proofs.YtecdbogicpffeaaGreatDoor.Eng
open Go Go.RowKit

def atItems (f:Nat→Nat→V × Nat × Nat):List Nat→Nat→Nat
 | [],p=>p
 | k::ks,p=>if (f k p).2.2=0 then atItems f ks (f k p).2.1 else p
theorem atItems_bad {f:Nat→Nat→V × Nat × Nat}{k p:Nat}{ks:List Nat} (h:(f k p).2.2≠0):atItems f (k::ks) p=p:=by rw [atItems,if_neg h]
theorem atItems_ok {f:Nat→Nat→V × Nat × Nat}{k p:Nat}{ks:List Nat} (h:(f k p).2.2=0):atItems f (k::ks) p=atItems f ks (f k p).2.1:=by rw [atItems,if_pos h]
theorem atItems_end {f:Nat→Nat→V × Nat × Nat}:∀ {ks:List Nat}{p:Nat},(rdItems f ks p).2.2=0→atItems f ks p=(rdItems f ks p).2.1
 | [],p,_=>rfl
 | k::ks,p,h=>by
  unfold rdItems at h ⊢
  unfold atItems
  generalize f k p=x at *
  obtain ⟨v,q,c⟩:=x
  by_cases hc:c=0
  ·simp only [hc,if_true] at h ⊢
   have ih:=atItems_end (f:=f) (ks:=ks) (p:=q)
   generalize rdItems f ks q=y at *
   obtain ⟨vs,q2,c2⟩:=y
   by_cases hc2:c2=0
   ·simp only [hc2,if_true] at h ih ⊢
    exact ih trivial
   ·simp [hc2] at h
  ·simp [hc] at h

section
variable {M:Nat}{D:List RuleD}{b:List UInt8}
def RdOK (D:List RuleD) (b:List UInt8) (f:Nat):Prop:=∀ n p:Nat,n<f→n<D.length→p≤b.length→∃ m:Nat,((rd D b f n p).2.2=0→m=(rd D b f n p).2.1)∧AC Tryz.prog 73 [.d (frD D b),.d (iD n),.d (iD p)] none (fun r _=>r=rdE m (rd D b f n p))
abbrev V0d (n:Int):Eng.D:=.agg [iD n,.v (.slice none 0 0),.v (.slice none 0 0)]

theorem itemsI_c {f:Nat} (H:RdOK D b f) (n:Int) (ks:List Nat) (hkl:ks.length≤1048576) (hkr:∀ i (hi:i<ks.length),ks[i]<f∧ks[i]<D.length) (p:Nat) (hp:p≤b.length):AC Tryz.prog 135 [.d (frD D b),.d (V0d n),.d (encI (ks.map fun k:Nat=>(k:Int))),.d (iD p)] none (fun r' _=>r'=rdE (atItems (rd D b f) ks p) (mkItems n (rdItems (rd D b f) ks p))):=by
 have hl:(ks.map fun k:Nat=>(k:Int)).length=ks.length:=List.length_map _
 refine cbS Tryz.func135 rfl Tryz.call135 Tryz.ntmps135 fun en hsz hks hk0=>?_;refine enS ?_
 refine walkS ?_
 refine aw_loopS [0,5,8,9,10,16,17] (fun κ s'=>[(κ,keyB s' 16 2)]) (fun κ x=>[(18,.d (iD (x.1:Nat))),(3,.d (iD (x.2.1:Nat)))]) [16] (fun κ x=>[(16,some [.d (iD n),.d (.v (.slice none 0 0)),.own κ 42 3 (encVs x.2.2)])]) [] (fun κ x=>[(κ,some (x.2.2.length,42,3))]) (fun x:Nat × Nat × List V=>x.1≤ks.length∧x.2.1≤b.length∧x.2.2.length=x.1∧rdItems (rd D b f) ks p=joinItems x.2.2 (rdItems (rd D b f) (ks.drop x.1) x.2.1)∧atItems (rd D b f) ks p=atItems (rd D b f) (ks.drop x.1) x.2.1) (fun x=>ks.length - x.1) ((0,p,[])) hks (fun _=>rfl) ⟨Nat.zero_le _,hp,rfl,joinItems_start _ _ _,rfl⟩ wkS ?_;intro x hx;refine headS ?_
 obtain ⟨k,q,vs⟩:=x
 simp only at hx ⊢
 obtain ⟨hx1,hx2,hx3,hx4,hx5⟩:=hx
 refine walkS ?_
 refine aw_condS rfl (fun hk=>?_) (fun hk=>?_)
 ·obtain ⟨hk2,hk3⟩:=hkr k (by omega)
  have hi:(ks.map fun k:Nat=>(k:Int))[k]?=some ((ks[k]:Nat):Int):=by rw [List.getElem?_map,List.getElem?_eq_getElem (by omega)];rfl
  have hin:=rd_in D b f ks[k] q hx2
  obtain ⟨m,hm,HV⟩:=H _ q hk2 hk3 hx2
  have hdk:ks.drop k=ks[k]::ks.drop (k+1):=List.drop_eq_getElem_cons (by omega)
  have hbad:=joinItems_bad (f:=rd D b f) (vs:=vs) (k:=ks[k]) (ks:=ks.drop (k+1)) (q:=q)
  have hok:=joinItems_ok (f:=rd D b f) (vs:=vs) (k:=ks[k]) (ks:=ks.drop (k+1)) (q:=q)
  have hab:=atItems_bad (f:=rd D b f) (k:=ks[k]) (ks:=ks.drop (k+1)) (p:=q)
  have hao:=atItems_ok (f:=rd D b f) (k:=ks[k]) (ks:=ks.drop (k+1)) (p:=q)
  rw [hdk] at hx4 hx5
  generalize rd D b f ks[k] q=res at *
  obtain ⟨v,q2,c⟩:=res
  obtain ⟨hin1,hin2⟩:=hin
  simp only at hin1 hin2 hm hbad hok hab hao
  by_cases hc0:c=0
  ·subst hc0
   obtain rfl:=hm rfl
   rw [hok rfl] at hx4
   rw [hao rfl] at hx5
   rw [show rdE m (v,m,0)=.d (.tup [encV v,iD m,nilE]) from rfl] at HV
   (repeat (first|refine walkS ?_|refine cS (HV) ?_))
   refine aw_condS rfl (fun hc=>?_) (fun hc=>?_)
   ·(first|exact absurd trivial hc|exact absurd rfl hc|(cases hc;done)|omega|exact absurd hc (by decide)|(simp at hc;done))
   ·refine walkS ?_
    refine ⟨(k+1,m,vs++[v]),⟨by simp only;omega,hin2,by simp [hx3],hx4,hx5⟩,by simp only;omega,?_⟩
    exact wkS
  ·rw [hbad hc0] at hx4
   rw [hab hc0] at hx5
   rw [show rdE m (v,q2,c)=.d (.tup [encV v,iD m,erD q2 c]) by simp only [rdE,eD_p hc0]] at HV
   (repeat (first|refine walkS ?_|refine cS (HV) ?_))
   refine aw_condS rfl (fun hc=>?_) (fun hc=>?_)
   ·refine walkS ?_
    (refine rtS Tryz.results135 ?_;refine ⟨_,[],.inr (.inl ⟨.tup [encV V0,iD (q:Nat),erD q2 c],rfl,rfl,?_⟩),List.nodup_nil,by rw [hx4,hx5];simp only [mkItems,if_neg hc0,rdE,eD_p hc0]⟩;exact wkDS)
   ·(first|exact absurd trivial hc|exact absurd rfl hc|(cases hc;done)|omega|exact absurd hc (by decide)|(simp at hc;done))
 ·refine walkS ?_
  (refine rtS Tryz.results135 ?_;refine ⟨_,[],.inr (.inl ⟨.tup [encV (.mk n [] vs),iD (q:Nat),nilE],rfl,rfl,?_⟩),List.nodup_nil,by rw [hx4,hx5,List.drop_eq_nil_of_le (by omega),joinItems_end];rfl⟩;exact wkDS)
end
end Go.Proofs.YtecdbogicpffeaaGreatDoor.Eng
namespace Go.Proofs.YtecdbogicpffeaaGreatDoor.Eng
open Go Go.RowKit

section
variable {M:Nat}{D:List RuleD}{b:List UInt8}
def RdC (D:List RuleD) (b:List UInt8) (f:FuncId) (args:List A) (x:V × Nat × Nat):Prop:=∃ m:Nat,(x.2.2=0→m=x.2.1)∧AC Tryz.prog f args none (fun r _=>r=rdE m x)
theorem rdE_0 {m:Nat}{v:V}{q:Nat}:rdE m (v,q,0)=.d (.tup [encV v,iD m,nilE]):=rfl
theorem rdE_p {m:Nat}{v:V}{q c:Nat} (h:c≠0):rdE m (v,q,c)=.d (.tup [encV v,iD m,erD q c]):=by simp only [rdE,eD_p h]
theorem itemsI_n {f:Nat} (H:RdOK D b f) (n:Int) (x k:Nat) (hk:k≤1048576) (hx:x<f∧x<D.length) (p:Nat) (hp:p≤b.length):AC Tryz.prog 135 [.d (frD D b),.d (V0d n),.d (encI (List.replicate k (x:Int))),.d (iD p)] none (fun r' _=>r'=rdE (atItems (rd D b f) (List.replicate k x) p) (mkItems n (rdItems (rd D b f) (List.replicate k x) p))):=by
 have:=itemsI_c H n (List.replicate k x) (by simpa using hk) (fun i hi=>by rw [replicate_get hi];exact hx) p hp
 rwa [List.map_replicate] at this
theorem itemsI_k {f:Nat} (H:RdOK D b f) (n:Int) (ks:List Int) (hkl:ks.length≤1048576) (hkr:∀ i (hi:i<ks.length),0≤ks[i]∧ks[i]<f∧ks[i]<D.length) (p:Nat) (hp:p≤b.length):AC Tryz.prog 135 [.d (frD D b),.d (V0d n),.d (encI ks),.d (iD p)] none (fun r' _=>r'=rdE (atItems (rd D b f) (ks.map Int.toNat) p) (mkItems n (rdItems (rd D b f) (ks.map Int.toNat) p))):=by
 have:=itemsI_c H n (ks.map Int.toNat) (by simpa using hkl) (fun i hi=>by
  have hi':i<ks.length:=by simpa using hi
  have:=hkr i hi'
  rw [List.getElem_map]
  omega) p hp
 have e:((ks.map Int.toNat).map fun k:Nat=>(k:Int))=ks:=by
  rw [List.map_map]
  refine List.ext_getElem (by simp) fun i h1 h2=>?_
  have:=hkr i h2
  rw [List.getElem_map]
  show ((ks[i].toNat:Nat):Int)=ks[i]
  omega
 rwa [e] at this
theorem atItems_mk {f:Nat→Nat→V × Nat × Nat}{ks:List Nat}{n:Int}{p:Nat} (h:(mkItems n (rdItems f ks p)).2.2=0):atItems f ks p=(mkItems n (rdItems f ks p)).2.1:=by
 unfold mkItems at h ⊢
 split at h
 ·rename_i h0
  rw [if_pos h0]
  exact atItems_end h0
 ·rename_i h0
  exact absurd h h0

theorem arrayI_c (hD:DB M D) (hM:M≤1048576) (hb:b.length≤1048576) {f:Nat} (H:RdOK D b f) {n:Nat}{r:RuleD} (hr:D[n]?=some r) (hn:n≤f) (G:GoodR D n r) (hk:r.kind=5) (p:Nat) (hp:p≤b.length):RdC D b 134 [.d (frD D b),.d (encR r),.d (iD p)] (rd D b (f+1) n p):=by
 have hrb:=hD.rule r (List.mem_of_getElem? hr)
 obtain ⟨g1,g2⟩:=G.k5 hk
 obtain ⟨j,q,ej,hj,hq,hqr⟩:=kid_int (by omega:0≤limD D (kid0 r))
 have hkid:r.kids[0]?=some (j:Int):=by rw [kids0 (by omega),ej]
 obtain ⟨kk,ekk,hkk⟩:∃ x:Nat,kid1 r=(x:Int)∧x<n:=by
  have h1:=kids1 (r:=r) (by omega)
  have h2:=G.kid 1 (by omega)
  rw [List.getElem?_eq_getElem (by omega)] at h1
  have h3:=Option.some.inj h1
  exact ⟨(kid1 r).toNat,by omega,by omega⟩
 have hkid1:r.kids[1]?=some (kk:Int):=by rw [kids1 (by omega),ekk]
 have hrd:=ruleD_get hr
 have hnl:n<D.length:=(List.getElem?_eq_some_iff.1 hr).1
 have HN:=integerI_c hD hM hb hj hq p hp
 cases hi:intAt q b p with
 | none=>
  rw [hi] at HN
  rw [rd_45n hrd (.inr hk) (by rw [hqr];exact hi)]
  refine ⟨p,fun h=>(by cases h),?_⟩
  refine cbS Tryz.func134 rfl Tryz.call134 Tryz.ntmps134 fun en hsz hks hk0=>?_;refine enS ?_
  (repeat (first|refine walkS ?_|(refine ow_make ?_ dsS rfl rfl ?_ te81 tr3 tz3 ?_;exact trS;omega;refine stS0 ?_)|refine cS (HN) ?_))
  refine aw_condS rfl (fun hc=>?_) (fun hc=>?_)
  ·(repeat (first|refine walkS ?_|(refine ow_make ?_ dsS rfl rfl ?_ te81 tr3 tz3 ?_;exact trS;omega;refine stS0 ?_)))
   (refine rtS Tryz.results134 ?_;refine ⟨_,[],.inr (.inl ⟨.tup [encV V0,iD (p:Nat),erD p 1],rfl,rfl,?_⟩),List.nodup_nil,rfl⟩;exact wkDS)
  ·(first|exact absurd trivial hc|exact absurd rfl hc|(cases hc;done)|omega|exact absurd hc (by decide)|(simp at hc;done))
 | some m=>
  rw [hi] at HN
  obtain ⟨hi1,hi2⟩:=intAt_in hi hp
  by_cases h40:40<m
  ·rw [rd_5c hrd hk (by rw [hqr];exact hi) h40]
   refine ⟨p,fun h=>(by cases h),?_⟩
   refine cbS Tryz.func134 rfl Tryz.call134 Tryz.ntmps134 fun en hsz hks hk0=>?_;refine enS ?_
   (repeat (first|refine walkS ?_|(refine ow_make ?_ dsS rfl rfl ?_ te81 tr3 tz3 ?_;exact trS;omega;refine stS0 ?_)|refine cS (HN) ?_))
   refine aw_condS rfl (fun hc=>?_) (fun hc=>?_)
   ·(first|exact absurd trivial hc|exact absurd rfl hc|(cases hc;done)|omega|exact absurd hc (by decide)|(simp at hc;done))
   (repeat (first|refine walkS ?_|(refine ow_make ?_ dsS rfl rfl ?_ te81 tr3 tz3 ?_;exact trS;omega;refine stS0 ?_)))
   refine aw_condS rfl (fun hc=>?_) (fun hc=>?_)
   ·(repeat (first|refine walkS ?_|(refine ow_make ?_ dsS rfl rfl ?_ te81 tr3 tz3 ?_;exact trS;omega;refine stS0 ?_)|refine cS (fail_c p 6) ?_))
    (refine rtS Tryz.results134 ?_;refine ⟨_,[],.inr (.inl ⟨.tup [encV V0,iD (p:Nat),erD p 6],rfl,rfl,?_⟩),List.nodup_nil,rfl⟩;exact wkDS)
   ·(first|exact absurd trivial hc|exact absurd rfl hc|(cases hc;done)|omega|exact absurd hc (by decide)|(simp at hc;done))
  ·have hfin:=rd_5s (f:=f) hrd hk (by rw [hqr];exact hi) h40
   rw [hqr,show (kid1 r).toNat=kk by omega] at hfin
   rw [hfin]
   have HI:=itemsI_n H 0 kk m (by omega) ⟨by omega,by omega⟩ (p+q.size.toNat) hi1
   refine ⟨atItems (rd D b f) (List.replicate m kk) (p+q.size.toNat),atItems_mk,?_⟩
   generalize atItems (rd D b f) (List.replicate m kk) (p+q.size.toNat)=am at *
   generalize mkItems 0 (rdItems (rd D b f) (List.replicate m kk) (p+q.size.toNat))=y at *
   have hl:(List.replicate m (kk:Int)).length=m:=List.length_replicate ..
   have h0:List.map A.d (List.replicate m [Eng.D.v (Value.int IntKind.i64 0)]).flatten=arrC (fun v:Int=>[iD v]) [iD 0] (List.replicate m (kk:Int)) 0:=by rw [arrC_0,hl]
   refine cbS Tryz.func134 rfl Tryz.call134 Tryz.ntmps134 fun en hsz hks hk0=>?_;refine enS ?_
   (repeat (first|refine walkS ?_|(refine ow_make ?_ dsS rfl rfl ?_ te81 tr3 tz3 ?_;exact trS;omega;refine stS0 ?_)|refine cS (HN) ?_))
   refine aw_condS rfl (fun hc=>?_) (fun hc=>?_)
   ·(first|exact absurd trivial hc|exact absurd rfl hc|(cases hc;done)|omega|exact absurd hc (by decide)|(simp at hc;done))
   (repeat (first|refine walkS ?_|(refine ow_make ?_ dsS rfl rfl ?_ te81 tr3 tz3 ?_;exact trS;omega;refine stS0 ?_)))
   refine aw_condS rfl (fun hc=>?_) (fun hc=>?_)
   ·(first|exact absurd trivial hc|exact absurd rfl hc|(cases hc;done)|omega|exact absurd hc (by decide)|(simp at hc;done))
   (repeat (first|refine walkS ?_|(refine ow_make ?_ dsS rfl rfl ?_ te81 tr3 tz3 ?_;exact trS;omega;refine stS0 ?_)))
   rw [h0]
   refine aw_loopS [0,4,6,7,8,10,12,39] (fun _ _=>[]) (fun _ k=>[(40,.d (iD (k:Nat)))]) [64] (fun _ k=>[(64,some (arrC (fun v:Int=>[iD v]) [iD 0] (List.replicate m (kk:Int)) k))]) [] (fun _ _=>[]) (fun k=>k≤m) (fun k=>m - k) (0) hks (fun _=>rfl) (Nat.zero_le _) wkS ?_;intro x hx;refine headS ?_
   (repeat (first|refine walkS ?_|(refine ow_make ?_ dsS rfl rfl ?_ te81 tr3 tz3 ?_;exact trS;omega;refine stS0 ?_)))
   refine aw_condS rfl (fun hk1=>?_) (fun hk1=>?_)
   ·have hA:=arrC_len (f:=fun v:Int=>[iD v]) (zero:=[iD 0]) (l:=List.replicate m (kk:Int)) (k:=x) (z:=1) (fun _ _=>rfl) rfl (by omega)
    have hB:splice (arrC (fun v:Int=>[iD v]) [iD 0] (List.replicate m (kk:Int)) x) [A.d (iD kk)] (x*1)=arrC (fun v:Int=>[iD v]) [iD 0] (List.replicate m (kk:Int)) (x+1):=by
     have:=arrC_step (f:=fun v:Int=>[iD v]) (zero:=[iD 0]) (z:=1) (l:=List.replicate m (kk:Int)) (k:=x) (fun _ _=>rfl) rfl (by omega)
     rwa [List.getElem_replicate] at this
    (repeat (first|refine ctlS ?_|(refine ol_go ?_ (fun K1 hK1=>?_);exact trS;refine evS ?_;(try rw [hB]);refine hK1 _ _ ?_;clear hK1 K1)|(refine ow_go ?_ dsS (fun K1 hK1=>?_);exact trS;refine evS ?_;(try rw [hB]);refine hK1 _ ?_;clear hK1 K1)|refine skipS ?_|(refine ow_make ?_ dsS rfl rfl ?_ te81 tr3 tz3 ?_;exact trS;omega;refine stS0 ?_)))
    refine ⟨x+1,by omega,by omega,?_⟩
    exact wkS
   ·have hx':x=m:=by omega
    subst hx'
    refine aw_freeze 12 64 1 x ((List.replicate x (kk:Int)).map fun v=>[iD v]) rfl (by rw [←arrC_all (f:=fun v:Int=>[iD v]) (zero:=[iD 0]),hl];rfl) (by simp) (by simp) hks (by decide) ?_
    (repeat (first|refine walkS ?_|(refine ow_make ?_ dsS rfl rfl ?_ te81 tr3 tz3 ?_;exact trS;omega;refine stS0 ?_)|refine cS (HI) ?_))
    (refine rtS Tryz.results134 ?_;refine ⟨_,[],.inr (.inl ⟨.tup [encV y.1,iD am,eD y.2.1 y.2.2],rfl,rfl,?_⟩),List.nodup_nil,rfl⟩;exact wkDS)

end
end Go.Proofs.YtecdbogicpffeaaGreatDoor.Eng
