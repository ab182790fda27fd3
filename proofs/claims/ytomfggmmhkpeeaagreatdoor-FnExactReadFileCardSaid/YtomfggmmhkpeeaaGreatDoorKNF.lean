/-
 The program's reader: errors, integers, consts, bytes.

 The program's reader: items.
-/
import Derived.Test.YtomfggmmhkpeeaaGreatDoorKNR
import Derived.Test.YtomfggmmhkpeeaaGreatDoorKN9
import Derived.Test.YtomfggmmhkpeeaaGreatDoorKE4
set_option linter.unusedSimpArgs false
set_option linter.unusedVariables false
set_option linter.defProp false
set_option maxRecDepth 100000
set_option maxHeartbeats 4000000
namespace Go.Proofs.YtomfggmmhkpeeaaGreatDoor.Eng
open Go Go.RowKit

abbrev erD (q c:Int):D:=.ifc 64 (.rp [iD q,iD c])
abbrev nilE:D:=.v .nilIface
def eD (q c:Nat):D:=if c=0 then nilE else erD q c
theorem eD_p {q c:Nat} (h:c≠0):eD q c=erD q c:=if_neg h
abbrev rdE (m:Nat) (x:V × Nat × Nat):Rz:=.d (.tup [encV x.1,iD m,eD x.2.1 x.2.2])
abbrev frD (D:List RuleD) (b:List UInt8):Eng.D:=.rp [encDs D,encB b]

private def tyF:=ai (ai (ai (ai tg25 tg27) (ai tg32 tg86)) (ai (ai tg87 tg29) (ai tg34 tg59))) (ai (ai (ai tg68 tg89) (ai tg3 tg4)) (ai (ai tg5 tg57) (ai tg61 (ai tg64 tg9))))
theorem fail_c (q c:Int):AC Tryz.prog 73 [.d (iD q),.d (iD c)] none (fun r' _=>r'=.d (erD q c)):=by
 refine cbS Tryz.func73 rfl Tryz.call73 Tryz.ntmps73 fun en hsz hks hk0=>?_;refine enS ?_
 refine walkS ?_
 refine aw_freezeI 4 16 _ [iD q,iD c] rfl rfl hks (by decide) ?_
 (refine rtS Tryz.results73 ?_;exact ⟨_,_,.inl ⟨rfl,rfl⟩,List.nodup_nil,rfl⟩)

section
variable {M:Nat}{D:List RuleD}{b:List UInt8}
theorem take_c (hb:b.length≤1048576) (p:Nat) (hp:p≤b.length) (n:Int) (hn:0≤n∧n≤4294967296):AC Tryz.prog 110 [.d (frD D b),.d (iD p),.d (iD n)] none (fun r' _=>r'=if (b.length:Int) - p<n then .d (.tup [encB [],erD p 1]) else .d (.tup [encB ((b.drop p).take n.toNat),nilE])):=by
 refine cbS Tryz.func110 rfl Tryz.call110 Tryz.ntmps110 fun en hsz hks hk0=>?_;refine enS ?_
 refine walkS ?_
 refine aw_condS rfl (fun h=>?_) (fun h=>?_)
 ·(repeat (first|refine walkS ?_|refine cS (fail_c p 1) ?_))
  (refine rtS Tryz.results110 ?_;refine ⟨_,[],.inr (.inl ⟨.tup [encB [],erD p 1],rfl,rfl,?_⟩),List.nodup_nil,by rw [if_pos (by omega)]⟩;exact wkDS)
 ·refine walkS ?_
  (refine rtS Tryz.results110 ?_;exact ⟨_,_,.inl ⟨rfl,rfl⟩,List.nodup_nil,by rw [if_neg (by omega),show ((p:Int)+n).toNat - p=n.toNat by omega]⟩)

abbrev intE (x:Option Nat) (s p:Nat):Rz:=match x with
 | some n=>.d (.tup [iD n,iD (p+s:Nat),nilE])
 | none=>.d (.tup [iD 0,iD p,erD p 1])
theorem intAt_no {r:RuleD}{p:Nat} (h:(b.length:Int) - p<r.size):intAt r b p=none:=by simp [intAt,h]
theorem intAt_yes {r:RuleD}{p:Nat} (h:¬(b.length:Int) - p<r.size):intAt r b p=some (readInt ((b.drop p).take r.size.toNat) r.little):=by simp [intAt,h]
theorem integerI_c (hD:DB M D) (hM:M≤1048576) (hb:b.length≤1048576) {n:Nat}{r:RuleD} (hr:D[n]?=some r) (hsz':1≤r.size∧r.size≤4) (p:Nat) (hp:p≤b.length):AC Tryz.prog 64 [.d (frD D b),.d (iD n),.d (iD p)] none (fun r' _=>r'=intE (intAt r b p) r.size.toNat p):=by
 have HT:=take_c (D:=D) hb p hp r.size ⟨by omega,by omega⟩
 by_cases h:(b.length:Int) - p<r.size
 ·rw [if_pos h] at HT
  rw [intAt_no h]
  refine cbS Tryz.func64 rfl Tryz.call64 Tryz.ntmps64 fun en hsz hks hk0=>?_;refine enS ?_
  (repeat (first|refine walkS ?_|refine cS (HT) ?_))
  refine aw_condS rfl (fun hc=>?_) (fun hc=>?_)
  ·refine walkS ?_
   (refine rtS Tryz.results64 ?_;exact ⟨_,_,.inl ⟨rfl,rfl⟩,List.nodup_nil,rfl⟩)
  ·(first|exact absurd trivial hc|exact absurd rfl hc|(cases hc;done)|omega|exact absurd hc (by decide)|(simp at hc;done))
 ·rw [if_neg h] at HT
  rw [intAt_yes h]
  have hlen:(List.take r.size.toNat (List.drop p b)).length≤4:=by simp;omega
  refine cbS Tryz.func64 rfl Tryz.call64 Tryz.ntmps64 fun en hsz hks hk0=>?_;refine enS ?_
  (repeat (first|refine walkS ?_|refine cS (HT) ?_))
  refine aw_condS rfl (fun hc=>?_) (fun hc=>?_)
  ·(first|exact absurd trivial hc|exact absurd rfl hc|(cases hc;done)|omega|exact absurd hc (by decide)|(simp at hc;done))
  ·(repeat (first|refine walkS ?_|refine cS (readIntI_c r.little) ?_))
   (refine rtS Tryz.results64 ?_;exact ⟨_,_,.inl ⟨rfl,rfl⟩,List.nodup_nil,by simp only [intE];rw [show ((p+r.size.toNat:Nat):Int)=p+r.size by omega]⟩)

theorem constantI_c {r:RuleD} (hr:RB M r) (hM:M≤1048576) (hb:b.length≤1048576) (p:Nat) (hp:p≤b.length):AC Tryz.prog 65 [.d (frD D b),.d (encR r),.d (iD p)] none (fun r' _=>r'=.d (.tup [iD (if (constAt b p 0 r.bytes).2=0 then (constAt b p 0 r.bytes).1 else p:Nat),eD (constAt b p 0 r.bytes).1 (constAt b p 0 r.bytes).2])):=by
 have hl:=hr.lb
 refine cbS Tryz.func65 rfl Tryz.call65 Tryz.ntmps65 fun en hsz hks hk0=>?_;refine enS ?_
 refine walkS ?_
 refine aw_loopS [0,2,4,6,7,11,12] (fun _ _=>[]) (fun _ k=>[(13,.d (iD (k:Nat)))]) [] (fun _ _=>[]) [] (fun _ _=>[]) (fun k=>k≤r.bytes.length∧p+k≤b.length∧constAt b p 0 r.bytes=constAt b p k (r.bytes.drop k)) (fun k=>r.bytes.length - k) (0) hks (fun _=>rfl) ⟨Nat.zero_le _,hp,rfl⟩ wkS ?_;intro x hx;refine headS ?_
 obtain ⟨hx1,hx2,hx3⟩:=hx
 refine walkS ?_
 refine aw_condS rfl (fun hk=>?_) (fun hk=>?_)
 ·have hd:r.bytes.drop x=r.bytes[x]'(by omega)::r.bytes.drop (x+1):=List.drop_eq_getElem_cons (by omega)
  rw [hd] at hx3
  refine walkS ?_
  refine aw_condS rfl (fun hs=>?_) (fun hs=>?_)
  ·(repeat (first|refine walkS ?_|refine cS (fail_c p 1) ?_))
   (refine rtS Tryz.results65 ?_;exact ⟨_,_,.inl ⟨rfl,rfl⟩,List.nodup_nil,by rw [hx3,constAt_short (by omega)];rfl⟩)
  ·have hi:b[p+x]?=some (b[p+x]'(by omega)):=List.getElem?_eq_getElem (by omega)
   have hpx:((p:Int)+x).toNat=p+x:=by omega
   (repeat (first|refine ctlS ?_|(refine ol_go ?_ (fun K1 hK1=>?_);exact trS;refine evS ?_;(try rw [hpx]);(first|refine ⟨_,idx_some _ hi,?_⟩|skip);refine hK1 _ _ ?_;clear hK1 K1)|(refine ow_go ?_ dsS (fun K1 hK1=>?_);exact trS;refine evS ?_;(try rw [hpx]);(first|refine ⟨_,idx_some _ hi,?_⟩|skip);refine hK1 _ ?_;clear hK1 K1)|refine skipS ?_))
   refine aw_condS rfl (fun hn=>?_) (fun hn=>?_)
   ·(repeat (first|refine walkS ?_|refine cS (fail_c ((p:Int)+x) 2) ?_))
    (refine rtS Tryz.results65 ?_;exact ⟨_,_,.inl ⟨rfl,rfl⟩,List.nodup_nil,by rw [hx3,constAt_bad (by omega) (u8_ninj hn)];rfl⟩)
   ·refine walkS ?_
    refine ⟨x+1,⟨by omega,by omega,by rw [hx3,constAt_step (by omega) (u8_inj hn)]⟩,by omega,?_⟩
    exact wkS
 ·refine walkS ?_
  (refine rtS Tryz.results65 ?_;exact ⟨_,_,.inl ⟨rfl,rfl⟩,List.nodup_nil,by rw [hx3,List.drop_eq_nil_of_le (by omega),constAt_end,show x=r.bytes.length by omega];rfl⟩)

theorem contentI_c (hb:b.length≤1048576) (p:Nat) (hp:p≤b.length) (n:Nat) (hn:n≤4294967296):AC Tryz.prog 66 [.d (frD D b),.d (iD p),.d (iD n)] none (fun r' _=>r'=rdE (bytesAt b p n).2.1 (bytesAt b p n)):=by
 have HT:=take_c (D:=D) hb p hp n ⟨by omega,by omega⟩
 by_cases h:(b.length:Int) - p<n
 ·rw [if_pos h] at HT
  refine cbS Tryz.func66 rfl Tryz.call66 Tryz.ntmps66 fun en hsz hks hk0=>?_;refine enS ?_
  (repeat (first|refine walkS ?_|refine cS (HT) ?_))
  refine aw_condS rfl (fun hc=>?_) (fun hc=>?_)
  ·refine walkS ?_
   (refine rtS Tryz.results66 ?_;refine ⟨_,[],.inr (.inl ⟨.tup [encV V0,iD (p:Int),erD p 1],rfl,rfl,?_⟩),List.nodup_nil,by rw [bytesAt_no (by omega)];rfl⟩;exact wkDS)
  ·(first|exact absurd trivial hc|exact absurd rfl hc|(cases hc;done)|omega|exact absurd hc (by decide)|(simp at hc;done))
 ·rw [if_neg h] at HT
  have hlen:(List.take n (List.drop p b)).length≤1048576:=by simp;omega
  refine cbS Tryz.func66 rfl Tryz.call66 Tryz.ntmps66 fun en hsz hks hk0=>?_;refine enS ?_
  (repeat (first|refine walkS ?_|refine cS (HT) ?_))
  refine aw_condS rfl (fun hc=>?_) (fun hc=>?_)
  ·(first|exact absurd trivial hc|exact absurd rfl hc|(cases hc;done)|omega|exact absurd hc (by decide)|(simp at hc;done))
  ·refine walkS ?_
   (refine rtS Tryz.results66 ?_;refine ⟨_,[],.inr (.inl ⟨.tup [encV (.mk 0 (List.take n (List.drop p b)) []),iD ((p:Int)+n),nilE],rfl,rfl,?_⟩),List.nodup_nil,by rw [bytesAt_yes (by omega)];rfl⟩;exact wkDS)
end
end Go.Proofs.YtomfggmmhkpeeaaGreatDoor.Eng
namespace Go.Proofs.YtomfggmmhkpeeaaGreatDoor.Eng
open Go Go.RowKit

def atItems (f:Nat→Nat→V × Nat × Nat):List Nat→Nat→Nat
 | [],p=>p
 | k::ks,p=>if (f k p).2.2=0 then atItems f ks (f k p).2.1 else p
theorem atItems_bad {f:Nat→Nat→V × Nat × Nat}{k p:Nat}{ks:List Nat} (h:(f k p).2.2≠0):atItems f (k::ks) p=p:=by rw [atItems,if_neg h]
theorem atItems_ok {f:Nat→Nat→V × Nat × Nat}{k p:Nat}{ks:List Nat} (h:(f k p).2.2=0):atItems f (k::ks) p=atItems f ks (f k p).2.1:=by rw [atItems,if_pos h]
theorem atItems_end {f:Nat→Nat→V × Nat × Nat}:∀ {ks:List Nat}{p:Nat},(rdItems f ks p).2.2=0→atItems f ks p=(rdItems f ks p).2.1
 | [],p,_=>rfl
 | k::ks,p,h=>by
  unfold rdItems at h ⊢
  unfold atItems
  generalize f k p=x at *
  obtain ⟨v,q,c⟩:=x
  by_cases hc:c=0
  ·simp only [hc,if_true] at h ⊢
   have ih:=atItems_end (f:=f) (ks:=ks) (p:=q)
   generalize rdItems f ks q=y at *
   obtain ⟨vs,q2,c2⟩:=y
   by_cases hc2:c2=0
   ·simp only [hc2,if_true] at h ih ⊢
    exact ih trivial
   ·simp [hc2] at h
  ·simp [hc] at h

section
variable {M:Nat}{D:List RuleD}{b:List UInt8}
def RdOK (D:List RuleD) (b:List UInt8) (f:Nat):Prop:=∀ n p:Nat,n<f→n<D.length→p≤b.length→∃ m:Nat,((rd D b f n p).2.2=0→m=(rd D b f n p).2.1)∧AC Tryz.prog 34 [.d (frD D b),.d (iD n),.d (iD p)] none (fun r _=>r=rdE m (rd D b f n p))
abbrev V0d (n:Int):Eng.D:=.agg [iD n,.v (.slice none 0 0),.v (.slice none 0 0)]

end
end Go.Proofs.YtomfggmmhkpeeaaGreatDoor.Eng
