/-
 The checker: parts, numbers, consts.

 The checker: arrays.

 The checker: choices, options, what is checked.

 The checker: what is checked; a value.
-/
import Derived.Test.YtomfggmmhkpeeaaGreatDoorKN10
import Derived.Test.YtomfggmmhkpeeaaGreatDoorKE3
import Derived.Test.YtomfggmmhkpeeaaGreatDoorKP
import Derived.Test.YtomfggmmhkpeeaaGreatDoorKNR
set_option linter.unusedSimpArgs false
set_option linter.unusedVariables false
set_option linter.defProp false
set_option maxRecDepth 100000
set_option maxHeartbeats 4000000
namespace Go.Proofs.YtomfggmmhkpeeaaGreatDoor.Eng
open Go Go.RowKit

abbrev chk (D:List RuleD) (b:List UInt8) (a:Int):List Eng.D:=[encDs D,encB b,iD (IntKind.i64.wrap a)]
abbrev spotD (x:Nat × Nat):Eng.D:=.agg [iD x.1,iD x.2]
def skipP (b:List UInt8) (p n:Nat):Nat × Nat:=if b.length - p<n then (p,1) else (p+n,0)
def numP (r:RuleD) (b:List UInt8) (p:Nat):Nat × Nat × Nat:=match intAt r b p with
 | some m=>(m,p+r.size.toNat,0)
 | none=>(0,p,1)

private def tyF:=ai (ai (ai tg25 (ai tg32 tg86)) (ai tg87 (ai tg225 tg227))) (ai (ai tg34 (ai tg89 tg223)) (ai (ai tg3 tg4) (ai tg5 tg9)))
theorem skip_c (D:List RuleD) {b:List UInt8} (hb:b.length≤1048576) (a:Int) (p:Nat) (hp:p≤b.length) (n:Nat) (hn:n≤4294967296):AC Tryz.prog 190 [.ptr 0 0,.d (iD p),.d (iD n)] (some ((chk D b a).map .d)) (fun r' b'=>r'=.d (spotD (skipP b p n))∧b'=some ((chk D b a).map .d)):=by
 refine cbS Tryz.func190 rfl Tryz.call190 Tryz.ntmps190 fun en hsz hks hk0=>?_;refine enS ?_
 refine walkS ?_
 refine aw_condS rfl (fun hc=>?_) (fun hc=>?_)
 ·refine walkS ?_
  (refine rtS Tryz.results190 ?_;exact ⟨_,[],.inl ⟨rfl,rfl⟩,_,(chk D b a:List Eng.D).map .d,[],rfl,toZL_d _ (chk D b a),by simp,by rw [skipP,if_pos (by omega)];rfl,rfl⟩)
 ·refine walkS ?_
  (refine rtS Tryz.results190 ?_;exact ⟨_,[],.inl ⟨rfl,rfl⟩,_,(chk D b a:List Eng.D).map .d,[],rfl,toZL_d _ (chk D b a),by simp,by rw [skipP,if_neg (by omega)];rfl,rfl⟩)

theorem number_c {M:Nat}{D:List RuleD} (hD:DB M D) (hM:M≤1048576) {b:List UInt8} (hb:b.length≤1048576) (a:Int) {n:Nat}{r:RuleD} (hr:D[n]?=some r) (hsz':1≤r.size∧r.size≤4) (p:Nat) (hp:p≤b.length):AC Tryz.prog 188 [.ptr 0 0,.d (iD n),.d (iD p)] (some ((chk D b a).map .d)) (fun r' b'=>r'=.d (.tup [iD (numP r b p).1,spotD (numP r b p).2])∧b'=some ((chk D b (a+1)).map .d)):=by
 have HS:=skip_c D hb (a+1) p hp r.size.toNat (by omega)
 rw [Int.toNat_of_nonneg (by omega)] at HS
 by_cases h:b.length - p<r.size.toNat
 ·have e:skipP b p r.size.toNat=(p,1):=if_pos h
  have e2:numP r b p=(0,p,1):=by rw [numP,intAt,if_pos (by omega)]
  rw [e] at HS
  refine cbS Tryz.func188 rfl Tryz.call188 Tryz.ntmps188 fun en hsz hks hk0=>?_;refine enS ?_
  (repeat (first|refine walkS ?_|refine vS 0 (HS) ?_))
  refine aw_condS rfl (fun hc=>?_) (fun hc=>?_)
  ·refine walkS ?_
   (refine rtS Tryz.results188 ?_;exact ⟨_,[],.inl ⟨rfl,rfl⟩,_,(chk D b (a+1):List Eng.D).map .d,[],rfl,toZL_d _ (chk D b (a+1)),by simp,by rw [e2];rfl,rfl⟩)
  ·(first|exact absurd trivial hc|exact absurd rfl hc|(cases hc;done)|omega|exact absurd hc (by decide)|(simp at hc;done))
 ·have e:skipP b p r.size.toNat=(p+r.size.toNat,0):=if_neg h
  have e2:numP r b p=(readInt ((b.drop p).take r.size.toNat) r.little,p+r.size.toNat,0):=by rw [numP,intAt,if_neg (by omega)]
  rw [e] at HS
  refine cbS Tryz.func188 rfl Tryz.call188 Tryz.ntmps188 fun en hsz hks hk0=>?_;refine enS ?_
  (repeat (first|refine walkS ?_|refine vS 0 (HS) ?_))
  refine aw_condS rfl (fun hc=>?_) (fun hc=>?_)
  ·(first|exact absurd trivial hc|exact absurd rfl hc|(cases hc;done)|omega|exact absurd hc (by decide)|(simp at hc;done))
  ·(repeat (first|refine walkS ?_|refine cS (readIntI_c (l:=List.take (p+r.size.toNat - p) (List.drop p b)) r.little) ?_))
   (refine rtS Tryz.results188 ?_;exact ⟨_,[],.inl ⟨rfl,rfl⟩,_,(chk D b (a+1):List Eng.D).map .d,[],rfl,toZL_d _ (chk D b (a+1)),by simp,by rw [e2,show p+r.size.toNat - p=r.size.toNat by omega],rfl⟩)

theorem constant_c (D:List RuleD) {r:RuleD}{M:Nat} (hr:RB M r) (hM:M≤1048576) {b:List UInt8} (hb:b.length≤1048576) (a:Int) (p:Nat) (hp:p≤b.length):AC Tryz.prog 189 [.ptr 0 0,.d (encR r),.d (iD p)] (some ((chk D b a).map .d)) (fun r' b'=>r'=.d (spotD (constAt b p 0 r.bytes))∧b'=some ((chk D b a).map .d)):=by
 have hl:=hr.lb
 refine cbS Tryz.func189 rfl Tryz.call189 Tryz.ntmps189 fun en hsz hks hk0=>?_;refine enS ?_
 refine walkS ?_
 refine aw_loopS [0,2,4,6,10,11] (fun _ _=>[]) (fun _ k=>[(12,.d (iD (k:Nat)))]) [] (fun _ _=>[]) [] (fun _ _=>[]) (fun k=>k≤r.bytes.length∧p+k≤b.length∧constAt b p 0 r.bytes=constAt b p k (r.bytes.drop k)) (fun k=>r.bytes.length - k) (0) hks (fun _=>rfl) ⟨Nat.zero_le _,hp,rfl⟩ wkS ?_;intro x hx;refine headS ?_
 obtain ⟨hx1,hx2,hx3⟩:=hx
 refine walkS ?_
 refine aw_condS rfl (fun hk=>?_) (fun hk=>?_)
 ·have hd:r.bytes.drop x=r.bytes[x]'(by omega)::r.bytes.drop (x+1):=List.drop_eq_getElem_cons (by omega)
  rw [hd] at hx3
  refine walkS ?_
  refine aw_condS rfl (fun hs=>?_) (fun hs=>?_)
  ·refine walkS ?_
   (refine rtS Tryz.results189 ?_;exact ⟨_,[],.inl ⟨rfl,rfl⟩,_,(chk D b a:List Eng.D).map .d,[],rfl,toZL_d _ (chk D b a),by simp,by rw [hx3,constAt_short (by omega)];rfl,rfl⟩)
  ·have hi:b[p+x]?=some (b[p+x]'(by omega)):=List.getElem?_eq_getElem (by omega)
   have hpx:((p:Int)+x).toNat=p+x:=by omega
   (repeat (first|refine ctlS ?_|(refine ol_go ?_ (fun K1 hK1=>?_);exact trS;refine evS ?_;(try rw [hpx]);(first|refine ⟨_,idx_some _ hi,?_⟩|skip);refine hK1 _ _ ?_;clear hK1 K1)|(refine ow_go ?_ dsS (fun K1 hK1=>?_);exact trS;refine evS ?_;(try rw [hpx]);(first|refine ⟨_,idx_some _ hi,?_⟩|skip);refine hK1 _ ?_;clear hK1 K1)|refine skipS ?_))
   refine aw_condS rfl (fun hn=>?_) (fun hn=>?_)
   ·refine walkS ?_
    (refine rtS Tryz.results189 ?_;exact ⟨_,[],.inl ⟨rfl,rfl⟩,_,(chk D b a:List Eng.D).map .d,[],rfl,toZL_d _ (chk D b a),by simp,by rw [hx3,constAt_bad (by omega) (u8_ninj hn)];rfl,rfl⟩)
   ·refine walkS ?_
    refine ⟨x+1,⟨by omega,by omega,by rw [hx3,constAt_step (by omega) (u8_inj hn)]⟩,by omega,?_⟩
    exact wkS
 ·refine walkS ?_
  (refine rtS Tryz.results189 ?_;exact ⟨_,[],.inl ⟨rfl,rfl⟩,_,(chk D b a:List Eng.D).map .d,[],rfl,toZL_d _ (chk D b a),by simp,by rw [hx3,List.drop_eq_nil_of_le (by omega),constAt_end,show x=r.bytes.length by omega];rfl,rfl⟩)
end Go.Proofs.YtomfggmmhkpeeaaGreatDoor.Eng
namespace Go.Proofs.YtomfggmmhkpeeaaGreatDoor.Eng
open Go Go.RowKit

section
variable {M:Nat}{D:List RuleD}{b:List UInt8}
def CkOK (D:List RuleD) (b:List UInt8) (f:Nat):Prop:=∀ (n p:Nat) (a:Int),n<f→n<D.length→p≤b.length→AC Tryz.prog 179 [.ptr 0 0,.d (iD n),.d (iD p)] (some ((chk D b a).map .d)) (fun r' b'=>r'=.d (spotD (rd D b f n p).2)∧b'=some ((chk D b (a+(cnt D b f n p:Nat))).map .d))
theorem numP_none {r:RuleD}{p:Nat} (h:intAt r b p=none):numP r b p=(0,p,1):=by simp [numP,h]
theorem numP_some {r:RuleD}{p m:Nat} (h:intAt r b p=some m):numP r b p=(m,p+r.size.toNat,0):=by simp [numP,h]
theorem kid1_nat {n:Nat}{r:RuleD} (G:GoodR D n r) (h:1<r.kids.length):∃ x:Nat,kid1 r=x∧x<n:=by
 have h1:=kids1 h
 have h2:=G.kid 1 h
 rw [List.getElem?_eq_getElem h] at h1
 have h3:=Option.some.inj h1
 exact ⟨(kid1 r).toNat,by omega,by omega⟩

theorem array_go (hD:DB M D) (hM:M≤1048576) (hb:b.length≤1048576) {f:Nat} (H:CkOK D b f) {n:Nat}{r:RuleD} (hr:D[n]?=some r) (hn:n≤f) {j:Nat}{q:RuleD} (hkid:r.kids[0]?=some (j:Int)) (hj:D[j]?=some q) (hq:1≤q.size∧q.size≤4) {kk:Nat} (hkid1:r.kids[1]?=some (kk:Int)) (hkk:kk<n) (p:Nat) (hp:p≤b.length) (a:Int)
  {m0 q0 c0:Nat} (hnum:numP q b p=(m0,q0,c0)) (hq0:q0≤b.length) (hm0:c0=0→m0≤40) {S:Nat × Nat}{T:Int} (hS:S=restS (rd D b f) (List.replicate m0 kk) q0 c0) (hT:T=a+1+(restC (rd D b f) (cnt D b f) (List.replicate m0 kk) q0 c0:Nat)) :
  AC Tryz.prog 191 [.ptr 0 0,.d (encR r),.d (iD p)] (some ((chk D b a).map .d)) (fun r' b'=>r'=.d (spotD S)∧b'=some ((chk D b T).map .d)):=by
 have hrb:=hD.rule r (List.mem_of_getElem? hr)
 have hnl:n<D.length:=(List.getElem?_eq_some_iff.1 hr).1
 have HN:=number_c hD hM hb a hj hq p hp
 rw [hnum] at HN
 have hc0:c0=0∨c0=1:=by
  unfold numP at hnum
  split at hnum<;>simp at hnum<;>omega
 have hm1:m0<4294967296:=by
  unfold numP at hnum
  split at hnum
  ·rename_i m h
   have:=intAt_in h hp
   simp at hnum;omega
  ·simp at hnum;omega
 refine cbS Tryz.func191 rfl Tryz.call191 Tryz.ntmps191 fun en hsz hks hk0=>?_;refine enS ?_
 (repeat (first|refine walkS ?_|refine vS 0 (HN) ?_))
 (refine ow_gd rfl rfl dsS (fun hg K1 hK1=>?_) (fun hg=>?_);((try simp only [hg]);refine evS ?_;refine hK1 _ ?_;clear hK1 K1);rotate_left;(simp only [Bool.not_true,Bool.not_false] at hg;simp only [St.set,hg]);rotate_left)
 ·have hg0:c0=0:=by simpa using hg
  have hm2:=hm0 hg0
  refine walkS ?_
  refine aw_condS rfl (fun hc=>?_) (fun hc=>?_)
  ·(first|exact absurd trivial hc|exact absurd rfl hc|(cases hc;done)|omega|exact absurd hc (by decide)|(simp at hc;done))
  refine walkS ?_
  refine aw_loopS [0,4,6,8] (fun _ _=>[]) (fun _ y=>[(7,.d (iD (y.1:Nat)))]) [80,0] (fun _ y=>[(80,some [.d (iD (y.2.1:Nat)),.d (iD (y.2.2.1:Nat))]),(0,some [.d (encDs D),.d (encB b),.d (iD (IntKind.i64.wrap y.2.2.2))])]) [] (fun _ _=>[]) (fun y:Nat × Nat × Nat × Int=>y.2.1≤b.length∧y.1≤m0∧(y.2.2.1=0→y.1≤40)∧S=restS (rd D b f) (List.replicate y.1 kk) y.2.1 y.2.2.1∧T=y.2.2.2+(restC (rd D b f) (cnt D b f) (List.replicate y.1 kk) y.2.1 y.2.2.1:Nat)) (fun y=>y.1) ((m0,q0,c0,a+1)) hks (fun _=>rfl) ⟨hq0,Nat.le_refl _,hm0,hS,hT⟩ wkS ?_;intro x hx;refine headS ?_
  obtain ⟨rem,q1,c1,A1⟩:=x
  simp only at hx ⊢
  obtain ⟨hx1,hx2,hx3,hx4,hx5⟩:=hx
  refine walkS ?_
  (refine ow_gd rfl rfl dsS (fun hg K1 hK1=>?_) (fun hg=>?_);((try simp only [hg]);refine evS ?_;refine hK1 _ ?_;clear hK1 K1);rotate_left;(simp only [Bool.not_true,Bool.not_false] at hg;simp only [St.set,hg]);rotate_left)
  ·have hg':0<rem:=by simpa using hg
   refine walkS ?_
   refine aw_condS rfl (fun hc1=>?_) (fun hc1=>?_)
   ·have e:c1=0:=by omega
    subst e
    obtain ⟨rem',rfl⟩:∃ k,rem=k+1:=⟨rem - 1,by omega⟩
    rw [List.replicate_succ,restS_cons] at hx4
    rw [List.replicate_succ,restC_cons] at hx5
    have hin:=rd_in D b f kk q1 hx1
    have HV:=H kk q1 A1 (by omega) (by omega) hx1
    (repeat (first|refine walkS ?_|refine vS 0 (HV) ?_))
    refine ⟨(rem',(rd D b f kk q1).2.1,(rd D b f kk q1).2.2,A1+(cnt D b f kk q1:Nat)),⟨hin.2,by simp only;omega,fun h=>by have:=hx3 rfl;simp only;omega,hx4,by simp only;omega⟩,by simp only;omega,?_⟩
    exact wkS
   ·rw [restS_bad _ _ _ _ (by omega)] at hx4
    rw [restC_bad _ _ _ _ _ (by omega)] at hx5
    refine walkS ?_
    (refine rtS Tryz.results191 ?_;exact ⟨_,[],.inl ⟨rfl,rfl⟩,_,(chk D b A1:List Eng.D).map .d,[],rfl,toZL_d _ (chk D b A1),by simp,by rw [hx4],by rw [show T=A1 by omega];rfl⟩)
  ·have hg':rem=0:=by simpa using hg
   subst hg'
   rw [List.replicate_zero,restS_nil] at hx4
   rw [List.replicate_zero,restC_nil] at hx5
   refine walkS ?_
   refine aw_condS rfl (fun hc=>?_) (fun hc=>?_)
   ·(first|exact absurd trivial hc|exact absurd rfl hc|(cases hc;done)|omega|exact absurd hc (by decide)|(simp at hc;done))
   ·refine walkS ?_
    (refine rtS Tryz.results191 ?_;exact ⟨_,[],.inl ⟨rfl,rfl⟩,_,(chk D b A1:List Eng.D).map .d,[],rfl,toZL_d _ (chk D b A1),by simp,by rw [hx4],by rw [show T=A1 by omega];rfl⟩)
 ·have hg0:c0≠0:=by simpa using hg
  refine walkS ?_
  refine aw_condS rfl (fun hc=>?_) (fun hc=>?_)
  ·(first|exact absurd trivial hc|exact absurd rfl hc|(cases hc;done)|omega|exact absurd hc (by decide)|(simp at hc;done))
  refine walkS ?_
  refine aw_loopS [0,4,6,8] (fun _ _=>[]) (fun _ y=>[(7,.d (iD (y.1:Nat)))]) [80,0] (fun _ y=>[(80,some [.d (iD (y.2.1:Nat)),.d (iD (y.2.2.1:Nat))]),(0,some [.d (encDs D),.d (encB b),.d (iD (IntKind.i64.wrap y.2.2.2))])]) [] (fun _ _=>[]) (fun y:Nat × Nat × Nat × Int=>y.2.1≤b.length∧y.1≤m0∧(y.2.2.1=0→y.1≤40)∧S=restS (rd D b f) (List.replicate y.1 kk) y.2.1 y.2.2.1∧T=y.2.2.2+(restC (rd D b f) (cnt D b f) (List.replicate y.1 kk) y.2.1 y.2.2.1:Nat)) (fun y=>y.1) ((m0,q0,c0,a+1)) hks (fun _=>rfl) ⟨hq0,Nat.le_refl _,hm0,hS,hT⟩ wkS ?_;intro x hx;refine headS ?_
  obtain ⟨rem,q1,c1,A1⟩:=x
  simp only at hx ⊢
  obtain ⟨hx1,hx2,hx3,hx4,hx5⟩:=hx
  refine walkS ?_
  (refine ow_gd rfl rfl dsS (fun hg K1 hK1=>?_) (fun hg=>?_);((try simp only [hg]);refine evS ?_;refine hK1 _ ?_;clear hK1 K1);rotate_left;(simp only [Bool.not_true,Bool.not_false] at hg;simp only [St.set,hg]);rotate_left)
  ·have hg':0<rem:=by simpa using hg
   refine walkS ?_
   refine aw_condS rfl (fun hc1=>?_) (fun hc1=>?_)
   ·have e:c1=0:=by omega
    subst e
    obtain ⟨rem',rfl⟩:∃ k,rem=k+1:=⟨rem - 1,by omega⟩
    rw [List.replicate_succ,restS_cons] at hx4
    rw [List.replicate_succ,restC_cons] at hx5
    have hin:=rd_in D b f kk q1 hx1
    have HV:=H kk q1 A1 (by omega) (by omega) hx1
    (repeat (first|refine walkS ?_|refine vS 0 (HV) ?_))
    refine ⟨(rem',(rd D b f kk q1).2.1,(rd D b f kk q1).2.2,A1+(cnt D b f kk q1:Nat)),⟨hin.2,by simp only;omega,fun h=>by have:=hx3 rfl;simp only;omega,hx4,by simp only;omega⟩,by simp only;omega,?_⟩
    exact wkS
   ·rw [restS_bad _ _ _ _ (by omega)] at hx4
    rw [restC_bad _ _ _ _ _ (by omega)] at hx5
    refine walkS ?_
    (refine rtS Tryz.results191 ?_;exact ⟨_,[],.inl ⟨rfl,rfl⟩,_,(chk D b A1:List Eng.D).map .d,[],rfl,toZL_d _ (chk D b A1),by simp,by rw [hx4],by rw [show T=A1 by omega];rfl⟩)
  ·have hg':rem=0:=by simpa using hg
   subst hg'
   rw [List.replicate_zero,restS_nil] at hx4
   rw [List.replicate_zero,restC_nil] at hx5
   refine walkS ?_
   refine aw_condS rfl (fun hc=>?_) (fun hc=>?_)
   ·(first|exact absurd trivial hc|exact absurd rfl hc|(cases hc;done)|omega|exact absurd hc (by decide)|(simp at hc;done))
   ·refine walkS ?_
    (refine rtS Tryz.results191 ?_;exact ⟨_,[],.inl ⟨rfl,rfl⟩,_,(chk D b A1:List Eng.D).map .d,[],rfl,toZL_d _ (chk D b A1),by simp,by rw [hx4],by rw [show T=A1 by omega];rfl⟩)
end
end Go.Proofs.YtomfggmmhkpeeaaGreatDoor.Eng
namespace Go.Proofs.YtomfggmmhkpeeaaGreatDoor.Eng
open Go Go.RowKit

section
variable {M:Nat}{D:List RuleD}{b:List UInt8}

theorem choice_go (hD:DB M D) (hM:M≤1048576) (hb:b.length≤1048576) {f:Nat} (H:CkOK D b f) {n:Nat}{r:RuleD} (hr:D[n]?=some r) (hn:n≤f) {j:Nat}{q:RuleD} (hkid:r.kids[0]?=some (j:Int)) (hj:D[j]?=some q) (hq:1≤q.size∧q.size≤4) (p:Nat) (hp:p≤b.length) (a:Int)
  {m0 q0 c0:Nat} (hnum:numP q b p=(m0,q0,c0)) (hq0:q0≤b.length) {S:Nat × Nat}{T:Int} (h1:c0≠0→S=(q0,c0)∧T=a+1) (h2:c0=0→(∀ i (hi:i<r.tags.length),r.tags[i]≠m0)→S=(p,3)∧T=a+1)
  (h3:c0=0→∀ k (hk:k<r.tags.length),r.tags[k]=m0→(∀ i (hi:i<r.tags.length),i<k→r.tags[i]≠m0)→∃ kk:Nat,r.kids[k+1]?=some (kk:Int)∧kk<n∧S=(rd D b f kk q0).2∧T=a+1+(cnt D b f kk q0:Nat)) :
  AC Tryz.prog 192 [.ptr 0 0,.d (encR r),.d (iD p)] (some ((chk D b a).map .d)) (fun r' b'=>r'=.d (spotD S)∧b'=some ((chk D b T).map .d)):=by
 have hrb:=hD.rule r (List.mem_of_getElem? hr)
 have hlt:=hrb.lt
 have hnl:n<D.length:=(List.getElem?_eq_some_iff.1 hr).1
 have HN:=number_c hD hM hb a hj hq p hp
 rw [hnum] at HN
 refine cbS Tryz.func192 rfl Tryz.call192 Tryz.ntmps192 fun en hsz hks hk0=>?_;refine enS ?_
 (repeat (first|refine walkS ?_|refine vS 0 (HN) ?_))
 refine aw_condS rfl (fun hc0=>?_) (fun hc0=>?_)
 ·obtain ⟨e1,e2⟩:=h1 (by omega)
  refine walkS ?_
  (refine rtS Tryz.results192 ?_;exact ⟨_,[],.inl ⟨rfl,rfl⟩,_,(chk D b (a+1):List Eng.D).map .d,[],rfl,toZL_d _ (chk D b (a+1)),by simp,by rw [e1],by rw [e2];rfl⟩)
 ·have hc0':c0=0:=by omega
  refine walkS ?_
  refine aw_loopS [0,2,4,6,7,8,26,27] (fun _ _=>[]) (fun _ k=>[(28,.d (iD (k:Nat)))]) [] (fun _ _=>[]) [] (fun _ _=>[]) (fun k:Nat=>k≤r.tags.length∧∀ i (hi:i<r.tags.length),i<k→r.tags[i]≠m0) (fun k=>r.tags.length - k) (0) hks (fun _=>rfl) ⟨Nat.zero_le _,fun _ _ h=>absurd h (Nat.not_lt_zero _)⟩ wkS ?_;intro x hx;refine headS ?_
  obtain ⟨hx1,hx2⟩:=hx
  refine walkS ?_
  refine aw_condS rfl (fun hk=>?_) (fun hk=>?_)
  ·refine walkS ?_
   refine aw_condS rfl (fun he=>?_) (fun he=>?_)
   ·obtain ⟨kk,g1,g2,g3,g4⟩:=h3 hc0' x (by omega) he (fun i hi h=>hx2 i hi h)
    have HV:=H kk q0 (a+1) (by omega) (by omega) hq0
    (repeat (first|refine walkS ?_|refine vS 0 (HV) ?_))
    (refine rtS Tryz.results192 ?_;exact ⟨_,[],.inl ⟨rfl,rfl⟩,_,(chk D b (a+1+(cnt D b f kk q0:Nat)):List Eng.D).map .d,[],rfl,toZL_d _ (chk D b (a+1+(cnt D b f kk q0:Nat))),by simp,by rw [g3],by rw [g4];rfl⟩)
   ·refine walkS ?_
    refine ⟨x+1,⟨by omega,upto_succ (fun h=>he) hx2⟩,by omega,?_⟩
    exact wkS
  ·obtain ⟨e1,e2⟩:=h2 hc0' (fun i hi=>hx2 i hi (by omega))
   refine walkS ?_
   (refine rtS Tryz.results192 ?_;exact ⟨_,[],.inl ⟨rfl,rfl⟩,_,(chk D b (a+1):List Eng.D).map .d,[],rfl,toZL_d _ (chk D b (a+1)),by simp,by rw [e1];rfl,by rw [e2];rfl⟩)

theorem option_c (hD:DB M D) (hM:M≤1048576) (hb:b.length≤1048576) {f:Nat} (H:CkOK D b f) {n:Nat}{r:RuleD} (hr:D[n]?=some r) (hn:n≤f) (G:GoodR D n r) (hk:r.kind=8) (p:Nat) (hp:p≤b.length) (a:Int) :
  AC Tryz.prog 193 [.ptr 0 0,.d (encR r),.d (iD p)] (some ((chk D b a).map .d)) (fun r' b'=>r'=.d (spotD (rd D b (f+1) n p).2)∧b'=some ((chk D b (a - 1+(cnt D b (f+1) n p:Nat))).map .d)):=by
 have g1:=G.k8 hk
 obtain ⟨kk,ex,hkk⟩:=kid_nat G (by omega)
 have hkid:r.kids[0]?=some (kk:Int):=by rw [kids0 (by omega),ex]
 have hrd:=ruleD_get hr
 have hnl:n<D.length:=(List.getElem?_eq_some_iff.1 hr).1
 have HS:=skip_c D hb a p hp 1 (by omega)
 cases hc0:b[p]? with
 | none=>
  have hpl:b.length≤p:=List.getElem?_eq_none_iff.1 hc0
  have e:skipP b p 1=(p,1):=if_pos (by omega)
  rw [e] at HS
  have hT:a - 1+(cnt D b (f+1) n p:Nat)=a:=by rw [cnt_8n hrd hk hc0];omega
  refine cbS Tryz.func193 rfl Tryz.call193 Tryz.ntmps193 fun en hsz hks hk0=>?_;refine enS ?_
  (repeat (first|refine walkS ?_|refine vS 0 (HS) ?_))
  refine aw_condS rfl (fun hc=>?_) (fun hc=>?_)
  ·refine walkS ?_
   (refine rtS Tryz.results193 ?_;exact ⟨_,[],.inl ⟨rfl,rfl⟩,_,(chk D b a:List Eng.D).map .d,[],rfl,toZL_d _ (chk D b a),by simp,by rw [rd_8n hrd hk hc0],by rw [hT];rfl⟩)
  ·(first|exact absurd trivial hc|exact absurd rfl hc|(cases hc;done)|omega|exact absurd hc (by decide)|(simp at hc;done))
 | some c=>
  have hpl:=get_lt hc0
  have e:skipP b p 1=(p+1,0):=if_neg (by omega)
  rw [e] at HS
  have hle:=u8le c
  by_cases h1:1<c.toNat
  ·have hT:a - 1+(cnt D b (f+1) n p:Nat)=a:=by rw [cnt_8f hrd hk hc0 h1];omega
   refine cbS Tryz.func193 rfl Tryz.call193 Tryz.ntmps193 fun en hsz hks hk0=>?_;refine enS ?_
   (repeat (first|refine walkS ?_|refine vS 0 (HS) ?_))
   refine aw_condS rfl (fun hc=>?_) (fun hc=>?_)
   ·omega
   refine walkS ?_
   refine aw_condS rfl (fun hc=>?_) (fun hc=>?_)
   ·refine walkS ?_
    (refine rtS Tryz.results193 ?_;exact ⟨_,[],.inl ⟨rfl,rfl⟩,_,(chk D b a:List Eng.D).map .d,[],rfl,toZL_d _ (chk D b a),by simp,by rw [rd_8f hrd hk hc0 h1];rfl,by rw [hT];rfl⟩)
   ·omega
  ·have hf:=congrArg (·.2) (rd_8s (f:=f) hrd hk hc0 h1)
   have hC:=cnt_8s (f:=f) hrd hk hc0 h1
   rw [show (kid0 r).toNat=kk by omega] at hf hC
   simp only [mkItems_2] at hf
   by_cases h0:c.toNat=0
   ·rw [h0,List.replicate_zero] at hf hC
    have hT:a - 1+(cnt D b (f+1) n p:Nat)=a:=by rw [hC];simp [cntItems]
    refine cbS Tryz.func193 rfl Tryz.call193 Tryz.ntmps193 fun en hsz hks hk0=>?_;refine enS ?_
    (repeat (first|refine walkS ?_|refine vS 0 (HS) ?_))
    refine aw_condS rfl (fun hc=>?_) (fun hc=>?_)
    ·refine walkS ?_
     (refine rtS Tryz.results193 ?_;exact ⟨_,[],.inl ⟨rfl,rfl⟩,_,(chk D b a:List Eng.D).map .d,[],rfl,toZL_d _ (chk D b a),by simp,by rw [hf];rfl,by rw [hT];rfl⟩)
    ·omega
   ·rw [show c.toNat=1 by omega,List.replicate_one,rdItems_one2] at hf
    rw [show c.toNat=1 by omega,List.replicate_one,cntItems_one] at hC
    have hT:a - 1+(cnt D b (f+1) n p:Nat)=a+(cnt D b f kk (p+1):Nat):=by rw [hC];omega
    have HV:=H kk (p+1) a (by omega) (by omega) (by omega)
    refine cbS Tryz.func193 rfl Tryz.call193 Tryz.ntmps193 fun en hsz hks hk0=>?_;refine enS ?_
    (repeat (first|refine walkS ?_|refine vS 0 (HS) ?_))
    refine aw_condS rfl (fun hc=>?_) (fun hc=>?_)
    ·omega
    refine walkS ?_
    refine aw_condS rfl (fun hc=>?_) (fun hc=>?_)
    ·omega
    (repeat (first|refine walkS ?_|refine vS 0 (HV) ?_))
    (refine rtS Tryz.results193 ?_;exact ⟨_,[],.inl ⟨rfl,rfl⟩,_,(chk D b (a+(cnt D b f kk (p+1):Nat)):List Eng.D).map .d,[],rfl,toZL_d _ (chk D b (a+(cnt D b f kk (p+1):Nat))),by simp,by rw [hf],by rw [hT];rfl⟩)
end
end Go.Proofs.YtomfggmmhkpeeaaGreatDoor.Eng
namespace Go.Proofs.YtomfggmmhkpeeaaGreatDoor.Eng
open Go Go.RowKit

section
variable {M:Nat}{D:List RuleD}{b:List UInt8}

theorem checked_c (hD:DB M D) (hM:M≤1048576) (hb:b.length≤1048576) {f:Nat} (H:CkOK D b f) {n:Nat}{r:RuleD} (hr:D[n]?=some r) (hn:n≤f) (G:GoodR D n r) (hk:r.kind=9) (p:Nat) (hp:p≤b.length) (a:Int) :
  AC Tryz.prog 194 [.ptr 0 0,.d (encR r),.d (iD p)] (some ((chk D b a).map .d)) (fun r' b'=>r'=.d (spotD (rd D b (f+1) n p).2)∧b'=some ((chk D b (a - 1+(cnt D b (f+1) n p:Nat))).map .d)):=by
 have g1:=G.k9 hk
 obtain ⟨kk,ex,hkk⟩:=kid_nat G (by omega)
 have hkid:r.kids[0]?=some (kk:Int):=by rw [kids0 (by omega),ex]
 have hrd:=ruleD_get hr
 have hnl:n<D.length:=(List.getElem?_eq_some_iff.1 hr).1
 have ex':(kid0 r).toNat=kk:=by omega
 have hC:=cnt_9 (b:=b) (f:=f) (p:=p) hrd hk
 rw [ex',cntItems_one] at hC
 have hT:a - 1+(cnt D b (f+1) n p:Nat)=a+(cnt D b f kk p:Nat):=by rw [hC];omega
 have HV:=H kk p a (by omega) (by omega) hp
 have hm2:(mkItems 0 (rdItems (rd D b f) [(kid0 r).toNat] p)).2=(rd D b f kk p).2:=by rw [mkItems_2,ex',rdItems_one2]
 have hin:=rd_in D b f kk p hp
 rw [←hm2] at HV hin
 cases hm:mkItems 0 (rdItems (rd D b f) [(kid0 r).toNat] p) with
 | mk v y=>
  obtain ⟨q,c⟩:=y
  rw [hm] at HV hin
  obtain ⟨hin1,hin2⟩:=hin
  simp only at hin1 hin2
  by_cases hc0:c=0
  ·subst hc0
   have HS:=skip_c D hb (a+(cnt D b f kk p:Nat)) q hin2 1 (by omega)
   cases hq:b[q]? with
   | none=>
    have hpl:b.length≤q:=List.getElem?_eq_none_iff.1 hq
    have hfin:=rd_9n hrd hk hm hq
    have e:skipP b q 1=(q,1):=if_pos (by omega)
    rw [e] at HS
    refine cbS Tryz.func194 rfl Tryz.call194 Tryz.ntmps194 fun en hsz hks hk0=>?_;refine enS ?_
    (repeat (first|refine walkS ?_|refine vS 0 (HV) ?_))
    refine aw_condS rfl (fun hc=>?_) (fun hc=>?_)
    ·(first|exact absurd trivial hc|exact absurd rfl hc|(cases hc;done)|omega|exact absurd hc (by decide)|(simp at hc;done))
    (repeat (first|refine walkS ?_|refine vS 0 (HS) ?_))
    refine aw_condS rfl (fun hc=>?_) (fun hc=>?_)
    ·(first|exact absurd trivial hc|exact absurd rfl hc|(cases hc;done)|omega|exact absurd hc (by decide)|(simp at hc;done))
    ·refine walkS ?_
     (refine rtS Tryz.results194 ?_;exact ⟨_,[],.inl ⟨rfl,rfl⟩,_,(chk D b (a+(cnt D b f kk p:Nat)):List Eng.D).map .d,[],rfl,toZL_d _ (chk D b (a+(cnt D b f kk p:Nat))),by simp,by rw [hfin],by rw [hT];rfl⟩)
   | some s=>
    have hpl:=get_lt hq
    have hle:=u8le s
    have e:skipP b q 1=(q+1,0):=if_neg (by omega)
    rw [e] at HS
    by_cases hs:s.toNat=sumB ((b.drop p).take (q - p))
    ·have hfin:=rd_9s hrd hk hm hq hs
     refine cbS Tryz.func194 rfl Tryz.call194 Tryz.ntmps194 fun en hsz hks hk0=>?_;refine enS ?_
     (repeat (first|refine walkS ?_|refine vS 0 (HV) ?_))
     refine aw_condS rfl (fun hc=>?_) (fun hc=>?_)
     ·(first|exact absurd trivial hc|exact absurd rfl hc|(cases hc;done)|omega|exact absurd hc (by decide)|(simp at hc;done))
     (repeat (first|refine walkS ?_|refine vS 0 (HS) ?_|(refine callPre ?_;(first|refine callN_funS rfl ((sumI_c (l:=List.take (q - p) (List.drop p b)) (by simp;omega))) ?_))|(refine callPreL ?_;(first|refine callL_funS rfl ((sumI_c (l:=List.take (q - p) (List.drop p b)) (by simp;omega))) ?_))))
     refine aw_condS rfl (fun hc=>?_) (fun hc=>?_)
     ·omega
     ·refine walkS ?_
      (refine rtS Tryz.results194 ?_;exact ⟨_,[],.inl ⟨rfl,rfl⟩,_,(chk D b (a+(cnt D b f kk p:Nat)):List Eng.D).map .d,[],rfl,toZL_d _ (chk D b (a+(cnt D b f kk p:Nat))),by simp,by rw [hfin],by rw [hT];rfl⟩)
    ·have hfin:=rd_9f hrd hk hm hq hs
     refine cbS Tryz.func194 rfl Tryz.call194 Tryz.ntmps194 fun en hsz hks hk0=>?_;refine enS ?_
     (repeat (first|refine walkS ?_|refine vS 0 (HV) ?_))
     refine aw_condS rfl (fun hc=>?_) (fun hc=>?_)
     ·(first|exact absurd trivial hc|exact absurd rfl hc|(cases hc;done)|omega|exact absurd hc (by decide)|(simp at hc;done))
     (repeat (first|refine walkS ?_|refine vS 0 (HS) ?_|(refine callPre ?_;(first|refine callN_funS rfl ((sumI_c (l:=List.take (q - p) (List.drop p b)) (by simp;omega))) ?_))|(refine callPreL ?_;(first|refine callL_funS rfl ((sumI_c (l:=List.take (q - p) (List.drop p b)) (by simp;omega))) ?_))))
     refine aw_condS rfl (fun hc=>?_) (fun hc=>?_)
     ·refine walkS ?_
      (refine rtS Tryz.results194 ?_;exact ⟨_,[],.inl ⟨rfl,rfl⟩,_,(chk D b (a+(cnt D b f kk p:Nat)):List Eng.D).map .d,[],rfl,toZL_d _ (chk D b (a+(cnt D b f kk p:Nat))),by simp,by rw [hfin];rfl,by rw [hT];rfl⟩)
     ·omega
  ·have hfin:=rd_9e hrd hk hm hc0
   refine cbS Tryz.func194 rfl Tryz.call194 Tryz.ntmps194 fun en hsz hks hk0=>?_;refine enS ?_
   (repeat (first|refine walkS ?_|refine vS 0 (HV) ?_))
   refine aw_condS rfl (fun hc=>?_) (fun hc=>?_)
   ·refine walkS ?_
    (refine rtS Tryz.results194 ?_;exact ⟨_,[],.inl ⟨rfl,rfl⟩,_,(chk D b (a+(cnt D b f kk p:Nat)):List Eng.D).map .d,[],rfl,toZL_d _ (chk D b (a+(cnt D b f kk p:Nat))),by simp,by rw [hfin],by rw [hT];rfl⟩)
   ·omega
end
end Go.Proofs.YtomfggmmhkpeeaaGreatDoor.Eng
