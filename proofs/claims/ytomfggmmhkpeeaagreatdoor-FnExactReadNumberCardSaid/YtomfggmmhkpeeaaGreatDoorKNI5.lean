/-
 The program's locator follows a step.
-/
import Derived.Test.YtomfggmmhkpeeaaGreatDoorKNI4
set_option linter.unusedSimpArgs false
set_option linter.unusedVariables false
set_option linter.defProp false
set_option maxRecDepth 100000
set_option maxHeartbeats 4000000
namespace Go.Proofs.YtomfggmmhkpeeaaGreatDoor.Eng
open Go Go.RowKit

section
variable {M:Nat}{D:List RuleD}{b:List UInt8}
def FolOK (D:List RuleD) (b:List UInt8) (n p:Nat) (s:ByteArray):Prop:=match goS D b n p s with
 | some x=>AC Tryz.prog 137 [.ptr 0 0,.d (sD s)] (some ((locD D b n p).map .d)) (fun r' bx=>r'=.d (bD true)∧bx=some ((locD D b x.1 x.2).map .d))
 | none=>∃ (n':Int) (e:Nat),AC Tryz.prog 137 [.ptr 0 0,.d (sD s)] (some ((locD D b n p).map .d)) (fun r' bx=>r'=.d (bD false)∧bx=some ((locD D b n' e).map .d))
private def tyF:=ai (ai (ai tg25 (ai tg32 tg86)) (ai tg87 (ai tg194 tg34))) (ai (ai tg89 (ai tg192 tg3)) (ai tg4 (ai tg5 tg9)))
theorem fol_5 {n:Nat}{r:RuleD} (hr:D[n]?=some r) (k5:r.kind=5) {p e:Nat}{n':Int}{ok:Bool}{s:ByteArray} (HI:AC Tryz.prog 153 [.ptr 0 0,.d (encR r),.d (sD s)] (some ((locD D b n p).map .d)) (fun r' bx=>r'=.d (bD ok)∧bx=some ((locD D b n' e).map .d))) :
  AC Tryz.prog 137 [.ptr 0 0,.d (sD s)] (some ((locD D b n p).map .d)) (fun r' bx=>r'=.d (bD ok)∧bx=some ((locD D b n' e).map .d)):=by
 have c5:(r.kind==5)=true:=beq_iff_eq.2 k5
 refine cbS Tryz.func137 rfl Tryz.call137 Tryz.ntmps137 fun en hsz hks hk0=>?_;refine enS ?_
 (repeat (first|refine ctlS ?_|(refine ol_go ?_ (fun K1 hK1=>?_);exact trS;refine evS ?_;(try simp only [c5]);refine hK1 _ _ ?_;clear hK1 K1)|(refine ow_go ?_ dsS (fun K1 hK1=>?_);exact trS;refine evS ?_;(try simp only [c5]);refine hK1 _ ?_;clear hK1 K1)|refine skipS ?_|refine vS 0 (HI) ?_|refine aw_condT rfl ?_|refine aw_condF rfl ?_))
 (refine rtS Tryz.results137 ?_;exact ⟨_,[],.inl ⟨rfl,rfl⟩,_,(locD D b n' e:List Eng.D).map .d,[],rfl,toZL_d _ (locD D b n' e),by simp,⟨rfl,rfl⟩⟩)
theorem fol_6 {n:Nat}{r:RuleD} (hr:D[n]?=some r) (k6:r.kind=6) {p e:Nat}{n':Int}{ok:Bool}{s:ByteArray} (HI:AC Tryz.prog 154 [.ptr 0 0,.d (encR r),.d (sD s)] (some ((locD D b n p).map .d)) (fun r' bx=>r'=.d (bD ok)∧bx=some ((locD D b n' e).map .d))) :
  AC Tryz.prog 137 [.ptr 0 0,.d (sD s)] (some ((locD D b n p).map .d)) (fun r' bx=>r'=.d (bD ok)∧bx=some ((locD D b n' e).map .d)):=by
 have c5:(r.kind==5)=false:=by rw [beq_eq_false_iff_ne];omega
 have c6:(r.kind==6)=true:=beq_iff_eq.2 k6
 refine cbS Tryz.func137 rfl Tryz.call137 Tryz.ntmps137 fun en hsz hks hk0=>?_;refine enS ?_
 (repeat (first|refine ctlS ?_|(refine ol_go ?_ (fun K1 hK1=>?_);exact trS;refine evS ?_;(try simp only [c5,c6]);refine hK1 _ _ ?_;clear hK1 K1)|(refine ow_go ?_ dsS (fun K1 hK1=>?_);exact trS;refine evS ?_;(try simp only [c5,c6]);refine hK1 _ ?_;clear hK1 K1)|refine skipS ?_|refine vS 0 (HI) ?_|refine aw_condT rfl ?_|refine aw_condF rfl ?_))
 (refine rtS Tryz.results137 ?_;exact ⟨_,[],.inl ⟨rfl,rfl⟩,_,(locD D b n' e:List Eng.D).map .d,[],rfl,toZL_d _ (locD D b n' e),by simp,⟨rfl,rfl⟩⟩)
theorem fol_7 {n:Nat}{r:RuleD} (hr:D[n]?=some r) (k7:r.kind=7) {p e:Nat}{n':Int}{ok:Bool} (HI:AC Tryz.prog 155 [.ptr 0 0,.d (encR r)] (some ((locD D b n p).map .d)) (fun r' bx=>r'=.d (bD ok)∧bx=some ((locD D b n' e).map .d))) :
  AC Tryz.prog 137 [.ptr 0 0,.d (sD ⟨#[42]⟩)] (some ((locD D b n p).map .d)) (fun r' bx=>r'=.d (bD ok)∧bx=some ((locD D b n' e).map .d)):=by
 have c5:(r.kind==5)=false:=by rw [beq_eq_false_iff_ne];omega
 have c6:(r.kind==6)=false:=by rw [beq_eq_false_iff_ne];omega
 have c7:(r.kind==7)=true:=beq_iff_eq.2 k7
 have z1:decide ((⟨#[42]⟩:ByteArray)=⟨#[42]⟩)=true:=decide_eq_true rfl
 refine cbS Tryz.func137 rfl Tryz.call137 Tryz.ntmps137 fun en hsz hks hk0=>?_;refine enS ?_
 (repeat (first|refine ctlS ?_|(refine ol_go ?_ (fun K1 hK1=>?_);exact trS;refine evS ?_;(try simp only [c5,c6,c7,z1]);refine hK1 _ _ ?_;clear hK1 K1)|(refine ow_go ?_ dsS (fun K1 hK1=>?_);exact trS;refine evS ?_;(try simp only [c5,c6,c7,z1]);refine hK1 _ ?_;clear hK1 K1)|refine skipS ?_|refine vS 0 (HI) ?_|refine aw_condT rfl ?_|refine aw_condF rfl ?_))
 (refine rtS Tryz.results137 ?_;exact ⟨_,[],.inl ⟨rfl,rfl⟩,_,(locD D b n' e:List Eng.D).map .d,[],rfl,toZL_d _ (locD D b n' e),by simp,⟨rfl,rfl⟩⟩)
theorem fol_8y {n:Nat}{r:RuleD} (hr:D[n]?=some r) (k8:r.kind=8) (hk:1≤r.kids.length) {κ:Nat} (hκ:kid0 r=(κ:Int)) {p:Nat} (hb:b.length≤400) (h1:b[p]?=some 1) :
  AC Tryz.prog 137 [.ptr 0 0,.d (sD ⟨#[63]⟩)] (some ((locD D b n p).map .d)) (fun r' bx=>r'=.d (bD true)∧bx=some ((locD D b κ (p+1)).map .d)):=by
 have c5:(r.kind==5)=false:=by rw [beq_eq_false_iff_ne];omega
 have c6:(r.kind==6)=false:=by rw [beq_eq_false_iff_ne];omega
 have c7:(r.kind==7)=false:=by rw [beq_eq_false_iff_ne];omega
 have c8:(r.kind==8)=true:=beq_iff_eq.2 k8
 have z1:decide ((⟨#[63]⟩:ByteArray)=⟨#[63]⟩)=true:=decide_eq_true rfl
 have i0:=kid00 hk
 rw [hκ] at i0
 have hlt:p<b.length:=get_lt h1
 have d1:decide ((b.length:Int)≤(p:Int))=false:=decide_eq_false (by omega)
 have w1:((((1:UInt8).toNat:Nat):Int) != 1)=false:=rfl
 have e1:IntKind.i64.wrap ((p:Int)+1)=((p+1:Nat):Int):=by rw [wrap_small (by omega) (by omega)];omega
 refine cbS Tryz.func137 rfl Tryz.call137 Tryz.ntmps137 fun en hsz hks hk0=>?_;refine enS ?_
 (repeat (first|refine ctlS ?_|(refine ol_go ?_ (fun K1 hK1=>?_);exact trS;refine evS ?_;(try simp only [c5,c6,c7,c8,z1,d1,w1,e1]);refine hK1 _ _ ?_;clear hK1 K1)|(refine ow_go ?_ dsS (fun K1 hK1=>?_);exact trS;refine evS ?_;(try simp only [c5,c6,c7,c8,z1,d1,w1,e1]);refine hK1 _ ?_;clear hK1 K1)|refine skipS ?_|refine aw_condT rfl ?_|refine aw_condF rfl ?_))
 (refine rtS Tryz.results137 ?_;exact ⟨_,[],.inl ⟨rfl,rfl⟩,_,(locD D b κ (p+1):List Eng.D).map .d,[],rfl,toZL_d _ (locD D b κ (p+1)),by simp,⟨rfl,rfl⟩⟩)
theorem fol_8n {n:Nat}{r:RuleD} (hr:D[n]?=some r) (k8:r.kind=8) {p:Nat} (hb:b.length≤400) (hp:p≤b.length) (h1:b[p]?≠some 1) :
  AC Tryz.prog 137 [.ptr 0 0,.d (sD ⟨#[63]⟩)] (some ((locD D b n p).map .d)) (fun r' bx=>r'=.d (bD false)∧bx=some ((locD D b n p).map .d)):=by
 have c5:(r.kind==5)=false:=by rw [beq_eq_false_iff_ne];omega
 have c6:(r.kind==6)=false:=by rw [beq_eq_false_iff_ne];omega
 have c7:(r.kind==7)=false:=by rw [beq_eq_false_iff_ne];omega
 have c8:(r.kind==8)=true:=beq_iff_eq.2 k8
 have z1:decide ((⟨#[63]⟩:ByteArray)=⟨#[63]⟩)=true:=decide_eq_true rfl
 by_cases hlt:p<b.length
 ·have d1:decide ((b.length:Int)≤(p:Int))=false:=decide_eq_false (by omega)
  have i1:b[p]?=some (b[p]'hlt):=List.getElem?_eq_getElem hlt
  have w1:((((b[p]'hlt).toNat:Nat):Int) != 1)=true:=by
   rw [bne_iff_ne]
   exact fun h=>h1 (by rw [i1,u8_inj (y:=1) h])
  refine cbS Tryz.func137 rfl Tryz.call137 Tryz.ntmps137 fun en hsz hks hk0=>?_;refine enS ?_
  (repeat (first|refine ctlS ?_|(refine ol_go ?_ (fun K1 hK1=>?_);exact trS;refine evS ?_;(try simp only [c5,c6,c7,c8,z1,d1,w1]);refine hK1 _ _ ?_;clear hK1 K1)|(refine ow_go ?_ dsS (fun K1 hK1=>?_);exact trS;refine evS ?_;(try simp only [c5,c6,c7,c8,z1,d1,w1]);refine hK1 _ ?_;clear hK1 K1)|refine skipS ?_|refine aw_condT rfl ?_|refine aw_condF rfl ?_))
  (refine rtS Tryz.results137 ?_;exact ⟨_,[],.inl ⟨rfl,rfl⟩,_,(locD D b n p:List Eng.D).map .d,[],rfl,toZL_d _ (locD D b n p),by simp,⟨rfl,rfl⟩⟩)
 ·have d1:decide ((b.length:Int)≤(p:Int))=true:=decide_eq_true (by omega)
  refine cbS Tryz.func137 rfl Tryz.call137 Tryz.ntmps137 fun en hsz hks hk0=>?_;refine enS ?_
  (repeat (first|refine ctlS ?_|(refine ol_go ?_ (fun K1 hK1=>?_);exact trS;refine evS ?_;(try simp only [c5,c6,c7,c8,z1,d1]);refine hK1 _ _ ?_;clear hK1 K1)|(refine ow_go ?_ dsS (fun K1 hK1=>?_);exact trS;refine evS ?_;(try simp only [c5,c6,c7,c8,z1,d1]);refine hK1 _ ?_;clear hK1 K1)|refine skipS ?_|refine aw_condT rfl ?_|refine aw_condF rfl ?_))
  (refine rtS Tryz.results137 ?_;exact ⟨_,[],.inl ⟨rfl,rfl⟩,_,(locD D b n p:List Eng.D).map .d,[],rfl,toZL_d _ (locD D b n p),by simp,⟨rfl,rfl⟩⟩)
theorem fol_9 {n:Nat}{r:RuleD} (hr:D[n]?=some r) (k9:r.kind=9) (hk:1≤r.kids.length) {κ:Nat} (hκ:kid0 r=(κ:Int)) {p:Nat} :
  AC Tryz.prog 137 [.ptr 0 0,.d (sD ⟨#[43]⟩)] (some ((locD D b n p).map .d)) (fun r' bx=>r'=.d (bD true)∧bx=some ((locD D b κ p).map .d)):=by
 have c5:(r.kind==5)=false:=by rw [beq_eq_false_iff_ne];omega
 have c6:(r.kind==6)=false:=by rw [beq_eq_false_iff_ne];omega
 have c7:(r.kind==7)=false:=by rw [beq_eq_false_iff_ne];omega
 have c8:(r.kind==8)=false:=by rw [beq_eq_false_iff_ne];omega
 have c9:(r.kind==9)=true:=beq_iff_eq.2 k9
 have z1:decide ((⟨#[43]⟩:ByteArray)=⟨#[43]⟩)=true:=decide_eq_true rfl
 have i0:=kid00 hk
 rw [hκ] at i0
 refine cbS Tryz.func137 rfl Tryz.call137 Tryz.ntmps137 fun en hsz hks hk0=>?_;refine enS ?_
 (repeat (first|refine ctlS ?_|(refine ol_go ?_ (fun K1 hK1=>?_);exact trS;refine evS ?_;(try simp only [c5,c6,c7,c8,c9,z1]);refine hK1 _ _ ?_;clear hK1 K1)|(refine ow_go ?_ dsS (fun K1 hK1=>?_);exact trS;refine evS ?_;(try simp only [c5,c6,c7,c8,c9,z1]);refine hK1 _ ?_;clear hK1 K1)|refine skipS ?_|refine aw_condT rfl ?_|refine aw_condF rfl ?_))
 (refine rtS Tryz.results137 ?_;exact ⟨_,[],.inl ⟨rfl,rfl⟩,_,(locD D b κ p:List Eng.D).map .d,[],rfl,toZL_d _ (locD D b κ p),by simp,⟨rfl,rfl⟩⟩)
theorem fol_no {n:Nat}{r:RuleD} (hr:D[n]?=some r) {s:ByteArray} (h5:r.kind≠5) (h6:r.kind≠6) (h7:(decide (s=⟨#[42]⟩))=false∨r.kind≠7) (h8:(decide (s=⟨#[63]⟩))=false∨r.kind≠8) (h9:(decide (s=⟨#[43]⟩))=false∨r.kind≠9) {p:Nat} :
  AC Tryz.prog 137 [.ptr 0 0,.d (sD s)] (some ((locD D b n p).map .d)) (fun r' bx=>r'=.d (bD false)∧bx=some ((locD D b n p).map .d)):=by
 have c5:(r.kind==5)=false:=by rw [beq_eq_false_iff_ne];exact h5
 have c6:(r.kind==6)=false:=by rw [beq_eq_false_iff_ne];exact h6
 by_cases k7:r.kind=7
 ·have c7:(r.kind==7)=true:=beq_iff_eq.2 k7
  have c8:(r.kind==8)=false:=by rw [beq_eq_false_iff_ne];omega
  have c9:(r.kind==9)=false:=by rw [beq_eq_false_iff_ne];omega
  have z7:=h7.resolve_right (fun h=>h k7)
  refine cbS Tryz.func137 rfl Tryz.call137 Tryz.ntmps137 fun en hsz hks hk0=>?_;refine enS ?_
  (repeat (first|refine ctlS ?_|(refine ol_go ?_ (fun K1 hK1=>?_);exact trS;refine evS ?_;(try simp only [c5,c6,c7,c8,c9,z7]);refine hK1 _ _ ?_;clear hK1 K1)|(refine ow_go ?_ dsS (fun K1 hK1=>?_);exact trS;refine evS ?_;(try simp only [c5,c6,c7,c8,c9,z7]);refine hK1 _ ?_;clear hK1 K1)|refine skipS ?_|refine aw_condT rfl ?_|refine aw_condF rfl ?_))
  (refine rtS Tryz.results137 ?_;exact ⟨_,[],.inl ⟨rfl,rfl⟩,_,(locD D b n p:List Eng.D).map .d,[],rfl,toZL_d _ (locD D b n p),by simp,⟨rfl,rfl⟩⟩)
 have c7:(r.kind==7)=false:=by rw [beq_eq_false_iff_ne];exact k7
 by_cases k8:r.kind=8
 ·have c8:(r.kind==8)=true:=beq_iff_eq.2 k8
  have c9:(r.kind==9)=false:=by rw [beq_eq_false_iff_ne];omega
  have z8:=h8.resolve_right (fun h=>h k8)
  refine cbS Tryz.func137 rfl Tryz.call137 Tryz.ntmps137 fun en hsz hks hk0=>?_;refine enS ?_
  (repeat (first|refine ctlS ?_|(refine ol_go ?_ (fun K1 hK1=>?_);exact trS;refine evS ?_;(try simp only [c5,c6,c7,c8,c9,z8]);refine hK1 _ _ ?_;clear hK1 K1)|(refine ow_go ?_ dsS (fun K1 hK1=>?_);exact trS;refine evS ?_;(try simp only [c5,c6,c7,c8,c9,z8]);refine hK1 _ ?_;clear hK1 K1)|refine skipS ?_|refine aw_condT rfl ?_|refine aw_condF rfl ?_))
  (refine rtS Tryz.results137 ?_;exact ⟨_,[],.inl ⟨rfl,rfl⟩,_,(locD D b n p:List Eng.D).map .d,[],rfl,toZL_d _ (locD D b n p),by simp,⟨rfl,rfl⟩⟩)
 have c8:(r.kind==8)=false:=by rw [beq_eq_false_iff_ne];exact k8
 by_cases k9:r.kind=9
 ·have c9:(r.kind==9)=true:=beq_iff_eq.2 k9
  have z9:=h9.resolve_right (fun h=>h k9)
  refine cbS Tryz.func137 rfl Tryz.call137 Tryz.ntmps137 fun en hsz hks hk0=>?_;refine enS ?_
  (repeat (first|refine ctlS ?_|(refine ol_go ?_ (fun K1 hK1=>?_);exact trS;refine evS ?_;(try simp only [c5,c6,c7,c8,c9,z9]);refine hK1 _ _ ?_;clear hK1 K1)|(refine ow_go ?_ dsS (fun K1 hK1=>?_);exact trS;refine evS ?_;(try simp only [c5,c6,c7,c8,c9,z9]);refine hK1 _ ?_;clear hK1 K1)|refine skipS ?_|refine aw_condT rfl ?_|refine aw_condF rfl ?_))
  (refine rtS Tryz.results137 ?_;exact ⟨_,[],.inl ⟨rfl,rfl⟩,_,(locD D b n p:List Eng.D).map .d,[],rfl,toZL_d _ (locD D b n p),by simp,⟨rfl,rfl⟩⟩)
 have c9:(r.kind==9)=false:=by rw [beq_eq_false_iff_ne];exact k9
 refine cbS Tryz.func137 rfl Tryz.call137 Tryz.ntmps137 fun en hsz hks hk0=>?_;refine enS ?_
 (repeat (first|refine ctlS ?_|(refine ol_go ?_ (fun K1 hK1=>?_);exact trS;refine evS ?_;(try simp only [c5,c6,c7,c8,c9]);refine hK1 _ _ ?_;clear hK1 K1)|(refine ow_go ?_ dsS (fun K1 hK1=>?_);exact trS;refine evS ?_;(try simp only [c5,c6,c7,c8,c9]);refine hK1 _ ?_;clear hK1 K1)|refine skipS ?_|refine aw_condT rfl ?_|refine aw_condF rfl ?_))
 (refine rtS Tryz.results137 ?_;exact ⟨_,[],.inl ⟨rfl,rfl⟩,_,(locD D b n p:List Eng.D).map .d,[],rfl,toZL_d _ (locD D b n p),by simp,⟨rfl,rfl⟩⟩)
theorem fol_all (hD:DB M D) (hM:M≤1048576) (hb4:b.length≤400) (hV:descP D) {n p:Nat} (hn:n<D.length) (hp:p≤b.length) {s:ByteArray} (hs:s.size≤1048576):FolOK D b n p s:=by
 obtain ⟨r,hr⟩:∃ r,D[n]?=some r:=⟨_,List.getElem?_eq_getElem hn⟩
 have hrb:=hD.rule r (List.mem_of_getElem? hr)
 have hlt:=hrb.lt
 have G:GoodR D n r:=good_of hV hr
 have hrd:=ruleD_get hr
 have kidn:∀ j (hj:j<r.kids.length),(r.kids[j].toNat:Int)=r.kids[j]∧r.kids[j].toNat<D.length:=fun j hj=>by have:=G.kid j hj;omega
 have HI:∀ k q',q'≤b.length→(rd D b D.length k q').2.1≤b.length:=fun k q' h=>(rd_in D b D.length k q' h).2
 have k1e:∀ (h:2≤r.kids.length),kid1 r=r.kids[1]:=fun h=>by simp [kid1,List.getD,show 1<r.kids.length by omega]
 have k0e:∀ (h:1≤r.kids.length),kid0 r=r.kids[0]:=fun h=>by simp [kid0,List.headD_eq_head?_getD,List.head?_eq_getElem?,show 0<r.kids.length by omega]
 unfold FolOK goS
 rw [hrd]
 dsimp only
 by_cases k5:r.kind=5
 ·rw [if_pos k5]
  obtain ⟨g1,g2⟩:=G.k5 k5
  obtain ⟨j,q,ej,hj,hq,hqr⟩:=kid_int (show 0≤limD D (kid0 r) by omega)
  have hqk:q.kind=1:=by
   obtain ⟨q',e1,e2,_⟩:=limD_rule (show 0≤limD D (kid0 r) by omega)
   rw [←hqr,ruleD_of e1]
   exact e2
  rw [hqr]
  cases hi:intAt q b p with
  | none=>
   have HN:=numI_n hD hM hb4 hV hj hqk hp (n:Int) hi
   rw [←ej] at HN
   exact ⟨_,_,fol_5 hr k5 (item_n (by omega) hs HN (.inl rfl))⟩
  | some m=>
   have HN:=numI_s hD hM hb4 hV hj hqk hp (n:Int) hi
   rw [←ej] at HN
   obtain ⟨hi1,_⟩:=intAt_in hi hp
   cases hps:parP s with
   | none=>exact ⟨_,_,fol_5 hr k5 (item_n (by omega) hs HN (.inr (.inl hps)))⟩
   | some k=>
    dsimp only
    by_cases hm:m≤40∧k<m
    ·rw [if_pos hm]
     have hk1:=kidn 1 (by omega)
     have hIt:=item_y hD hM hb4 hV (n:=(n:Int)) (p:=p) hi1 (r:=r) (by omega) (κ:=(kid1 r).toNat) (by rw [k1e (by omega)];exact hk1.1.symm) (by rw [k1e (by omega)];exact hk1.2) hs HN hps hm.1 hm.2
     cases hpa:pasI (rd D b D.length) (List.replicate k (kid1 r).toNat) (p+q.size.toNat) with
     | none=>
      rw [hpa] at hIt
      exact ⟨_,_,fol_5 hr k5 hIt⟩
     | some e=>
      rw [hpa] at hIt
      exact fol_5 hr k5 hIt
    ·rw [if_neg hm]
     refine ⟨_,_,fol_5 hr k5 (item_n (by omega) hs HN ?_)⟩
     by_cases h4:m≤40
     ·exact .inr (.inr (.inr ⟨k,hps,by have:¬k<m:=fun h=>hm ⟨h4,h⟩;omega⟩))
     ·exact .inr (.inr (.inl (by omega)))
 rw [if_neg k5]
 by_cases k6:r.kind=6
 ·rw [if_pos k6]
  have hl:=names_6 hV hr k6
  cases hx:idxT r.names s with
  | none=>exact ⟨_,_,fol_6 hr k6 (part_n hrb hM hx)⟩
  | some j=>
   dsimp only
   have hPt:=part_y hD hM hb4 hV (n:=(n:Int)) hp hrb hl (fun i hi=>by have:=G.kid i hi;omega) hx
   cases hpa:pasI (rd D b D.length) ((r.kids.take j).map Int.toNat) p with
   | none=>
    rw [hpa] at hPt
    exact ⟨_,_,fol_6 hr k6 hPt⟩
   | some e=>
    rw [hpa] at hPt
    exact fol_6 hr k6 hPt
 rw [if_neg k6]
 by_cases k7:r.kind=7
 ·rw [if_pos k7]
  obtain ⟨g1,g2⟩:=G.k7 k7
  obtain ⟨j,q,ej,hj,hq,hqr⟩:=kid_int g2
  have hqk:q.kind=1:=by
   obtain ⟨q',e1,e2,_⟩:=limD_rule (show 0≤limD D (kid0 r) by omega)
   rw [←hqr,ruleD_of e1]
   exact e2
  rw [hqr]
  by_cases hst:s=⟨#[42]⟩
  ·subst hst
   cases hi:intAt q b p with
   | none=>
    have HN:=numI_n hD hM hb4 hV hj hqk hp (n:Int) hi
    rw [←ej] at HN
    exact ⟨_,_,fol_7 hr k7 (alt_n (by omega) (by omega) HN (.inl rfl))⟩
   | some m=>
    have HN:=numI_s hD hM hb4 hV hj hqk hp (n:Int) hi
    rw [←ej] at HN
    dsimp only
    cases ht:tagIx r.tags m with
    | none=>exact ⟨_,_,fol_7 hr k7 (alt_n (by omega) (by omega) HN (.inr ht))⟩
    | some k=>
     have hkt:=tagIx_lt ht
     have hkk:=kidn (k+1) (by omega)
     dsimp only
     rw [if_pos rfl,show r.kids.getD (k+1) 0=r.kids[k+1]'(by omega) by simp [List.getD,show k+1<r.kids.length by omega]]
     exact fol_7 hr k7 (alt_y (by omega) HN ht (by omega) hkk.1.symm)
  ·have hno:=fol_no (D:=D) (b:=b) hr (s:=s) k5 k6 (.inl (decide_eq_false hst)) (.inr (by omega)) (.inr (by omega)) (p:=p)
   cases hi:intAt q b p with
   | none=>exact ⟨_,_,hno⟩
   | some m=>
    dsimp only
    cases ht:tagIx r.tags m with
    | none=>exact ⟨_,_,hno⟩
    | some k=>
     dsimp only
     rw [if_neg hst]
     exact ⟨_,_,hno⟩
 rw [if_neg k7]
 by_cases k8:r.kind=8
 ·rw [if_pos k8]
  have hl:=G.k8 k8
  by_cases hst:s=⟨#[63]⟩
  ·subst hst
   by_cases hb1:b[p]?=some 1
   ·rw [if_pos ⟨hb1,rfl⟩]
    have hk0:=kidn 0 (by omega)
    exact fol_8y hr k8 (by omega) (κ:=(kid0 r).toNat) (by rw [k0e (by omega)];exact hk0.1.symm) hb4 hb1
   ·rw [if_neg (fun h=>hb1 h.1)]
    exact ⟨_,_,fol_8n hr k8 hb4 hp hb1⟩
  ·rw [if_neg (fun h=>hst h.2)]
   exact ⟨_,_,fol_no hr k5 k6 (.inr k7) (.inl (decide_eq_false hst)) (.inr (by omega))⟩
 rw [if_neg k8]
 by_cases k9:r.kind=9
 ·rw [if_pos k9]
  have hl:=G.k9 k9
  by_cases hst:s=⟨#[43]⟩
  ·subst hst
   rw [if_pos rfl]
   have hk0:=kidn 0 (by omega)
   exact fol_9 hr k9 (by omega) (κ:=(kid0 r).toNat) (by rw [k0e (by omega)];exact hk0.1.symm)
  ·rw [if_neg hst]
   exact ⟨_,_,fol_no hr k5 k6 (.inr k7) (.inr k8) (.inl (decide_eq_false hst))⟩
 rw [if_neg k9]
 exact ⟨_,_,fol_no hr k5 k6 (.inr k7) (.inr k8) (.inr k9)⟩
end
end Go.Proofs.YtomfggmmhkpeeaaGreatDoor.Eng
