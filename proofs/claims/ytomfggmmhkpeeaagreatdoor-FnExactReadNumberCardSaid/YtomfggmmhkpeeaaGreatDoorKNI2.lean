/-
 The engine, part 46: jumps back to a label.

 The program's locator: it passes parts, reads integers, goes to parts.

 The program's locator: items of arrays, parts of sequences.
-/
import Derived.Test.YtomfggmmhkpeeaaGreatDoorKE41
import Derived.ScopeJumps
import Derived.Test.YtomfggmmhkpeeaaGreatDoorKNT1
import Derived.Test.YtomfggmmhkpeeaaGreatDoorKE6
import Derived.Test.YtomfggmmhkpeeaaGreatDoorKE4
import Derived.Test.YtomfggmmhkpeeaaGreatDoorKNAX
set_option linter.unusedSimpArgs false
set_option linter.unusedVariables false
set_option linter.defProp false
set_option maxRecDepth 100000
set_option maxHeartbeats 4000000
namespace Go.Proofs.YtomfggmmhkpeeaaGreatDoor.Eng
open Go Go.RowKit

section
variable {P:Program}{en:En}{K:Exit→St→Prop}{s:St}
theorem aw_label {l:Nat} (h:K .normal s):AWs P en (.label l) K s:=fun a w hs=>wp_label ⟨s,hs,h⟩
theorem aw_goto {l:Nat} (h:K (.goto l) s):AWs P en (.goto l) K s:=fun a w hs=>wp_goto ⟨s,hs,h⟩
theorem aw_scope0 {c:Code} (h:AWs P en c (fun e s'=>match e with|.goto _=>False|e=>K e s') s):AWs P en (.scope c) K s:=fun a w hs=>
 wp_scope_straight (wp_mono (h a w hs) fun e a' w' ⟨s',h1,h2⟩=>by
  cases e<;>first|exact h2|exact ⟨s',h1,h2⟩)
theorem aw_scopeR {σ:Type} (mk:σ→St) (I:σ→Prop) (μ:σ→Nat) {c rest:Code} (l:Nat) (hf:findLabel c l=some (.seq .skip rest)) (hk:∀ k,en.ks k→k=0) (hk0:∀ x,0<(mk x).nx)
  (hr:∀ x,I x→AWs P en rest (fun e s'=>match e with|.goto l'=>l'=l∧∃ y ρ,I y∧μ y<μ x∧sg ρ 0=some 0∧s'.wk (sg ρ) (mk y)|e=>K e s') (mk x))
  (h1:(∀ s' x ρ,I x→sg ρ 0=some 0→s'.wk (sg ρ) (mk x)→AWs P en rest (fun e s'=>match e with|.goto l'=>l'=l∧∃ y ρ,I y∧sg ρ 0=some 0∧s'.wk (sg ρ) (mk y)|e=>K e s') s')→AWs P en c (fun e s'=>match e with|.goto l'=>l'=l∧∃ y ρ,I y∧sg ρ 0=some 0∧s'.wk (sg ρ) (mk y)|e=>K e s') s):AWs P en (.scope c) K s:=fun a w hs=>by
 have hkk:∀ (ρ:List (Nat × Option Nat)) x,sg ρ 0=some 0→∀ k,en.ks k→k<(mk x).nx∧sg ρ k=some k:=fun ρ x h k hk'=>by
  have:=hk k hk';subst this
  exact ⟨hk0 x,h⟩
 refine wp_scope_jumps l (fun a w=>∃ x,I x∧SimS en (mk x) a w) (fun a w=>leastOf fun n=>∃ x,I x∧SimS en (mk x) a w∧μ x=n) hf ?_ ?_
 ·refine wp_mono (h1 (fun s' x ρ hI hρ hle a w hs'=>?_) a w hs) fun e a' w' ⟨s',h2,h3⟩=>?_
  ·refine wp_mono (hr x hI a w (simS_wk (hkk ρ x hρ) hle hs')) fun e a' w' ⟨s2,h2,h3⟩=>⟨s2,h2,?_⟩
   cases e with
   | goto l'=>
    obtain ⟨e1,y,ρ',hy,_,hρ',hle'⟩:=h3
    exact ⟨e1,y,ρ',hy,hρ',hle'⟩
   | _=>exact h3
  ·cases e with
   | goto l'=>
    obtain ⟨e1,y,ρ',hy,hρ',hle'⟩:=h3
    exact ⟨e1,y,hy,simS_wk (hkk ρ' y hρ') hle' h2⟩
   | _=>exact ⟨s',h2,h3⟩
 ·rintro a w ⟨x,hx,hsx⟩
  obtain ⟨⟨z,hz,hsz,hμ⟩,_⟩:=leastOf_spec (S:=fun n=>∃ x,I x∧SimS en (mk x) a w∧μ x=n) ⟨x,hx,hsx,rfl⟩
  refine wp_mono (aw_seq (aw_skip (hr z hz)) a w hsz) fun e a' w' ⟨s',h2,h3⟩=>?_
  cases e with
  | goto l'=>
   obtain ⟨e1,y,ρ',hy,hlt,hρ',hle'⟩:=h3
   have hsy:=simS_wk (hkk ρ' y hρ') hle' h2
   refine ⟨e1,⟨y,hy,hsy⟩,?_⟩
   obtain ⟨_,hmin⟩:=leastOf_spec (S:=fun n=>∃ x,I x∧SimS en (mk x) a' w'∧μ x=n) ⟨y,hy,hsy,rfl⟩
   have:=hmin (μ y) ⟨y,hy,hsy,rfl⟩
   omega
  | _=>exact ⟨s',h2,h3⟩
end
end Go.Proofs.YtomfggmmhkpeeaaGreatDoor.Eng
namespace Go.Proofs.YtomfggmmhkpeeaaGreatDoor.Eng
open Go Go.RowKit

section
variable {M:Nat}{D:List RuleD}{b:List UInt8}
abbrev locD (D:List RuleD) (b:List UInt8) (r:Int) (p:Nat):List Eng.D:=[encDs D,encB b,iD r,iD p]
theorem known_ys (hV:descP D) {n:Nat} (hn:n<D.length):vKnown D (n:Int)=true:=by
 unfold vKnown
 rw [vDesc_yes hV,decide_eq_true (by omega)]
 rfl
theorem readV_r (hV:descP D) (hb4:b.length≤400) {k q:Nat} (hk:k<D.length) (hq:q≤b.length):readV D b (k:Int) (q:Int)=rd D b D.length k q:=by
 unfold readV
 rw [if_pos ⟨known_ys hV hk,by omega,hb4⟩,Int.toNat_natCast,Int.toNat_natCast]
private def tyF:=ai (ai (ai tg25 (ai tg32 tg86)) (ai tg87 (ai tg194 tg34))) (ai (ai tg89 (ai tg192 tg3)) (ai tg4 (ai tg5 tg9)))
theorem pass_c (hD:DB M D) (hM:M≤1048576) (hb4:b.length≤400) (hV:descP D) {k p:Nat} (hk:k<D.length) (hp:p≤b.length) (r:Int) {v:V}{q c:Nat} (h:rd D b D.length k p=(v,q,c)):AC Tryz.prog 138 [.ptr 0 0,.d (iD k)] (some ((locD D b r p).map .d)) (fun r' bx=>r'=.d (bD (decide (c=0)))∧bx=some ((locD D b r q).map .d)):=by
 have HC:=checkValueI_c hD hM (b:=b) (by omega) (k:Nat) (p:Nat)
 rw [readV_r hV hb4 hk hp,h] at HC
 have e1:(((c:Nat):Int)==0)=decide (c=0):=by
  by_cases h:c=0
  ·subst h;rfl
  ·rw [decide_eq_false h,beq_eq_false_iff_ne];omega
 refine cbS Tryz.func138 rfl Tryz.call138 Tryz.ntmps138 fun en hsz hks hk0=>?_;refine enS ?_
 (repeat (first|refine ctlS ?_|(refine ol_go ?_ (fun K1 hK1=>?_);exact trS;refine evS ?_;(try simp only [e1]);refine hK1 _ _ ?_;clear hK1 K1)|(refine ow_go ?_ dsS (fun K1 hK1=>?_);exact trS;refine evS ?_;(try simp only [e1]);refine hK1 _ ?_;clear hK1 K1)|refine skipS ?_|refine cS (HC) ?_|refine aw_condT rfl ?_|refine aw_condF rfl ?_))
 (refine rtS Tryz.results138 ?_;exact ⟨_,[],.inl ⟨rfl,rfl⟩,_,(locD D b r q:List Eng.D).map .d,[],rfl,toZL_d _ (locD D b r q),by simp,⟨rfl,rfl⟩⟩)
theorem numI_n (hD:DB M D) (hM:M≤1048576) (hb4:b.length≤400) (hV:descP D) {j p:Nat}{q:RuleD} (hj:D[j]?=some q) (hq:q.kind=1) (hp:p≤b.length) (r:Int) (hi:intAt q b p=none):AC Tryz.prog 175 [.ptr 0 0,.d (iD j)] (some ((locD D b r p).map .d)) (fun r' bx=>r'=.d (.tup [iD 0,bD false])∧bx=some ((locD D b r (rd D b D.length j p).2.1).map .d)):=by
 have hjl:j<D.length:=(List.getElem?_eq_some_iff.1 hj).1
 obtain ⟨F,hF⟩:∃ F,D.length=F+1:=⟨D.length - 1,by omega⟩
 have HP:=fun v q' c (h:rd D b D.length j p=(v,q',c))=>pass_c hD hM hb4 hV hjl hp r h
 have hr:=rd_1n (f:=F) (ruleD_get hj) hq hi
 rw [←hF] at hr
 rw [hr]
 have HP':=HP _ _ _ hr
 have n1:(!false)=true:=rfl
 refine cbS Tryz.func175 rfl Tryz.call175 Tryz.ntmps175 fun en hsz hks hk0=>?_;refine enS ?_
 (repeat (first|refine ctlS ?_|(refine ol_go ?_ (fun K1 hK1=>?_);exact trS;refine evS ?_;(try simp only [n1]);refine hK1 _ _ ?_;clear hK1 K1)|(refine ow_go ?_ dsS (fun K1 hK1=>?_);exact trS;refine evS ?_;(try simp only [n1]);refine hK1 _ ?_;clear hK1 K1)|refine skipS ?_|refine vS 0 (HP') ?_|refine aw_condT rfl ?_|refine aw_condF rfl ?_))
 (refine rtS Tryz.results175 ?_;exact ⟨_,[],.inl ⟨rfl,rfl⟩,_,(locD D b r _:List Eng.D).map .d,[],rfl,toZL_d _ (locD D b r _),by simp,⟨rfl,rfl⟩⟩)
theorem numI_s (hD:DB M D) (hM:M≤1048576) (hb4:b.length≤400) (hV:descP D) {j p:Nat}{q:RuleD} (hj:D[j]?=some q) (hq:q.kind=1) (hp:p≤b.length) (r:Int) {m:Nat} (hi:intAt q b p=some m):AC Tryz.prog 175 [.ptr 0 0,.d (iD j)] (some ((locD D b r p).map .d)) (fun r' bx=>r'=.d (.tup [iD (m:Nat),bD true])∧bx=some ((locD D b r (p+q.size.toNat)).map .d)):=by
 have hjl:j<D.length:=(List.getElem?_eq_some_iff.1 hj).1
 obtain ⟨F,hF⟩:∃ F,D.length=F+1:=⟨D.length - 1,by omega⟩
 have HP:=fun v q' c (h:rd D b D.length j p=(v,q',c))=>pass_c hD hM hb4 hV hjl hp r h
 have hr:=rd_1s (f:=F) (ruleD_get hj) hq hi
 rw [←hF] at hr
 have HP':=HP _ _ _ hr
 obtain ⟨hi1,hi2⟩:=intAt_in hi hp
 have hri:readInt ((b.drop p).take q.size.toNat) q.little=m:=by
  unfold intAt at hi
  split at hi
  ·cases hi
  ·exact Option.some.inj hi
 have HI:=(readIntI_c (l:=List.take (p+q.size.toNat - p) (List.drop p b)) q.little).eqv (r1:=.d (iD (m:Nat))) (by rw [show p+q.size.toNat - p=q.size.toNat by omega,hri])
 have n1:(!true)=false:=rfl
 refine cbS Tryz.func175 rfl Tryz.call175 Tryz.ntmps175 fun en hsz hks hk0=>?_;refine enS ?_
 (repeat (first|refine ctlS ?_|(refine ol_go ?_ (fun K1 hK1=>?_);exact trS;refine evS ?_;(try simp only [n1]);refine hK1 _ _ ?_;clear hK1 K1)|(refine ow_go ?_ dsS (fun K1 hK1=>?_);exact trS;refine evS ?_;(try simp only [n1]);refine hK1 _ ?_;clear hK1 K1)|refine skipS ?_|refine vS 0 (HP') ?_|refine cS (HI) ?_|refine aw_condT rfl ?_|refine aw_condF rfl ?_))
 (refine rtS Tryz.results175 ?_;exact ⟨_,[],.inl ⟨rfl,rfl⟩,_,(locD D b r (p+q.size.toNat):List Eng.D).map .d,[],rfl,toZL_d _ (locD D b r (p+q.size.toNat)),by simp,⟨rfl,rfl⟩⟩)
end
end Go.Proofs.YtomfggmmhkpeeaaGreatDoor.Eng
namespace Go.Proofs.YtomfggmmhkpeeaaGreatDoor.Eng
open Go Go.RowKit

def badP (g:Nat→Nat→V × Nat × Nat):List Nat→Nat→Nat
 | [],p=>p
 | k::ks,p=>if (g k p).2.2=0 then badP g ks (g k p).2.1 else (g k p).2.1
theorem pasI_ok {g:Nat→Nat→V × Nat × Nat}{k:Nat}{ks:List Nat}{p:Nat} (h:(g k p).2.2=0):pasI g (k::ks) p=pasI g ks (g k p).2.1:=by rw [pasI,if_pos h]
theorem pasI_bad {g:Nat→Nat→V × Nat × Nat}{k:Nat}{ks:List Nat}{p:Nat} (h:(g k p).2.2≠0):pasI g (k::ks) p=none:=by rw [pasI,if_neg h]
theorem badP_ok {g:Nat→Nat→V × Nat × Nat}{k:Nat}{ks:List Nat}{p:Nat} (h:(g k p).2.2=0):badP g (k::ks) p=badP g ks (g k p).2.1:=by rw [badP,if_pos h]
theorem badP_bad {g:Nat→Nat→V × Nat × Nat}{k:Nat}{ks:List Nat}{p:Nat} (h:(g k p).2.2≠0):badP g (k::ks) p=(g k p).2.1:=by rw [badP,if_neg h]
section
variable {M:Nat}{D:List RuleD}{b:List UInt8}
def locZ (D:List RuleD) (b:List UInt8) (n:Int) (e:Nat) (k:Nat):Option Nat→Bool × List Eng.D
 | some q=>(true,locD D b k q)
 | none=>(false,locD D b n e)
theorem kid01 {r:RuleD} (h:2≤r.kids.length):r.kids[0]?=some (kid0 r)∧r.kids[1]?=some (kid1 r):=by
 constructor
 ·rw [List.getElem?_eq_getElem (by omega)]
  simp [kid0,List.headD_eq_head?_getD,List.head?_eq_getElem?,show 0<r.kids.length by omega]
 ·rw [List.getElem?_eq_getElem (by omega)]
  simp [kid1,List.getD,show 1<r.kids.length by omega]
theorem item_n {n:Int}{p e:Nat}{r:RuleD} (hk:2≤r.kids.length) {s:ByteArray} (hs:s.size≤1048576) {v:Int}{ok:Bool} (HN:AC Tryz.prog 175 [.ptr 0 0,.d (iD (kid0 r))] (some ((locD D b n p).map .d)) (fun r' bx=>r'=.d (.tup [iD v,bD ok])∧bx=some ((locD D b n e).map .d)))
  (h:ok=false∨parP s=none∨40<v∨∃ k:Nat,parP s=some k∧v≤k):AC Tryz.prog 153 [.ptr 0 0,.d (encR r),.d (sD s)] (some ((locD D b n p).map .d)) (fun r' bx=>r'=.d (bD false)∧bx=some ((locD D b n e).map .d)):=by
 obtain ⟨i0,i1⟩:=kid01 hk
 have HP:=parI_c hs
 have n1:(!true)=false:=rfl
 have n2:(!false)=true:=rfl
 cases hp:parP s with
 | none=>
  rw [hp] at HP
  have HP':AC Tryz.prog 174 [.d (sD s)] none (fun r' _=>r'=.d (.tup [iD 0,bD false])):=HP
  refine cbS Tryz.func153 rfl Tryz.call153 Tryz.ntmps153 fun en hsz hks hk0=>?_;refine enS ?_
  (repeat (first|refine walkS ?_|refine aw_condT rfl ?_|refine aw_condF rfl ?_))
  refine aw_scope0 ?_
  (repeat (first|refine ctlS ?_|(refine ol_go ?_ (fun K1 hK1=>?_);exact trS;refine evS ?_;(try simp only [n2]);refine hK1 _ _ ?_;clear hK1 K1)|(refine ow_go ?_ dsS (fun K1 hK1=>?_);exact trS;refine evS ?_;(try simp only [n2]);refine hK1 _ ?_;clear hK1 K1)|refine skipS ?_|refine vS 0 (HN) ?_|refine cS (HP') ?_|refine aw_condT rfl ?_|refine aw_condF rfl ?_))
  (refine rtS Tryz.results153 ?_;exact ⟨_,[],.inl ⟨rfl,rfl⟩,_,(locD D b n e:List Eng.D).map .d,[],rfl,toZL_d _ (locD D b n e),by simp,⟨rfl,rfl⟩⟩)
 | some k=>
  rw [hp] at HP
  have HP':AC Tryz.prog 174 [.d (sD s)] none (fun r' _=>r'=.d (.tup [iD (k:Nat),bD true])):=HP
  cases ok
  ·refine cbS Tryz.func153 rfl Tryz.call153 Tryz.ntmps153 fun en hsz hks hk0=>?_;refine enS ?_
   (repeat (first|refine walkS ?_|refine aw_condT rfl ?_|refine aw_condF rfl ?_))
   refine aw_scope0 ?_
   (repeat (first|refine ctlS ?_|(refine ol_go ?_ (fun K1 hK1=>?_);exact trS;refine evS ?_;(try simp only [n1,n2]);refine hK1 _ _ ?_;clear hK1 K1)|(refine ow_go ?_ dsS (fun K1 hK1=>?_);exact trS;refine evS ?_;(try simp only [n1,n2]);refine hK1 _ ?_;clear hK1 K1)|refine skipS ?_|refine vS 0 (HN) ?_|refine cS (HP') ?_|refine aw_condT rfl ?_|refine aw_condF rfl ?_))
   (refine rtS Tryz.results153 ?_;exact ⟨_,[],.inl ⟨rfl,rfl⟩,_,(locD D b n e:List Eng.D).map .d,[],rfl,toZL_d _ (locD D b n e),by simp,⟨rfl,rfl⟩⟩)
  ·by_cases h4:40<v
   ·have w1:decide ((40:Int)<v)=true:=decide_eq_true h4
    refine cbS Tryz.func153 rfl Tryz.call153 Tryz.ntmps153 fun en hsz hks hk0=>?_;refine enS ?_
    (repeat (first|refine walkS ?_|refine aw_condT rfl ?_|refine aw_condF rfl ?_))
    refine aw_scope0 ?_
    (repeat (first|refine ctlS ?_|(refine ol_go ?_ (fun K1 hK1=>?_);exact trS;refine evS ?_;(try simp only [n1,w1]);refine hK1 _ _ ?_;clear hK1 K1)|(refine ow_go ?_ dsS (fun K1 hK1=>?_);exact trS;refine evS ?_;(try simp only [n1,w1]);refine hK1 _ ?_;clear hK1 K1)|refine skipS ?_|refine vS 0 (HN) ?_|refine cS (HP') ?_|refine aw_condT rfl ?_|refine aw_condF rfl ?_))
    (refine rtS Tryz.results153 ?_;exact ⟨_,[],.inl ⟨rfl,rfl⟩,_,(locD D b n e:List Eng.D).map .d,[],rfl,toZL_d _ (locD D b n e),by simp,⟨rfl,rfl⟩⟩)
   ·have w1:decide ((40:Int)<v)=false:=decide_eq_false h4
    have w2:decide (v≤(k:Int))=true:=by
     rcases h with h|h|h|⟨k',h1,h2⟩
     ·cases h
     ·rw [hp] at h;cases h
     ·exact absurd h h4
     ·rw [hp] at h1
      obtain rfl:=Option.some.inj h1
      exact decide_eq_true h2
    refine cbS Tryz.func153 rfl Tryz.call153 Tryz.ntmps153 fun en hsz hks hk0=>?_;refine enS ?_
    (repeat (first|refine walkS ?_|refine aw_condT rfl ?_|refine aw_condF rfl ?_))
    refine aw_scope0 ?_
    (repeat (first|refine ctlS ?_|(refine ol_go ?_ (fun K1 hK1=>?_);exact trS;refine evS ?_;(try simp only [n1,w1,w2]);refine hK1 _ _ ?_;clear hK1 K1)|(refine ow_go ?_ dsS (fun K1 hK1=>?_);exact trS;refine evS ?_;(try simp only [n1,w1,w2]);refine hK1 _ ?_;clear hK1 K1)|refine skipS ?_|refine vS 0 (HN) ?_|refine cS (HP') ?_|refine aw_condT rfl ?_|refine aw_condF rfl ?_))
    (refine rtS Tryz.results153 ?_;exact ⟨_,[],.inl ⟨rfl,rfl⟩,_,(locD D b n e:List Eng.D).map .d,[],rfl,toZL_d _ (locD D b n e),by simp,⟨rfl,rfl⟩⟩)
theorem item_y (hD:DB M D) (hM:M≤1048576) (hb4:b.length≤400) (hV:descP D) {n:Int}{p e:Nat} (he:e≤b.length) {r:RuleD} (hk:2≤r.kids.length) {κ:Nat} (hκ:kid1 r=(κ:Int)) (hκl:κ<D.length) {s:ByteArray} (hs:s.size≤1048576) {m k:Nat} (HN:AC Tryz.prog 175 [.ptr 0 0,.d (iD (kid0 r))] (some ((locD D b n p).map .d)) (fun r' bx=>r'=.d (.tup [iD (m:Nat),bD true])∧bx=some ((locD D b n e).map .d)))
  (hp:parP s=some k) (hm:m≤40) (hkm:k<m):AC Tryz.prog 153 [.ptr 0 0,.d (encR r),.d (sD s)] (some ((locD D b n p).map .d)) (fun r' bx=>r'=.d (bD (locZ D b n (badP (rd D b D.length) (List.replicate k κ) e) κ (pasI (rd D b D.length) (List.replicate k κ) e)).1)∧bx=some ((locZ D b n (badP (rd D b D.length) (List.replicate k κ) e) κ (pasI (rd D b D.length) (List.replicate k κ) e)).2.map .d)):=by
 obtain ⟨i0,i1⟩:=kid01 hk
 rw [hκ] at i1
 have HP:=parI_c hs
 rw [hp] at HP
 have HP':AC Tryz.prog 174 [.d (sD s)] none (fun r' _=>r'=.d (.tup [iD (k:Nat),bD true])):=HP
 have n1:(!true)=false:=rfl
 have w1:decide ((40:Int)<(m:Int))=false:=decide_eq_false (by omega)
 have w2:decide ((m:Int)≤(k:Int))=false:=decide_eq_false (by omega)
 have HQ:=fun q v q' c (hq:q≤b.length) (h:rd D b D.length κ q=(v,q',c))=>pass_c hD hM hb4 hV hκl hq n h
 have HI:∀ k q',q'≤b.length→(rd D b D.length k q').2.1≤b.length:=fun k q' h=>(rd_in D b D.length k q' h).2
 generalize rd D b D.length=g at *
 refine cbS Tryz.func153 rfl Tryz.call153 Tryz.ntmps153 fun en hsz hks hk0=>?_;refine enS ?_
 (repeat (first|refine walkS ?_|refine aw_condT rfl ?_|refine aw_condF rfl ?_))
 refine aw_scopeR (fun z:Nat × Nat=>{ fr:=[(0,.ptr 0 0),(4,.ptr 32 0),(7,.d (iD (z.1:Nat)))],bx:=[(0,some ((locD D b n z.2).map .d)),(32,some [.d (sD r.name),.d (iD r.kind),.d (iD r.size),.d (bD r.little),.d (encB r.bytes),.d (encS r.names),.d (encI r.tags),.d (encI r.kids)])],al:=[],nx:=4096 }) (fun z=>z.1≤k∧z.2≤b.length∧pasI g (List.replicate k κ) e=pasI g (List.replicate z.1 κ) z.2∧badP g (List.replicate k κ) e=badP g (List.replicate z.1 κ) z.2) (fun z=>z.1) 0 rfl hks (fun z=>by show (0:Nat)<4096;omega) ?_ ?_
 ·rintro ⟨x,a⟩ ⟨hx1,hx2,hx3,hx4⟩
  simp only at hx1 hx2 hx3 hx4 ⊢
  cases x with
  | zero=>
   have w0:decide ((0:Int)<((0:Nat):Int))=false:=rfl
   rw [hx3,hx4]
   (repeat (first|refine ctlS ?_|(refine ol_go ?_ (fun K1 hK1=>?_);exact trS;refine evS ?_;(try simp only [w0]);refine hK1 _ _ ?_;clear hK1 K1)|(refine ow_go ?_ dsS (fun K1 hK1=>?_);exact trS;refine evS ?_;(try simp only [w0]);refine hK1 _ ?_;clear hK1 K1)|refine skipS ?_|refine aw_condT rfl ?_|refine aw_condF rfl ?_))
   (refine rtS Tryz.results153 ?_;exact ⟨_,[],.inl ⟨rfl,rfl⟩,_,(locD D b κ a:List Eng.D).map .d,[],rfl,toZL_d _ (locD D b κ a),by simp,⟨rfl,rfl⟩⟩)
  | succ x=>
   have w0:decide ((0:Int)<((x+1:Nat):Int))=true:=decide_eq_true (by omega)
   have e1:IntKind.i64.wrap (((x+1:Nat):Int) - 1)=((x:Nat):Int):=by rw [wrap_small (by omega) (by omega)];omega
   rw [List.replicate_succ] at hx3 hx4
   have hin:=HI κ a hx2
   have hQ:=fun v q' c=>HQ a v q' c hx2
   by_cases hc:(g κ a).2.2=0
   ·rw [pasI_ok hc] at hx3
    rw [badP_ok hc] at hx4
    generalize g κ a=res at *
    obtain ⟨v,q2,c⟩:=res
    simp only at hc hin hx3 hx4
    subst hc
    have hP:AC Tryz.prog 138 [.ptr 0 0,.d (iD κ)] (some ((locD D b n a).map .d)) (fun r' bx=>r'=.d (bD true)∧bx=some ((locD D b n q2).map .d)):=hQ v q2 0 rfl
    (repeat (first|refine ctlS ?_|(refine ol_go ?_ (fun K1 hK1=>?_);exact trS;refine evS ?_;(try simp only [w0,e1,n1]);refine hK1 _ _ ?_;clear hK1 K1)|(refine ow_go ?_ dsS (fun K1 hK1=>?_);exact trS;refine evS ?_;(try simp only [w0,e1,n1]);refine hK1 _ ?_;clear hK1 K1)|refine skipS ?_|refine vS 0 (hP) ?_|refine aw_condT rfl ?_|refine aw_condF rfl ?_))
    refine aw_goto ?_
    exact ⟨rfl,(x,q2),[],⟨by simp only;omega,hin,hx3,hx4⟩,by simp only;omega,rfl,wkS⟩
   ·rw [pasI_bad hc] at hx3
    rw [badP_bad hc] at hx4
    generalize g κ a=res at *
    obtain ⟨v,q2,c⟩:=res
    simp only at hc hin hx3 hx4
    have hP:AC Tryz.prog 138 [.ptr 0 0,.d (iD κ)] (some ((locD D b n a).map .d)) (fun r' bx=>r'=.d (bD false)∧bx=some ((locD D b n q2).map .d)):=by
     have:=hQ v q2 c rfl
     rwa [decide_eq_false hc] at this
    have n2:(!false)=true:=rfl
    rw [hx3,hx4]
    (repeat (first|refine ctlS ?_|(refine ol_go ?_ (fun K1 hK1=>?_);exact trS;refine evS ?_;(try simp only [w0,n2]);refine hK1 _ _ ?_;clear hK1 K1)|(refine ow_go ?_ dsS (fun K1 hK1=>?_);exact trS;refine evS ?_;(try simp only [w0,n2]);refine hK1 _ ?_;clear hK1 K1)|refine skipS ?_|refine vS 0 (hP) ?_|refine aw_condT rfl ?_|refine aw_condF rfl ?_))
    (refine rtS Tryz.results153 ?_;exact ⟨_,[],.inl ⟨rfl,rfl⟩,_,(locD D b n q2:List Eng.D).map .d,[],rfl,toZL_d _ (locD D b n q2),by simp,⟨rfl,rfl⟩⟩)
 ·intro H
  (repeat (first|refine ctlS ?_|(refine ol_go ?_ (fun K1 hK1=>?_);exact trS;refine evS ?_;(try simp only [n1,w1,w2]);refine hK1 _ _ ?_;clear hK1 K1)|(refine ow_go ?_ dsS (fun K1 hK1=>?_);exact trS;refine evS ?_;(try simp only [n1,w1,w2]);refine hK1 _ ?_;clear hK1 K1)|refine skipS ?_|refine vS 0 (HN) ?_|refine cS (HP') ?_|refine aw_condT rfl ?_|refine aw_condF rfl ?_))
  refine aw_label ?_
  exact H _ (k,e) [] ⟨Nat.le_refl _,he,rfl,rfl⟩ rfl wkS
theorem contI_c {l:List ByteArray} (hl:l.length≤1048576) (s:ByteArray):AC Tryz.prog 176 [.d (encS l),.d (sD s)] none (fun r' _=>r'=.d (bD (idxT l s).isSome)):=by
 refine cbS Tryz.func176 rfl Tryz.call176 Tryz.ntmps176 fun en hsz hks hk0=>?_;refine enS ?_
 refine walkS ?_
 refine aw_loopS [1,4,7,8] (fun _ _=>[]) (fun _ k=>[(9,.d (iD (k:Nat)))]) [] (fun _ _=>[]) [] (fun _ _=>[]) (fun k=>k≤l.length∧∀ j (h:j<l.length),j<k→l[j]≠s) (fun k=>l.length - k) (0) hks (fun _=>rfl) ⟨Nat.zero_le _,fun _ _ h=>absurd h (Nat.not_lt_zero _)⟩ wkS ?_;intro x hx;refine headS ?_
 obtain ⟨hx1,hx2⟩:=hx
 refine walkS ?_
 refine aw_condS rfl (fun hk=>?_) (fun hk=>?_)
 ·have hxl:x<l.length:=by omega
  have i1:l[x]?=some l[x]:=List.getElem?_eq_getElem hxl
  have e1:IntKind.i64.wrap ((x:Int)+1)=((x+1:Nat):Int):=by rw [wrap_small (by omega) (by omega)];omega
  by_cases he:l[x]=s
  ·have w1:decide (l[x]=s)=true:=decide_eq_true he
   have hT:(idxT l s).isSome=true:=by
    rw [Option.isSome_iff_ne_none]
    intro h
    unfold idxT at h
    rw [List.findIdx?_eq_none_iff] at h
    have:=h l[x] (List.getElem_mem _)
    simp [he] at this
   rw [hT]
   (repeat (first|refine ctlS ?_|(refine ol_go ?_ (fun K1 hK1=>?_);exact trS;refine evS ?_;(try simp only [w1]);refine hK1 _ _ ?_;clear hK1 K1)|(refine ow_go ?_ dsS (fun K1 hK1=>?_);exact trS;refine evS ?_;(try simp only [w1]);refine hK1 _ ?_;clear hK1 K1)|refine skipS ?_|refine aw_condT rfl ?_|refine aw_condF rfl ?_))
   (refine rtS Tryz.results176 ?_;exact ⟨_,_,.inl ⟨rfl,rfl⟩,List.nodup_nil,rfl⟩)
  ·have w1:decide (l[x]=s)=false:=decide_eq_false he
   (repeat (first|refine ctlS ?_|(refine ol_go ?_ (fun K1 hK1=>?_);exact trS;refine evS ?_;(try simp only [w1,e1]);refine hK1 _ _ ?_;clear hK1 K1)|(refine ow_go ?_ dsS (fun K1 hK1=>?_);exact trS;refine evS ?_;(try simp only [w1,e1]);refine hK1 _ ?_;clear hK1 K1)|refine skipS ?_|refine aw_condT rfl ?_|refine aw_condF rfl ?_))
   refine ⟨x+1,⟨by omega,fun j h1 h2=>?_⟩,by omega,?_⟩
   ·by_cases e:j=x
    ·subst e;exact he
    ·exact hx2 j h1 (by omega)
   exact wkS
 ·have hT:idxT l s=none:=by
   unfold idxT
   rw [List.findIdx?_eq_none_iff]
   intro x hx
   obtain ⟨j,hj,rfl⟩:=List.getElem_of_mem hx
   simpa using hx2 j hj (by omega)
  rw [hT]
  refine walkS ?_
  (refine rtS Tryz.results176 ?_;exact ⟨_,_,.inl ⟨rfl,rfl⟩,List.nodup_nil,rfl⟩)
end
end Go.Proofs.YtomfggmmhkpeeaaGreatDoor.Eng
