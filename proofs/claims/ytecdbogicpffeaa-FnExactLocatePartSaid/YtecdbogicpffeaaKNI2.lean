/-
 The program's locator: items of arrays, parts of sequences.
-/
import Derived.Test.YtecdbogicpffeaaKNI1
set_option linter.unusedSimpArgs false
set_option linter.unusedVariables false
set_option linter.defProp false
set_option maxRecDepth 100000
set_option maxHeartbeats 4000000
namespace Go.Proofs.Ytecdbogicpffeaa.Eng
open Go Go.RowKit

def badP (g:Nat→Nat→V × Nat × Nat):List Nat→Nat→Nat
 | [],p=>p
 | k::ks,p=>if (g k p).2.2=0 then badP g ks (g k p).2.1 else (g k p).2.1
theorem pasI_ok {g:Nat→Nat→V × Nat × Nat}{k:Nat}{ks:List Nat}{p:Nat} (h:(g k p).2.2=0):pasI g (k::ks) p=pasI g ks (g k p).2.1:=by rw [pasI,if_pos h]
theorem pasI_bad {g:Nat→Nat→V × Nat × Nat}{k:Nat}{ks:List Nat}{p:Nat} (h:(g k p).2.2≠0):pasI g (k::ks) p=none:=by rw [pasI,if_neg h]
theorem badP_ok {g:Nat→Nat→V × Nat × Nat}{k:Nat}{ks:List Nat}{p:Nat} (h:(g k p).2.2=0):badP g (k::ks) p=badP g ks (g k p).2.1:=by rw [badP,if_pos h]
theorem badP_bad {g:Nat→Nat→V × Nat × Nat}{k:Nat}{ks:List Nat}{p:Nat} (h:(g k p).2.2≠0):badP g (k::ks) p=(g k p).2.1:=by rw [badP,if_neg h]
section
variable {M:Nat}{D:List RuleD}{b:List UInt8}
def locZ (D:List RuleD) (b:List UInt8) (n:Int) (e:Nat) (k:Nat):Option Nat→Bool × List Eng.D
 | some q=>(true,locD D b k q)
 | none=>(false,locD D b n e)
theorem kid01 {r:RuleD} (h:2≤r.kids.length):r.kids[0]?=some (kid0 r)∧r.kids[1]?=some (kid1 r):=by
 constructor
 ·rw [List.getElem?_eq_getElem (by omega)]
  simp [kid0,List.headD_eq_head?_getD,List.head?_eq_getElem?,show 0<r.kids.length by omega]
 ·rw [List.getElem?_eq_getElem (by omega)]
  simp [kid1,List.getD,show 1<r.kids.length by omega]
private def tyF:=ai (ai (ai tg22 (ai tg24 tg54)) (ai tg55 (ai tg106 tg26))) (ai (ai tg57 (ai tg104 tg3)) (ai tg4 (ai tg5 tg9)))
theorem item_n {n:Int}{p e:Nat}{r:RuleD} (hk:2≤r.kids.length) {s:ByteArray} (hs:s.size≤1048576) {v:Int}{ok:Bool} (HN:AC Try.prog 164 [.ptr 0 0,.d (iD (kid0 r))] (some ((locD D b n p).map .d)) (fun r' bx=>r'=.d (.tup [iD v,bD ok])∧bx=some ((locD D b n e).map .d)))
  (h:ok=false∨parP s=none∨40<v∨∃ k:Nat,parP s=some k∧v≤k):AC Try.prog 130 [.ptr 0 0,.d (encR r),.d (sD s)] (some ((locD D b n p).map .d)) (fun r' bx=>r'=.d (bD false)∧bx=some ((locD D b n e).map .d)):=by
 obtain ⟨i0,i1⟩:=kid01 hk
 have HP:=parI_c hs
 have n1:(!true)=false:=rfl
 have n2:(!false)=true:=rfl
 cases hp:parP s with
 | none=>
  rw [hp] at HP
  have HP':AC Try.prog 162 [.d (sD s)] none (fun r' _=>r'=.d (.tup [iD 0,bD false])):=HP
  refine cbS Try.func130 rfl Try.call130 Try.ntmps130 fun en hsz hks hk0=>?_;refine enS ?_
  (repeat (first|refine walkS ?_|refine aw_condT rfl ?_|refine aw_condF rfl ?_))
  refine aw_scope0 ?_
  (repeat (first|refine ctlS ?_|(refine ol_go ?_ (fun K1 hK1=>?_);exact trS;refine evS ?_;(try simp only [n2]);refine hK1 _ _ ?_;clear hK1 K1)|(refine ow_go ?_ dsS (fun K1 hK1=>?_);exact trS;refine evS ?_;(try simp only [n2]);refine hK1 _ ?_;clear hK1 K1)|refine skipS ?_|refine vS 0 (HN) ?_|refine cS (HP') ?_|refine aw_condT rfl ?_|refine aw_condF rfl ?_))
  (refine rtS Try.results130 ?_;exact ⟨_,[],.inl ⟨rfl,rfl⟩,_,(locD D b n e:List Eng.D).map .d,[],rfl,toZL_d _ (locD D b n e),by simp,⟨rfl,rfl⟩⟩)
 | some k=>
  rw [hp] at HP
  have HP':AC Try.prog 162 [.d (sD s)] none (fun r' _=>r'=.d (.tup [iD (k:Nat),bD true])):=HP
  cases ok
  ·refine cbS Try.func130 rfl Try.call130 Try.ntmps130 fun en hsz hks hk0=>?_;refine enS ?_
   (repeat (first|refine walkS ?_|refine aw_condT rfl ?_|refine aw_condF rfl ?_))
   refine aw_scope0 ?_
   (repeat (first|refine ctlS ?_|(refine ol_go ?_ (fun K1 hK1=>?_);exact trS;refine evS ?_;(try simp only [n1,n2]);refine hK1 _ _ ?_;clear hK1 K1)|(refine ow_go ?_ dsS (fun K1 hK1=>?_);exact trS;refine evS ?_;(try simp only [n1,n2]);refine hK1 _ ?_;clear hK1 K1)|refine skipS ?_|refine vS 0 (HN) ?_|refine cS (HP') ?_|refine aw_condT rfl ?_|refine aw_condF rfl ?_))
   (refine rtS Try.results130 ?_;exact ⟨_,[],.inl ⟨rfl,rfl⟩,_,(locD D b n e:List Eng.D).map .d,[],rfl,toZL_d _ (locD D b n e),by simp,⟨rfl,rfl⟩⟩)
  ·by_cases h4:40<v
   ·have w1:decide ((40:Int)<v)=true:=decide_eq_true h4
    refine cbS Try.func130 rfl Try.call130 Try.ntmps130 fun en hsz hks hk0=>?_;refine enS ?_
    (repeat (first|refine walkS ?_|refine aw_condT rfl ?_|refine aw_condF rfl ?_))
    refine aw_scope0 ?_
    (repeat (first|refine ctlS ?_|(refine ol_go ?_ (fun K1 hK1=>?_);exact trS;refine evS ?_;(try simp only [n1,w1]);refine hK1 _ _ ?_;clear hK1 K1)|(refine ow_go ?_ dsS (fun K1 hK1=>?_);exact trS;refine evS ?_;(try simp only [n1,w1]);refine hK1 _ ?_;clear hK1 K1)|refine skipS ?_|refine vS 0 (HN) ?_|refine cS (HP') ?_|refine aw_condT rfl ?_|refine aw_condF rfl ?_))
    (refine rtS Try.results130 ?_;exact ⟨_,[],.inl ⟨rfl,rfl⟩,_,(locD D b n e:List Eng.D).map .d,[],rfl,toZL_d _ (locD D b n e),by simp,⟨rfl,rfl⟩⟩)
   ·have w1:decide ((40:Int)<v)=false:=decide_eq_false h4
    have w2:decide (v≤(k:Int))=true:=by
     rcases h with h|h|h|⟨k',h1,h2⟩
     ·cases h
     ·rw [hp] at h;cases h
     ·exact absurd h h4
     ·rw [hp] at h1
      obtain rfl:=Option.some.inj h1
      exact decide_eq_true h2
    refine cbS Try.func130 rfl Try.call130 Try.ntmps130 fun en hsz hks hk0=>?_;refine enS ?_
    (repeat (first|refine walkS ?_|refine aw_condT rfl ?_|refine aw_condF rfl ?_))
    refine aw_scope0 ?_
    (repeat (first|refine ctlS ?_|(refine ol_go ?_ (fun K1 hK1=>?_);exact trS;refine evS ?_;(try simp only [n1,w1,w2]);refine hK1 _ _ ?_;clear hK1 K1)|(refine ow_go ?_ dsS (fun K1 hK1=>?_);exact trS;refine evS ?_;(try simp only [n1,w1,w2]);refine hK1 _ ?_;clear hK1 K1)|refine skipS ?_|refine vS 0 (HN) ?_|refine cS (HP') ?_|refine aw_condT rfl ?_|refine aw_condF rfl ?_))
    (refine rtS Try.results130 ?_;exact ⟨_,[],.inl ⟨rfl,rfl⟩,_,(locD D b n e:List Eng.D).map .d,[],rfl,toZL_d _ (locD D b n e),by simp,⟨rfl,rfl⟩⟩)
theorem item_y (hD:DB M D) (hM:M≤1048576) (hb4:b.length≤400) (hV:descP D) {n:Int}{p e:Nat} (he:e≤b.length) {r:RuleD} (hk:2≤r.kids.length) {κ:Nat} (hκ:kid1 r=(κ:Int)) (hκl:κ<D.length) {s:ByteArray} (hs:s.size≤1048576) {m k:Nat} (HN:AC Try.prog 164 [.ptr 0 0,.d (iD (kid0 r))] (some ((locD D b n p).map .d)) (fun r' bx=>r'=.d (.tup [iD (m:Nat),bD true])∧bx=some ((locD D b n e).map .d)))
  (hp:parP s=some k) (hm:m≤40) (hkm:k<m):AC Try.prog 130 [.ptr 0 0,.d (encR r),.d (sD s)] (some ((locD D b n p).map .d)) (fun r' bx=>r'=.d (bD (locZ D b n (badP (rd D b D.length) (List.replicate k κ) e) κ (pasI (rd D b D.length) (List.replicate k κ) e)).1)∧bx=some ((locZ D b n (badP (rd D b D.length) (List.replicate k κ) e) κ (pasI (rd D b D.length) (List.replicate k κ) e)).2.map .d)):=by
 obtain ⟨i0,i1⟩:=kid01 hk
 rw [hκ] at i1
 have HP:=parI_c hs
 rw [hp] at HP
 have HP':AC Try.prog 162 [.d (sD s)] none (fun r' _=>r'=.d (.tup [iD (k:Nat),bD true])):=HP
 have n1:(!true)=false:=rfl
 have w1:decide ((40:Int)<(m:Int))=false:=decide_eq_false (by omega)
 have w2:decide ((m:Int)≤(k:Int))=false:=decide_eq_false (by omega)
 have HQ:=fun q v q' c (hq:q≤b.length) (h:rd D b D.length κ q=(v,q',c))=>pass_c hD hM hb4 hV hκl hq n h
 have HI:∀ k q',q'≤b.length→(rd D b D.length k q').2.1≤b.length:=fun k q' h=>(rd_in D b D.length k q' h).2
 generalize rd D b D.length=g at *
 refine cbS Try.func130 rfl Try.call130 Try.ntmps130 fun en hsz hks hk0=>?_;refine enS ?_
 (repeat (first|refine walkS ?_|refine aw_condT rfl ?_|refine aw_condF rfl ?_))
 refine aw_scopeR (fun z:Nat × Nat=>{ fr:=[(0,.ptr 0 0),(4,.ptr 32 0),(7,.d (iD (z.1:Nat)))],bx:=[(0,some ((locD D b n z.2).map .d)),(32,some [.d (sD r.name),.d (iD r.kind),.d (iD r.size),.d (bD r.little),.d (encB r.bytes),.d (encS r.names),.d (encI r.tags),.d (encI r.kids)])],al:=[],nx:=4096 }) (fun z=>z.1≤k∧z.2≤b.length∧pasI g (List.replicate k κ) e=pasI g (List.replicate z.1 κ) z.2∧badP g (List.replicate k κ) e=badP g (List.replicate z.1 κ) z.2) (fun z=>z.1) 0 rfl hks (fun z=>by show (0:Nat)<4096;omega) ?_ ?_
 ·rintro ⟨x,a⟩ ⟨hx1,hx2,hx3,hx4⟩
  simp only at hx1 hx2 hx3 hx4 ⊢
  cases x with
  | zero=>
   have w0:decide ((0:Int)<((0:Nat):Int))=false:=rfl
   rw [hx3,hx4]
   (repeat (first|refine ctlS ?_|(refine ol_go ?_ (fun K1 hK1=>?_);exact trS;refine evS ?_;(try simp only [w0]);refine hK1 _ _ ?_;clear hK1 K1)|(refine ow_go ?_ dsS (fun K1 hK1=>?_);exact trS;refine evS ?_;(try simp only [w0]);refine hK1 _ ?_;clear hK1 K1)|refine skipS ?_|refine aw_condT rfl ?_|refine aw_condF rfl ?_))
   (refine rtS Try.results130 ?_;exact ⟨_,[],.inl ⟨rfl,rfl⟩,_,(locD D b κ a:List Eng.D).map .d,[],rfl,toZL_d _ (locD D b κ a),by simp,⟨rfl,rfl⟩⟩)
  | succ x=>
   have w0:decide ((0:Int)<((x+1:Nat):Int))=true:=decide_eq_true (by omega)
   have e1:IntKind.i64.wrap (((x+1:Nat):Int) - 1)=((x:Nat):Int):=by rw [wrap_small (by omega) (by omega)];omega
   rw [List.replicate_succ] at hx3 hx4
   have hin:=HI κ a hx2
   have hQ:=fun v q' c=>HQ a v q' c hx2
   by_cases hc:(g κ a).2.2=0
   ·rw [pasI_ok hc] at hx3
    rw [badP_ok hc] at hx4
    generalize g κ a=res at *
    obtain ⟨v,q2,c⟩:=res
    simp only at hc hin hx3 hx4
    subst hc
    have hP:AC Try.prog 79 [.ptr 0 0,.d (iD κ)] (some ((locD D b n a).map .d)) (fun r' bx=>r'=.d (bD true)∧bx=some ((locD D b n q2).map .d)):=hQ v q2 0 rfl
    (repeat (first|refine ctlS ?_|(refine ol_go ?_ (fun K1 hK1=>?_);exact trS;refine evS ?_;(try simp only [w0,e1,n1]);refine hK1 _ _ ?_;clear hK1 K1)|(refine ow_go ?_ dsS (fun K1 hK1=>?_);exact trS;refine evS ?_;(try simp only [w0,e1,n1]);refine hK1 _ ?_;clear hK1 K1)|refine skipS ?_|refine vS 0 (hP) ?_|refine aw_condT rfl ?_|refine aw_condF rfl ?_))
    refine aw_goto ?_
    exact ⟨rfl,(x,q2),[],⟨by simp only;omega,hin,hx3,hx4⟩,by simp only;omega,rfl,wkS⟩
   ·rw [pasI_bad hc] at hx3
    rw [badP_bad hc] at hx4
    generalize g κ a=res at *
    obtain ⟨v,q2,c⟩:=res
    simp only at hc hin hx3 hx4
    have hP:AC Try.prog 79 [.ptr 0 0,.d (iD κ)] (some ((locD D b n a).map .d)) (fun r' bx=>r'=.d (bD false)∧bx=some ((locD D b n q2).map .d)):=by
     have:=hQ v q2 c rfl
     rwa [decide_eq_false hc] at this
    have n2:(!false)=true:=rfl
    rw [hx3,hx4]
    (repeat (first|refine ctlS ?_|(refine ol_go ?_ (fun K1 hK1=>?_);exact trS;refine evS ?_;(try simp only [w0,n2]);refine hK1 _ _ ?_;clear hK1 K1)|(refine ow_go ?_ dsS (fun K1 hK1=>?_);exact trS;refine evS ?_;(try simp only [w0,n2]);refine hK1 _ ?_;clear hK1 K1)|refine skipS ?_|refine vS 0 (hP) ?_|refine aw_condT rfl ?_|refine aw_condF rfl ?_))
    (refine rtS Try.results130 ?_;exact ⟨_,[],.inl ⟨rfl,rfl⟩,_,(locD D b n q2:List Eng.D).map .d,[],rfl,toZL_d _ (locD D b n q2),by simp,⟨rfl,rfl⟩⟩)
 ·intro H
  (repeat (first|refine ctlS ?_|(refine ol_go ?_ (fun K1 hK1=>?_);exact trS;refine evS ?_;(try simp only [n1,w1,w2]);refine hK1 _ _ ?_;clear hK1 K1)|(refine ow_go ?_ dsS (fun K1 hK1=>?_);exact trS;refine evS ?_;(try simp only [n1,w1,w2]);refine hK1 _ ?_;clear hK1 K1)|refine skipS ?_|refine vS 0 (HN) ?_|refine cS (HP') ?_|refine aw_condT rfl ?_|refine aw_condF rfl ?_))
  refine aw_label ?_
  exact H _ (k,e) [] ⟨Nat.le_refl _,he,rfl,rfl⟩ rfl wkS
theorem contI_c {l:List ByteArray} (hl:l.length≤1048576) (s:ByteArray):AC Try.prog 165 [.d (encS l),.d (sD s)] none (fun r' _=>r'=.d (bD (idxT l s).isSome)):=by
 refine cbS Try.func165 rfl Try.call165 Try.ntmps165 fun en hsz hks hk0=>?_;refine enS ?_
 refine walkS ?_
 refine aw_loopS [1,4,7,8] (fun _ _=>[]) (fun _ k=>[(9,.d (iD (k:Nat)))]) [] (fun _ _=>[]) [] (fun _ _=>[]) (fun k=>k≤l.length∧∀ j (h:j<l.length),j<k→l[j]≠s) (fun k=>l.length - k) (0) hks (fun _=>rfl) ⟨Nat.zero_le _,fun _ _ h=>absurd h (Nat.not_lt_zero _)⟩ wkS ?_;intro x hx;refine headS ?_
 obtain ⟨hx1,hx2⟩:=hx
 refine walkS ?_
 refine aw_condS rfl (fun hk=>?_) (fun hk=>?_)
 ·have hxl:x<l.length:=by omega
  have i1:l[x]?=some l[x]:=List.getElem?_eq_getElem hxl
  have e1:IntKind.i64.wrap ((x:Int)+1)=((x+1:Nat):Int):=by rw [wrap_small (by omega) (by omega)];omega
  by_cases he:l[x]=s
  ·have w1:decide (l[x]=s)=true:=decide_eq_true he
   have hT:(idxT l s).isSome=true:=by
    rw [Option.isSome_iff_ne_none]
    intro h
    unfold idxT at h
    rw [List.findIdx?_eq_none_iff] at h
    have:=h l[x] (List.getElem_mem _)
    simp [he] at this
   rw [hT]
   (repeat (first|refine ctlS ?_|(refine ol_go ?_ (fun K1 hK1=>?_);exact trS;refine evS ?_;(try simp only [w1]);refine hK1 _ _ ?_;clear hK1 K1)|(refine ow_go ?_ dsS (fun K1 hK1=>?_);exact trS;refine evS ?_;(try simp only [w1]);refine hK1 _ ?_;clear hK1 K1)|refine skipS ?_|refine aw_condT rfl ?_|refine aw_condF rfl ?_))
   (refine rtS Try.results165 ?_;exact ⟨_,_,.inl ⟨rfl,rfl⟩,List.nodup_nil,rfl⟩)
  ·have w1:decide (l[x]=s)=false:=decide_eq_false he
   (repeat (first|refine ctlS ?_|(refine ol_go ?_ (fun K1 hK1=>?_);exact trS;refine evS ?_;(try simp only [w1,e1]);refine hK1 _ _ ?_;clear hK1 K1)|(refine ow_go ?_ dsS (fun K1 hK1=>?_);exact trS;refine evS ?_;(try simp only [w1,e1]);refine hK1 _ ?_;clear hK1 K1)|refine skipS ?_|refine aw_condT rfl ?_|refine aw_condF rfl ?_))
   refine ⟨x+1,⟨by omega,fun j h1 h2=>?_⟩,by omega,?_⟩
   ·by_cases e:j=x
    ·subst e;exact he
    ·exact hx2 j h1 (by omega)
   exact wkS
 ·have hT:idxT l s=none:=by
   unfold idxT
   rw [List.findIdx?_eq_none_iff]
   intro x hx
   obtain ⟨j,hj,rfl⟩:=List.getElem_of_mem hx
   simpa using hx2 j hj (by omega)
  rw [hT]
  refine walkS ?_
  (refine rtS Try.results165 ?_;exact ⟨_,_,.inl ⟨rfl,rfl⟩,List.nodup_nil,rfl⟩)
end
end Go.Proofs.Ytecdbogicpffeaa.Eng
