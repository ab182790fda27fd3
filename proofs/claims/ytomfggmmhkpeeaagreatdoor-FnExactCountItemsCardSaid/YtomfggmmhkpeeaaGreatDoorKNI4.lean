/-
 The program's locator: parts of sequences, alternatives.

 The program's locator: alternatives, steps.
-/
import Derived.Test.YtomfggmmhkpeeaaGreatDoorKNI2
import Derived.Test.YtomfggmmhkpeeaaGreatDoorKPT4
set_option linter.unusedSimpArgs false
set_option linter.unusedVariables false
set_option linter.defProp false
set_option maxRecDepth 100000
set_option maxHeartbeats 4000000
namespace Go.Proofs.YtomfggmmhkpeeaaGreatDoor.Eng
open Go Go.RowKit

theorem idxT_some {l:List ByteArray}{s:ByteArray}{j:Nat} (h:idxT l s=some j):∃ hj:j<l.length,l[j]=s∧∀ i (hi:i<l.length),i<j→l[i]≠s:=by
 unfold idxT at h
 rw [List.findIdx?_eq_some_iff_getElem] at h
 obtain ⟨hj,h1,h2⟩:=h
 exact ⟨hj,by simpa using h1,fun i hi hlt e=>by have:=h2 i hlt;simp [e] at this⟩
theorem idxT_none {l:List ByteArray}{s:ByteArray} (h:idxT l s=none) {i:Nat} (hi:i<l.length):l[i]≠s:=fun e=>by
 unfold idxT at h
 rw [List.findIdx?_eq_none_iff] at h
 have:=h l[i] (List.getElem_mem _)
 simp [e] at this
section
variable {M:Nat}{D:List RuleD}{b:List UInt8}
private def tyF:=ai (ai (ai tg25 (ai tg32 tg86)) (ai tg87 (ai tg194 tg34))) (ai (ai tg89 (ai tg192 tg195)) (ai (ai tg3 tg4) (ai tg5 tg9)))
theorem part_n {n:Int}{p:Nat}{r:RuleD} (hrb:RB M r) (hM:M≤1048576) {s:ByteArray} (h:idxT r.names s=none):AC Tryz.prog 154 [.ptr 0 0,.d (encR r),.d (sD s)] (some ((locD D b n p).map .d)) (fun r' bx=>r'=.d (bD false)∧bx=some ((locD D b n p).map .d)):=by
 have hln:=hrb.ln
 have HC:=contI_c (l:=r.names) (by omega) s
 rw [h] at HC
 have HC':AC Tryz.prog 176 [.d (encS r.names),.d (sD s)] none (fun r' _=>r'=.d (bD false)):=HC
 have n2:(!false)=true:=rfl
 refine cbS Tryz.func154 rfl Tryz.call154 Tryz.ntmps154 fun en hsz hks hk0=>?_;refine enS ?_
 refine walkS ?_
 refine aw_loopS [0,2,4,6,10,11] (fun _ _=>[]) (fun _ k=>[(12,.d (iD (k:Nat)))]) [] (fun _ _=>[]) [] (fun _ _=>[]) (fun k=>k=0) (fun _=>0) (0) hks (fun _=>rfl) rfl wkS ?_;intro x hx;refine headS ?_
 obtain rfl:x=0:=hx
 refine walkS ?_
 refine aw_condS rfl (fun hk=>?_) (fun hk=>?_)
 ·have hxl:0<r.names.length:=by omega
  have i1:r.names[0]?=some r.names[0]:=List.getElem?_eq_getElem hxl
  have w1:decide (r.names[0]=s)=false:=decide_eq_false (idxT_none h hxl)
  (repeat (first|refine ctlS ?_|(refine ol_go ?_ (fun K1 hK1=>?_);exact trS;refine evS ?_;(try simp only [w1,n2]);refine hK1 _ _ ?_;clear hK1 K1)|(refine ow_go ?_ dsS (fun K1 hK1=>?_);exact trS;refine evS ?_;(try simp only [w1,n2]);refine hK1 _ ?_;clear hK1 K1)|refine skipS ?_|refine cS (HC') ?_|refine aw_condT rfl ?_|refine aw_condF rfl ?_))
  (refine rtS Tryz.results154 ?_;exact ⟨_,[],.inl ⟨rfl,rfl⟩,_,(locD D b n p:List Eng.D).map .d,[],rfl,toZL_d _ (locD D b n p),by simp,⟨rfl,rfl⟩⟩)
 ·refine walkS ?_
  (refine rtS Tryz.results154 ?_;exact ⟨_,[],.inl ⟨rfl,rfl⟩,_,(locD D b n p:List Eng.D).map .d,[],rfl,toZL_d _ (locD D b n p),by simp,⟨rfl,rfl⟩⟩)
theorem part_y (hD:DB M D) (hM:M≤1048576) (hb4:b.length≤400) (hV:descP D) {n:Int}{p:Nat} (hp:p≤b.length) {r:RuleD} (hrb:RB M r) (hl:r.kids.length=r.names.length) (hkn:∀ i (hi:i<r.kids.length),0≤r.kids[i]∧r.kids[i].toNat<D.length) {s:ByteArray}{j:Nat} (h:idxT r.names s=some j) :
  AC Tryz.prog 154 [.ptr 0 0,.d (encR r),.d (sD s)] (some ((locD D b n p).map .d)) (fun r' bx=>r'=.d (bD (locZ D b n (badP (rd D b D.length) ((r.kids.take j).map Int.toNat) p) (r.kids.getD j 0).toNat (pasI (rd D b D.length) ((r.kids.take j).map Int.toNat) p)).1)∧bx=some ((locZ D b n (badP (rd D b D.length) ((r.kids.take j).map Int.toNat) p) (r.kids.getD j 0).toNat (pasI (rd D b D.length) ((r.kids.take j).map Int.toNat) p)).2.map .d)):=by
 have hln:=hrb.ln
 obtain ⟨hj,hjs,hji⟩:=idxT_some h
 have HC:=contI_c (l:=r.names) (by omega) s
 rw [h] at HC
 have HC':AC Tryz.prog 176 [.d (encS r.names),.d (sD s)] none (fun r' _=>r'=.d (bD true)):=HC
 have n1:(!true)=false:=rfl
 have n2:(!false)=true:=rfl
 have hgd:((r.kids.getD j 0).toNat:Int)=r.kids[j]'(by omega):=by
  have:=hkn j (by omega)
  rw [show r.kids.getD j 0=r.kids[j]'(by omega) by simp [List.getD,show j<r.kids.length by omega]]
  omega
 have HQ:=fun k q v q' c (hk:k<D.length) (hq:q≤b.length) (h:rd D b D.length k q=(v,q',c))=>pass_c hD hM hb4 hV hk hq n h
 have HI:∀ k q',q'≤b.length→(rd D b D.length k q').2.1≤b.length:=fun k q' h=>(rd_in D b D.length k q' h).2
 generalize hks:(r.kids.take j).map Int.toNat=ks
 have hkl:ks.length=j:=by rw [←hks,List.length_map,List.length_take];omega
 have hkg:∀ i (hi:i<j) (hk:i<ks.length),ks[i]<D.length∧(ks[i]:Int)=r.kids[i]'(by omega):=fun i hi hk=>by
  subst hks
  rw [List.getElem_map,List.getElem_take]
  have:=hkn i (by omega)
  omega
 generalize rd D b D.length=g at *
 refine cbS Tryz.func154 rfl Tryz.call154 Tryz.ntmps154 fun en hsz hks hk0=>?_;refine enS ?_
 refine walkS ?_
 refine aw_loopS [0,2,4,6,10,11] (fun _ _=>[]) (fun _ z=>[(12,.d (iD (z.1:Nat)))]) [0] (fun _ z=>[(0,some ((locD D b n z.2).map .d))]) [] (fun _ _=>[]) (fun z:Nat × Nat=>z.1≤j∧z.2≤b.length∧pasI g ks p=pasI g (ks.drop z.1) z.2∧badP g ks p=badP g (ks.drop z.1) z.2) (fun z=>j - z.1) ((0,p)) hks (fun _=>rfl) ⟨Nat.zero_le _,hp,rfl,rfl⟩ wkS ?_;intro x hx;refine headS ?_
 revert hx
 revert x
 rintro ⟨i,a⟩ ⟨hx1,hx2,hx3,hx4⟩
 simp only at hx1 hx2 hx3 hx4 ⊢
 refine walkS ?_
 refine aw_condS rfl (fun hk=>?_) (fun hk=>?_)
 ·have hxl:i<r.names.length:=by omega
  have i1:r.names[i]?=some r.names[i]:=List.getElem?_eq_getElem hxl
  have i2:r.kids[i]?=some (r.kids[i]'(by omega)):=List.getElem?_eq_getElem (by omega)
  by_cases hij:i=j
  ·subst hij
   have w1:decide (r.names[i]=s)=true:=decide_eq_true hjs
   rw [List.drop_eq_nil_of_le (by omega)] at hx3 hx4
   rw [←hgd] at i2
   rw [hx3,hx4]
   (repeat (first|refine ctlS ?_|(refine ol_go ?_ (fun K1 hK1=>?_);exact trS;refine evS ?_;(try simp only [w1]);refine hK1 _ _ ?_;clear hK1 K1)|(refine ow_go ?_ dsS (fun K1 hK1=>?_);exact trS;refine evS ?_;(try simp only [w1]);refine hK1 _ ?_;clear hK1 K1)|refine skipS ?_|refine aw_condT rfl ?_|refine aw_condF rfl ?_))
   (refine rtS Tryz.results154 ?_;exact ⟨_,[],.inl ⟨rfl,rfl⟩,_,(locD D b ((r.kids.getD i 0).toNat:Nat) a:List Eng.D).map .d,[],rfl,toZL_d _ (locD D b ((r.kids.getD i 0).toNat:Nat) a),by simp,⟨rfl,rfl⟩⟩)
  ·have hlt:i<j:=by omega
   have w1:decide (r.names[i]=s)=false:=decide_eq_false (hji i hxl hlt)
   have e1:IntKind.i64.wrap ((i:Int)+1)=((i+1:Nat):Int):=by rw [wrap_small (by omega) (by omega)];omega
   obtain ⟨hk1,hk2⟩:=hkg i hlt (by omega)
   rw [List.drop_eq_getElem_cons (by omega)] at hx3 hx4
   rw [←hk2] at i2
   have hin:=HI ks[i] a hx2
   have hQ:=fun v q' c=>HQ ks[i] a v q' c hk1 hx2
   by_cases hc:(g ks[i] a).2.2=0
   ·rw [pasI_ok hc] at hx3
    rw [badP_ok hc] at hx4
    generalize g ks[i] a=res at *
    obtain ⟨v,q2,c⟩:=res
    simp only at hc hin hx3 hx4
    subst hc
    have hP:AC Tryz.prog 138 [.ptr 0 0,.d (iD (ks[i]:Nat))] (some ((locD D b n a).map .d)) (fun r' bx=>r'=.d (bD true)∧bx=some ((locD D b n q2).map .d)):=hQ v q2 0 rfl
    (repeat (first|refine ctlS ?_|(refine ol_go ?_ (fun K1 hK1=>?_);exact trS;refine evS ?_;(try simp only [w1,n1,e1]);refine hK1 _ _ ?_;clear hK1 K1)|(refine ow_go ?_ dsS (fun K1 hK1=>?_);exact trS;refine evS ?_;(try simp only [w1,n1,e1]);refine hK1 _ ?_;clear hK1 K1)|refine skipS ?_|refine vS 0 (hP) ?_|refine cS (HC') ?_|refine aw_condT rfl ?_|refine aw_condF rfl ?_))
    refine ⟨(i+1,q2),⟨by simp only;omega,hin,hx3,hx4⟩,by simp only;omega,?_⟩
    exact wkS
   ·rw [pasI_bad hc] at hx3
    rw [badP_bad hc] at hx4
    generalize g ks[i] a=res at *
    obtain ⟨v,q2,c⟩:=res
    simp only at hc hin hx3 hx4
    have hP:AC Tryz.prog 138 [.ptr 0 0,.d (iD (ks[i]:Nat))] (some ((locD D b n a).map .d)) (fun r' bx=>r'=.d (bD false)∧bx=some ((locD D b n q2).map .d)):=by
     have:=hQ v q2 c rfl
     rwa [decide_eq_false hc] at this
    rw [hx3,hx4]
    (repeat (first|refine ctlS ?_|(refine ol_go ?_ (fun K1 hK1=>?_);exact trS;refine evS ?_;(try simp only [w1,n1,n2]);refine hK1 _ _ ?_;clear hK1 K1)|(refine ow_go ?_ dsS (fun K1 hK1=>?_);exact trS;refine evS ?_;(try simp only [w1,n1,n2]);refine hK1 _ ?_;clear hK1 K1)|refine skipS ?_|refine vS 0 (hP) ?_|refine cS (HC') ?_|refine aw_condT rfl ?_|refine aw_condF rfl ?_))
    (refine rtS Tryz.results154 ?_;exact ⟨_,[],.inl ⟨rfl,rfl⟩,_,(locD D b n q2:List Eng.D).map .d,[],rfl,toZL_d _ (locD D b n q2),by simp,⟨rfl,rfl⟩⟩)
 ·exfalso
  omega
def ixA (o:Option Nat):Int:=match o with|some k=>(k:Int)|none=>-1
theorem tagA_no {l:List Int}{n:Int} (h:∀ j (hj:j<l.length),l[j]≠n):tagIx l n=none:=by
 unfold tagIx
 rw [List.findIdx?_eq_none_iff]
 intro x hx
 obtain ⟨j,hj,rfl⟩:=List.getElem_of_mem hx
 simpa using h j hj
theorem tagA_hit {l:List Int}{n:Int}{k:Nat} (hk:k<l.length) (he:l[k]=n) (h:∀ j (hj:j<l.length),j<k→l[j]≠n):tagIx l n=some k:=by
 unfold tagIx
 rw [List.findIdx?_eq_some_iff_getElem]
 exact ⟨hk,by simp [he],fun j hj=>by simpa using h j (by omega) hj⟩
theorem altIx1_c (t n:Int):AC Tryz.prog 178 [.d (iD t),.d (.rp [iD n])] none (fun r' _=>r'=.d (bD (decide (t=n)))):=by
 refine cbS Tryz.func178 rfl Tryz.call178 Tryz.ntmps178 fun en hsz hks hk0=>?_;refine enS ?_
 refine walkS ?_
 (refine rtS Tryz.results178 ?_;exact ⟨_,_,.inl ⟨rfl,rfl⟩,List.nodup_nil,rfl⟩)
theorem ixAlt_c {l:List Int} (hl:l.length≤1048576) (n:Int):AC Tryz.prog 177 [.d (encI l),.clo 178 [] [.d (.rp [iD n])]] none (fun r' _=>r'=.d (iD (ixA (tagIx l n)))):=by
 refine cbS Tryz.func177 rfl Tryz.call177 Tryz.ntmps177 fun en hsz hks hk0=>?_;refine enS ?_
 refine walkS ?_
 refine aw_loopS [1,4,7,8] (fun _ _=>[]) (fun _ k=>[(9,.d (iD (k:Nat)))]) [] (fun _ _=>[]) [] (fun _ _=>[]) (fun k=>k≤l.length∧∀ j (h:j<l.length),j<k→l[j]≠n) (fun k=>l.length - k) (0) hks (fun _=>rfl) ⟨Nat.zero_le _,fun _ _ h=>absurd h (Nat.not_lt_zero _)⟩ wkS ?_;intro x hx;refine headS ?_
 obtain ⟨hx1,hx2⟩:=hx
 refine walkS ?_
 refine aw_condS rfl (fun hk=>?_) (fun hk=>?_)
 ·have hxl:x<l.length:=by omega
  have i1:l[x]?=some l[x]:=List.getElem?_eq_getElem hxl
  have HH:=altIx1_c l[x] n
  by_cases he:l[x]=n
  ·rw [decide_eq_true he] at HH
   (repeat (first|refine walkS ?_|refine cS (HH) ?_|(refine callPreV ?_;(first|refine callN_funS rfl (HH) ?_))))
   refine aw_condS rfl (fun hc=>?_) (fun hc=>?_)
   ·refine walkS ?_
    (refine rtS Tryz.results177 ?_;exact ⟨_,_,.inl ⟨rfl,rfl⟩,List.nodup_nil,by rw [tagA_hit hxl he hx2];rfl⟩)
   ·(first|exact absurd trivial hc|exact absurd rfl hc|(cases hc;done)|omega|exact absurd hc (by decide)|(simp at hc;done))
  ·rw [decide_eq_false he] at HH
   (repeat (first|refine walkS ?_|refine cS (HH) ?_|(refine callPreV ?_;(first|refine callN_funS rfl (HH) ?_))))
   refine aw_condS rfl (fun hc=>?_) (fun hc=>?_)
   ·(first|exact absurd trivial hc|exact absurd rfl hc|(cases hc;done)|omega|exact absurd hc (by decide)|(simp at hc;done))
   ·refine walkS ?_
    refine ⟨x+1,⟨by omega,fun j h1 h2=>?_⟩,by omega,?_⟩
    ·by_cases e:j=x
     ·subst e;exact he
     ·exact hx2 j h1 (by omega)
    exact wkS
 ·refine walkS ?_
  (refine rtS Tryz.results177 ?_;exact ⟨_,_,.inl ⟨rfl,rfl⟩,List.nodup_nil,by rw [tagA_no fun j hj=>hx2 j hj (by omega)];rfl⟩)
end
end Go.Proofs.YtomfggmmhkpeeaaGreatDoor.Eng
namespace Go.Proofs.YtomfggmmhkpeeaaGreatDoor.Eng
open Go Go.RowKit

section
variable {M:Nat}{D:List RuleD}{b:List UInt8}
theorem kid00 {r:RuleD} (h:1≤r.kids.length):r.kids[0]?=some (kid0 r):=by
 rw [List.getElem?_eq_getElem (by omega)]
 simp [kid0,List.headD_eq_head?_getD,List.head?_eq_getElem?,show 0<r.kids.length by omega]
theorem alt_n {n:Int}{p e:Nat}{r:RuleD} (hk:1≤r.kids.length) (hlt:r.tags.length≤1048576) {v:Int}{ok:Bool} (HN:AC Tryz.prog 175 [.ptr 0 0,.d (iD (kid0 r))] (some ((locD D b n p).map .d)) (fun r' bx=>r'=.d (.tup [iD v,bD ok])∧bx=some ((locD D b n e).map .d)))
  (h:ok=false∨tagIx r.tags v=none):AC Tryz.prog 155 [.ptr 0 0,.d (encR r)] (some ((locD D b n p).map .d)) (fun r' bx=>r'=.d (bD false)∧bx=some ((locD D b n e).map .d)):=by
 have i0:=kid00 hk
 have HI:=ixAlt_c (l:=r.tags) hlt v
 have n1:(!true)=false:=rfl
 have n2:(!false)=true:=rfl
 generalize hx:ixA (tagIx r.tags v)=x at HI
 refine cbS Tryz.func155 rfl Tryz.call155 Tryz.ntmps155 fun en hsz hks hk0=>?_;refine enS ?_
 (repeat (first|refine walkS ?_|refine aw_condT rfl ?_|refine aw_condF rfl ?_))
 (first|refine vS 0 (HN) ?_)
 (iterate 7 (first|refine aw_seq ?_|refine aw_region ?_|refine aw_block ?_|(refine aw_exit ?_;(try simp (decide:=true) only [reduceIte]))|(refine aw_skip ?_;try dsimp only)|(refine aw_any (by kernel_rfl) (by kernel_rfl) (by simp only [hsz];kernel_rfl) ?_)|(refine ow_nil ?_;try dsimp only)|(refine ol_go ?_ (fun K1 hK1=>?_);exact trS;refine evS ?_;refine hK1 _ _ ?_;clear hK1 K1)|(refine ol_skip rfl rfl ?_ ?_;(focus (intro hne;cases hne;done));simp only [St.set])|(refine ol_nil ⟨by kernel_rfl,?_⟩;try dsimp only)|(refine ow_go ?_ dsS (fun K1 hK1=>?_);exact trS;refine evS ?_;refine hK1 _ ?_;clear hK1 K1)|(refine ow_skip rfl rfl ?_ dsS ?_;(focus (intro hne;cases hne;done));simp only [St.set])))
 refine aw_freezeB 5 64 [iD v] rfl rfl hks (by decide) ?_
 cases ok
 ·(repeat (first|refine ctlS ?_|(refine ol_go ?_ (fun K1 hK1=>?_);exact trS;refine evS ?_;(try simp only [n2]);refine hK1 _ _ ?_;clear hK1 K1)|(refine ow_go ?_ dsS (fun K1 hK1=>?_);exact trS;refine evS ?_;(try simp only [n2]);refine hK1 _ ?_;clear hK1 K1)|refine skipS ?_|refine cS (HI) ?_|refine aw_condT rfl ?_|refine aw_condF rfl ?_))
  (refine rtS Tryz.results155 ?_;exact ⟨_,[],.inl ⟨rfl,rfl⟩,_,(locD D b n e:List Eng.D).map .d,[],rfl,toZL_d _ (locD D b n e),by simp,⟨rfl,rfl⟩⟩)
 ·have ht:tagIx r.tags v=none:=h.resolve_left (by decide)
  rw [ht] at hx
  have w0:decide (x<0)=true:=by rw [←hx];rfl
  (repeat (first|refine ctlS ?_|(refine ol_go ?_ (fun K1 hK1=>?_);exact trS;refine evS ?_;(try simp only [n1,w0]);refine hK1 _ _ ?_;clear hK1 K1)|(refine ow_go ?_ dsS (fun K1 hK1=>?_);exact trS;refine evS ?_;(try simp only [n1,w0]);refine hK1 _ ?_;clear hK1 K1)|refine skipS ?_|refine cS (HI) ?_|refine aw_condT rfl ?_|refine aw_condF rfl ?_))
  (refine rtS Tryz.results155 ?_;exact ⟨_,[],.inl ⟨rfl,rfl⟩,_,(locD D b n e:List Eng.D).map .d,[],rfl,toZL_d _ (locD D b n e),by simp,⟨rfl,rfl⟩⟩)
theorem alt_y {n:Int}{p e:Nat}{r:RuleD}{v:Int} (hlt:r.tags.length≤1048576) (HN:AC Tryz.prog 175 [.ptr 0 0,.d (iD (kid0 r))] (some ((locD D b n p).map .d)) (fun r' bx=>r'=.d (.tup [iD v,bD true])∧bx=some ((locD D b n e).map .d)))
  {k κ:Nat} (ht:tagIx r.tags v=some k) (hk:k+1<r.kids.length) (hκ:r.kids[k+1]=(κ:Int)):AC Tryz.prog 155 [.ptr 0 0,.d (encR r)] (some ((locD D b n p).map .d)) (fun r' bx=>r'=.d (bD true)∧bx=some ((locD D b κ e).map .d)):=by
 have i0:=kid00 (r:=r) (by omega)
 have hkt:=tagIx_lt ht
 have HI:=ixAlt_c (l:=r.tags) hlt v
 rw [ht] at HI
 have HI':AC Tryz.prog 177 [.d (encI r.tags),.clo 178 [] [.d (.rp [iD v])]] none (fun r' _=>r'=.d (iD (k:Nat))):=HI
 have n1:(!true)=false:=rfl
 have w0:decide ((k:Int)<0)=false:=decide_eq_false (by omega)
 have e1:IntKind.i64.wrap ((k:Int)+1)=((k+1:Nat):Int):=by rw [wrap_small (by omega) (by omega)];omega
 have i1:r.kids[k+1]?=some (κ:Int):=by rw [List.getElem?_eq_getElem hk,hκ]
 refine cbS Tryz.func155 rfl Tryz.call155 Tryz.ntmps155 fun en hsz hks hk0=>?_;refine enS ?_
 (repeat (first|refine walkS ?_|refine aw_condT rfl ?_|refine aw_condF rfl ?_))
 (first|refine vS 0 (HN) ?_)
 (iterate 7 (first|refine aw_seq ?_|refine aw_region ?_|refine aw_block ?_|(refine aw_exit ?_;(try simp (decide:=true) only [reduceIte]))|(refine aw_skip ?_;try dsimp only)|(refine aw_any (by kernel_rfl) (by kernel_rfl) (by simp only [hsz];kernel_rfl) ?_)|(refine ow_nil ?_;try dsimp only)|(refine ol_go ?_ (fun K1 hK1=>?_);exact trS;refine evS ?_;refine hK1 _ _ ?_;clear hK1 K1)|(refine ol_skip rfl rfl ?_ ?_;(focus (intro hne;cases hne;done));simp only [St.set])|(refine ol_nil ⟨by kernel_rfl,?_⟩;try dsimp only)|(refine ow_go ?_ dsS (fun K1 hK1=>?_);exact trS;refine evS ?_;refine hK1 _ ?_;clear hK1 K1)|(refine ow_skip rfl rfl ?_ dsS ?_;(focus (intro hne;cases hne;done));simp only [St.set])))
 refine aw_freezeB 5 64 [iD v] rfl rfl hks (by decide) ?_
 (repeat (first|refine ctlS ?_|(refine ol_go ?_ (fun K1 hK1=>?_);exact trS;refine evS ?_;(try simp only [n1,w0,e1]);refine hK1 _ _ ?_;clear hK1 K1)|(refine ow_go ?_ dsS (fun K1 hK1=>?_);exact trS;refine evS ?_;(try simp only [n1,w0,e1]);refine hK1 _ ?_;clear hK1 K1)|refine skipS ?_|refine cS (HI') ?_|refine aw_condT rfl ?_|refine aw_condF rfl ?_))
 (refine rtS Tryz.results155 ?_;exact ⟨_,[],.inl ⟨rfl,rfl⟩,_,(locD D b κ e:List Eng.D).map .d,[],rfl,toZL_d _ (locD D b κ e),by simp,⟨rfl,rfl⟩⟩)
end
end Go.Proofs.YtomfggmmhkpeeaaGreatDoor.Eng
