/-
 Items of a rule.

 Rules that are valid: what the walks of values need of them.

 The smaller of two numbers, the program's side.

 Small functions of the reference; the rule of an item.

 Plain functions: how long an encoding may grow.
-/
import Derived.Test.YtndnefealooolaaGreatDoorKTy
import Derived.Test.YtndnefealooolaaGreatDoorKN0
import Derived.Test.YtndnefealooolaaGreatDoorKE3
import Derived.Test.YtndnefealooolaaGreatDoorKP
import Derived.Test.YtndnefealooolaaGreatDoorKNE
import Derived.Test.YtndnefealooolaaGreatDoorKP2
set_option linter.unusedSimpArgs false
set_option linter.unusedVariables false
set_option linter.defProp false
set_option maxRecDepth 100000
set_option maxHeartbeats 4000000
namespace Go.Proofs.YtndnefealooolaaGreatDoor.Eng
open Go Go.RowKit

theorem tagIx_hit {l:List Int}{n:Int}{k:Nat} (hk:k<l.length) (he:l[k]=n) (h:∀ j (hj:j<l.length),j<k→l[j]≠n):tagIx l n=some k:=by
 unfold tagIx
 rw [List.findIdx?_eq_some_iff_getElem]
 exact ⟨hk,by simp [he],fun j hj=>by simpa using h j (by omega) hj⟩
theorem tagIx_none {l:List Int}{n:Int}{k:Nat} (hk:¬k<l.length) (h:∀ j (hj:j<l.length),j<k→l[j]≠n):tagIx l n=none:=by
 unfold tagIx
 rw [List.findIdx?_eq_none_iff]
 intro x hx
 obtain ⟨j,hj,rfl⟩:=List.getElem_of_mem hx
 simpa using h j hj (by omega)
theorem tagIx_lt {l:List Int}{n:Int}{k:Nat} (h:tagIx l n=some k):k<l.length:=by
 unfold tagIx at h
 rw [List.findIdx?_eq_some_iff_getElem] at h
 exact h.1
theorem itemK_5 {r:RuleD}{n:Int}{i:Nat} (h:r.kind=5):itemK r n i=kid1 r:=by simp [itemK,h]
theorem itemK_6 {r:RuleD}{n:Int}{i:Nat} (h:r.kind=6) (hi:i<r.kids.length):itemK r n i=r.kids[i]:=by simp [itemK,h,hi]
theorem itemK_6n {r:RuleD}{n:Int}{i:Nat} (h:r.kind=6) (hi:¬i<r.kids.length):itemK r n i=-1:=by
 unfold itemK
 rw [if_neg (by omega),if_pos h,List.getD_eq_getElem?_getD,List.getElem?_eq_none (by omega)]
 rfl
theorem itemK_7 {r:RuleD}{n:Int}{i k:Nat} (h:r.kind=7) (hk:tagIx r.tags n=some k) (hl:k+1<r.kids.length):itemK r n i=r.kids[k+1]:=by simp [itemK,h,hk,hl]
theorem itemK_7n {r:RuleD}{n:Int}{i:Nat} (h:r.kind=7) (hk:tagIx r.tags n=none):itemK r n i=-1:=by simp [itemK,h,hk]
theorem itemK_8 {r:RuleD}{n:Int}{i:Nat} (h:r.kind=8∨r.kind=9):itemK r n i=kid0 r:=by
 unfold itemK
 rw [if_neg (by omega),if_neg (by omega),if_neg (by omega),if_pos h]
theorem itemK_no {r:RuleD}{n:Int}{i:Nat} (h:r.kind≠5∧r.kind≠6∧r.kind≠7∧r.kind≠8∧r.kind≠9):itemK r n i=-1:=by
 unfold itemK
 rw [if_neg (by omega),if_neg (by omega),if_neg (by omega),if_neg (by omega)]
private def tyF:=ai (ai (ai tg22 tg57) (ai tg65 tg97)) (ai (ai tg3 tg4) (ai tg5 tg9))
theorem l9Item_c {r:RuleD}{M:Nat} (hr:RB M r) (hM:M≤1048576) (number:Int) (i:Nat) (h5:r.kind=5→2≤r.kids.length) (h7:r.kind=7→r.kids.length=r.tags.length+1) (h8:r.kind=8∨r.kind=9→1≤r.kids.length):AC Tryz.prog 76 [.d (encR r),.d (iD number),.d (iD i)] none (fun r' _=>r'=.d (iD (itemK r number i))):=by
 refine cbS Tryz.func76 rfl Tryz.call76 Tryz.ntmps76 fun en hsz hks hk0=>?_;refine enS ?_
 refine walkS ?_
 refine aw_condS rfl (fun n5=>?_) (fun n5=>?_)
 ·have k1:=kids1 (h5 n5)
  refine walkS ?_
  (refine rtS Tryz.results76 ?_;exact ⟨_,_,.inl ⟨rfl,rfl⟩,List.nodup_nil,by rw [itemK_5 n5]⟩)
 refine walkS ?_
 refine aw_condS rfl (fun n6=>?_) (fun n6=>?_)
 ·refine walkS ?_
  refine aw_condS rfl (fun hi=>?_) (fun hi=>?_)
  ·refine walkS ?_
   (refine rtS Tryz.results76 ?_;exact ⟨_,_,.inl ⟨rfl,rfl⟩,List.nodup_nil,by rw [itemK_6 n6 (by omega)]⟩)
  ·refine walkS ?_
   (refine rtS Tryz.results76 ?_;exact ⟨_,_,.inl ⟨rfl,rfl⟩,List.nodup_nil,by rw [itemK_6n n6 (by omega)]⟩)
 refine walkS ?_
 refine aw_condS rfl (fun n7=>?_) (fun n7=>?_)
 ·have hl:=h7 n7
  refine walkS ?_
  refine aw_loopS [1,3,6,9] (fun _ _=>[]) (fun _ k=>[(7,.d (iD (k:Nat)))]) [] (fun _ _=>[]) [] (fun _ _=>[]) (fun k=>k≤r.tags.length∧∀ j (hj:j<r.tags.length),j<k→r.tags[j]≠number) (fun k=>r.tags.length - k) (0) hks (fun _=>rfl) ⟨Nat.zero_le _,fun _ _ h=>absurd h (Nat.not_lt_zero _)⟩ wkS ?_;intro x hx;refine headS ?_
  obtain ⟨hx1,hx2⟩:=hx
  have hlt:=hr.lt
  refine walkS ?_
  refine aw_condS rfl (fun hk=>?_) (fun hk=>?_)
  ·refine walkS ?_
   refine aw_condS rfl (fun he=>?_) (fun he=>?_)
   ·refine walkS ?_
    (refine rtS Tryz.results76 ?_;exact ⟨_,_,.inl ⟨rfl,rfl⟩,List.nodup_nil,by rw [itemK_7 n7 (tagIx_hit (by omega) he (fun j hj h=>hx2 j hj h)) (by omega)]⟩)
   ·refine walkS ?_
    refine ⟨x+1,⟨by omega,upto_succ (fun h=>he) hx2⟩,by omega,?_⟩
    exact wkS
  ·refine walkS ?_
   (refine rtS Tryz.results76 ?_;exact ⟨_,_,.inl ⟨rfl,rfl⟩,List.nodup_nil,by rw [itemK_7n n7 (tagIx_none (k:=x) (by omega) (fun j hj h=>hx2 j hj (by omega)))]⟩)
 refine walkS ?_
 refine aw_condS rfl (fun n8=>?_) (fun n8=>?_)
 ·refine walkS ?_
  refine aw_condS rfl (fun n8b=>?_) (fun n8b=>?_)
  ·have k0:=kids0 (h8 (.inl n8))
   refine walkS ?_
   (refine rtS Tryz.results76 ?_;exact ⟨_,_,.inl ⟨rfl,rfl⟩,List.nodup_nil,by rw [itemK_8 (.inl n8)]⟩)
  ·exact absurd n8 n8b
 ·refine walkS ?_
  refine aw_condS rfl (fun n9=>?_) (fun n9=>?_)
  ·have k0:=kids0 (h8 (.inr n9))
   refine walkS ?_
   (refine rtS Tryz.results76 ?_;exact ⟨_,_,.inl ⟨rfl,rfl⟩,List.nodup_nil,by rw [itemK_8 (.inr n9)]⟩)
  ·refine walkS ?_
   (refine rtS Tryz.results76 ?_;exact ⟨_,_,.inl ⟨rfl,rfl⟩,List.nodup_nil,by rw [itemK_no (by omega)]⟩)
end Go.Proofs.YtndnefealooolaaGreatDoor.Eng
namespace Go.Proofs.YtndnefealooolaaGreatDoor.Eng
open Go Go.RowKit

abbrev GoodR:=@Go.Proofs.YtndnefealooolaaGreatDoor.Good
section
variable {D:List RuleD}
theorem kid_int {i:Int} (h:0≤limD D i):∃ (j:Nat) (q:RuleD),i=j∧D[j]?=some q∧(1≤q.size∧q.size≤4)∧ruleD D i=q:=by
 obtain ⟨q,h1,_,h3⟩:=limD_rule h
 have h1':=h1
 unfold ruleAt at h1
 split at h1
 ·rename_i h0
  exact ⟨i.toNat,q,by omega,h1,h3,ruleD_of h1'⟩
 ·cases h1
end
theorem vKnown_spec {D:List RuleD}{i:Int} (h:vKnown D i=true):descP D∧0≤i∧i<D.length:=by
 unfold vKnown at h
 simp only [Bool.and_eq_true,decide_eq_true_eq] at h
 exact ⟨descP_of h.1,h.2⟩
end Go.Proofs.YtndnefealooolaaGreatDoor.Eng
namespace Go.Proofs.YtndnefealooolaaGreatDoor.Eng
open Go Go.RowKit

def minF (m n:Int):Int:=if n<m then n else m






end Go.Proofs.YtndnefealooolaaGreatDoor.Eng
namespace Go.Proofs.YtndnefealooolaaGreatDoor.Eng
open Go Go.RowKit

theorem minS_c (a b:Int):AC Tryz.prog 34 [.d (iD a),.d (iD b)] none (fun r' _=>r'=.d (iD (minF a b))):=by
 refine cbS Tryz.func34 rfl Tryz.call34 Tryz.ntmps34 fun en hsz hks hk0=>?_;refine enS ?_
 refine walkS ?_
 refine aw_condS rfl (fun h=>?_) (fun h=>?_)
 ·refine walkS ?_
  (refine rtS Tryz.results34 ?_;exact ⟨_,_,.inl ⟨rfl,rfl⟩,List.nodup_nil,by rw [minF,if_pos h]⟩)
 ·refine walkS ?_
  (refine rtS Tryz.results34 ?_;exact ⟨_,_,.inl ⟨rfl,rfl⟩,List.nodup_nil,by rw [minF,if_neg h]⟩)

section
variable {M:Nat}{D:List RuleD}
theorem good_items {i:Nat}{r:RuleD} (G:GoodR D i r):(r.kind=5→2≤r.kids.length)∧(r.kind=7→r.kids.length=r.tags.length+1)∧(r.kind=8∨r.kind=9→1≤r.kids.length):=
 ⟨fun h=>by have:=(G.k5 h).1;omega,fun h=>(G.k7 h).1,fun h=>h.elim (fun h=>by have:=G.k8 h;omega) fun h=>by have:=G.k9 h;omega⟩
theorem own_kid {i:Nat}{r:RuleD} (G:GoodR D i r) (hi:i<D.length) {n:Int}{lb lv:Nat} (h:ownV D r n lb lv=true) {k:Nat} (hk:k<lv):∃ j:Nat,itemK r n k=j∧j<D.length:=by
 obtain ⟨kd1,kd2⟩:=G.kd
 obtain ⟨h5,h7,h8⟩:=good_items G
 have kid:∀ j (hj:j<r.kids.length),∃ x:Nat,r.kids[j]=x∧x<D.length:=fun j hj=>by
  have:=G.kid j hj
  exact ⟨r.kids[j].toNat,by omega,by omega⟩
 have k0:0<r.kids.length→∃ x:Nat,kid0 r=x∧x<D.length:=fun h=>by
  have e:=kids0 h
  rw [List.getElem?_eq_getElem h] at e
  rw [←Option.some.inj e]
  exact kid 0 h
 by_cases e5:r.kind=5
 ·rw [itemK_5 e5]
  have h:=h5 e5
  have e:=kids1 (r:=r) (by omega)
  rw [List.getElem?_eq_getElem (by omega)] at e
  rw [←Option.some.inj e]
  exact kid 1 (by omega)
 by_cases e6:r.kind=6
 ·rw [ownV_6 e6,decide_eq_true_eq] at h
  rw [itemK_6 e6 (by omega)]
  exact kid k (by omega)
 by_cases e7:r.kind=7
 ·rw [ownV_7 e7,decide_eq_true_eq] at h
  obtain ⟨_,_,h3⟩:=h
  cases ht:tagIx r.tags n with
  | none=>rw [itemK_7n e7 ht] at h3;omega
  | some t=>
   have:=tagIx_lt ht
   have:=h7 e7
   rw [itemK_7 e7 ht (by omega)]
   exact kid (t+1) (by omega)
 by_cases e8:r.kind=8
 ·rw [itemK_8 (.inl e8)]
  exact k0 (by have:=h8 (.inl e8);omega)
 by_cases e9:r.kind=9
 ·rw [itemK_8 (.inr e9)]
  exact k0 (by have:=h8 (.inr e9);omega)
 exfalso
 have:r.kind=1∨r.kind=2∨r.kind=3∨r.kind=4∨r.kind=10:=by omega
 rcases this with e|e|e|e|e
 ·rw [ownV_1 e,decide_eq_true_eq] at h;omega
 ·rw [ownV_2 e,decide_eq_true_eq] at h;omega
 ·rw [ownV_3 e,decide_eq_true_eq] at h;omega
 ·rw [ownV_4 e,decide_eq_true_eq] at h;omega
 ·rw [ownV_10 e,decide_eq_true_eq] at h;omega
end
end Go.Proofs.YtndnefealooolaaGreatDoor.Eng
namespace Go.Proofs.YtndnefealooolaaGreatDoor.Eng
open Go.RowKit

theorem const_le {D:List RuleD} (h:descP D) {n:Nat}{r:RuleD} (hr:D[n]?=some r) (h2:r.kind=2):r.bytes.length≤16:=by
 have hn:n<D.length:=(List.getElem?_eq_some_iff.1 hr).1
 have hrn:ruleAt D n=some r:=by simp [ruleAt,hr]
 have hp:ruleP D n r:=by
  refine Classical.byContradiction fun hq=>?_
  have:=h.2 n hn
  rw [vRule_no hrn hq] at this
  exact Bool.noConfusion this
 obtain ⟨_,_,_,hk⟩:=hp
 rw [kl_2 h2] at hk
 simp only [Bool.and_eq_true,decide_eq_true_eq] at hk
 exact hk.2.2
theorem head_kid {D:List RuleD}{i:Nat}{r:RuleD} (G:GoodR D i r) (hk:r.kind=4∨r.kind=5∨r.kind=7):∃ (j:Nat) (q:RuleD),kid0 r=j∧D[j]?=some q∧(1≤q.size∧q.size≤4)∧ruleD D (kid0 r)=q∧limD D (kid0 r)=2 ^ (8*q.size.toNat) - 1:=by
 have h0:0≤limD D (kid0 r):=by
  rcases hk with h|h|h
  ·have:=(G.k4 h).2;omega
  ·have:=(G.k5 h).2;omega
  ·exact (G.k7 h).2
 obtain ⟨q',h1,h2,h3⟩:=limD_rule h0
 obtain ⟨j,q,ej,hj,hq,hqr⟩:=kid_int h0
 refine ⟨j,q,ej,hj,hq,hqr,?_⟩
 have hx:ruleAt D (kid0 r)=some q:=by rw [ej];simp [ruleAt,hj]
 have:q'=q:=by rw [hx] at h1;exact (Option.some.inj h1).symm
 subst this
 exact limD_good hx ⟨h2,h3⟩
theorem headB_len {D:List RuleD} (hV:descP D) {i:Nat}{r:RuleD} (hr:D[i]?=some r) (G:GoodR D i r) {n:Int}{bs:List UInt8}{lv:Nat} (h:ownV D r n bs.length lv=true):(headB D r n bs lv).length≤68+2*bs.length:=by
 have hq:(r.kind=4∨r.kind=5∨r.kind=7)→∀ m,(intB (ruleD D (kid0 r)) m).length≤4:=fun hk m=>by
  obtain ⟨j,q,_,_,hq,hqr,_⟩:=head_kid G hk
  rw [hqr,intB_len]
  omega
 unfold headB
 split
 ·rename_i h1
  rw [intB_len]
  have:=G.k1 h1
  omega
 split
 ·rename_i h1
  have:=const_le hV hr h1
  omega
 split
 ·omega
 split
 ·rename_i h1
  have:=hq (.inl h1) bs.length
  simp only [List.length_append]
  omega
 split
 ·rename_i h1
  have:=hq (.inr (.inl h1)) lv
  omega
 split
 ·rename_i h1
  have:=hq (.inr (.inr h1)) n.toNat
  omega
 split
 ·rw [List.length_singleton];omega
 split
 ·have:=escB_len (r.bytes.headD 0) bs
  omega
 ·simp
theorem tailB_le (r:RuleD) (x:List UInt8):(tailB r x).length≤1:=by
 unfold tailB
 split<;>simp
def capV (v:V):Nat:=70+70*totV v
theorem capV_mk (n:Int) (bs:List UInt8) (vs:List V):capV (.mk n bs vs)=70+70*(bs.length+vs.length+totVs vs):=by rw [capV,totV]
theorem totVs_cons (v:V) (vs:List V):totVs (v::vs)=totV v+totVs vs:=by rw [totVs]
theorem totV_mem:∀ {vs:List V}{v:V},v∈vs→totV v≤totVs vs
 | [],_,h=>by cases h
 | x::vs,v,h=>by
  rw [totVs_cons]
  rcases List.mem_cons.1 h with rfl|h
  ·omega
  ·have:=totV_mem h
   omega
section
variable {D:List RuleD}
mutual
theorem prI_le (hV:descP D):∀ (v:V) (i:Nat) (out:List UInt8),i<D.length→validV D i v=true→(prI D i out v).length≤out.length+capV v
 | .mk n bs vs,i,out,hi,hv=>by
  obtain ⟨r,hr⟩:∃ r,D[i]?=some r:=⟨_,List.getElem?_eq_getElem hi⟩
  have G:GoodR D i r:=good_of hV hr
  rw [validV,ruleD_get hr,Bool.and_eq_true] at hv
  obtain ⟨ho,hs⟩:=hv
  have hh:=headB_len hV hr G ho
  have:=prIs_le hV r n vs 0 (out++headB D r n bs vs.length) (fun k hk=>by rw [Nat.zero_add];exact own_kid G hi ho hk) hs
  unfold prI
  rw [ruleD_get hr,capV_mk]
  have ht:=tailB_le r ((prIs D r n 0 (out++headB D r n bs vs.length) vs).drop (out++headB D r n bs vs.length).length)
  simp only [List.length_append] at this ht ⊢
  omega
theorem prIs_le (hV:descP D) (r:RuleD) (n:Int):∀ (vs:List V) (k:Nat) (out:List UInt8),(∀ j,j<vs.length→∃ x:Nat,itemK r n (k+j:Nat)=x∧x<D.length)→validVs D r n k vs=true→(prIs D r n k out vs).length≤out.length+70*(vs.length+totVs vs)
 | [],k,out,_,_=>by unfold prIs;omega
 | v::vs,k,out,hk,hv=>by
  unfold prIs
  rw [validVs,Bool.and_eq_true] at hv
  rw [totVs_cons,List.length_cons]
  split
  ·omega
  ·obtain ⟨x,hx,hxl⟩:=hk 0 (by simp)
   rw [Nat.add_zero] at hx
   rw [hx] at hv ⊢
   have h1:=prI_le hV v x out hxl hv.1
   have h2:=prIs_le hV r n vs (k+1) (prI D x out v) (fun j hj=>by
    have:=hk (j+1) (by simp;omega)
    rw [show k+1+j=k+(j+1) by omega]
    exact this) hv.2
   unfold capV at h1
   omega
end
mutual
theorem prV_le (hV:descP D):∀ (v:V) (i:Nat),i<D.length→validV D i v=true→(prV D i v).length≤capV v
 | .mk n bs vs,i,hi,hv=>by
  obtain ⟨r,hr⟩:∃ r,D[i]?=some r:=⟨_,List.getElem?_eq_getElem hi⟩
  have G:GoodR D i r:=good_of hV hr
  rw [validV,ruleD_get hr,Bool.and_eq_true] at hv
  obtain ⟨ho,hs⟩:=hv
  have hh:=headB_len hV hr G ho
  have:=prVs_le hV r n vs 0 (fun k hk=>by rw [Nat.zero_add];exact own_kid G hi ho hk) hs
  unfold prV
  rw [ruleD_get hr,capV_mk]
  have ht:=tailB_le r (prVs D r n 0 vs)
  simp only [List.length_append]
  omega
theorem prVs_le (hV:descP D) (r:RuleD) (n:Int):∀ (vs:List V) (k:Nat),(∀ j,j<vs.length→∃ x:Nat,itemK r n (k+j:Nat)=x∧x<D.length)→validVs D r n k vs=true→(prVs D r n k vs).length≤70*(vs.length+totVs vs)
 | [],k,_,_=>by unfold prVs;simp
 | v::vs,k,hk,hv=>by
  unfold prVs
  rw [validVs,Bool.and_eq_true] at hv
  rw [totVs_cons,List.length_cons,List.length_append]
  obtain ⟨x,hx,hxl⟩:=hk 0 (by simp)
  rw [Nat.add_zero] at hx
  rw [hx] at hv ⊢
  have h1:=prV_le hV v x hxl hv.1
  have h2:=prVs_le hV r n vs (k+1) (fun j hj=>by
   have:=hk (j+1) (by simp;omega)
   rw [show k+1+j=k+(j+1) by omega]
   exact this) hv.2
  unfold capV at h1
  omega
end
end
end Go.Proofs.YtndnefealooolaaGreatDoor.Eng
