/-
 Items of a rule.

 Rules that are valid: what the walks of values need of them.

 The smaller of two numbers, the program's side.

 Small functions of the reference; the rule of an item.
-/
import Derived.Test.YtomfggmmhkpeeaaGreatDoorKTy
import Derived.Test.YtomfggmmhkpeeaaGreatDoorKN0
import Derived.Test.YtomfggmmhkpeeaaGreatDoorKE3
import Derived.Test.YtomfggmmhkpeeaaGreatDoorKP
import Derived.Test.YtomfggmmhkpeeaaGreatDoorKNE
import Derived.Test.YtomfggmmhkpeeaaGreatDoorKP2
set_option linter.unusedSimpArgs false
set_option linter.unusedVariables false
set_option linter.defProp false
set_option maxRecDepth 100000
set_option maxHeartbeats 4000000
namespace Go.Proofs.YtomfggmmhkpeeaaGreatDoor.Eng
open Go Go.RowKit

theorem tagIx_hit {l:List Int}{n:Int}{k:Nat} (hk:k<l.length) (he:l[k]=n) (h:∀ j (hj:j<l.length),j<k→l[j]≠n):tagIx l n=some k:=by
 unfold tagIx
 rw [List.findIdx?_eq_some_iff_getElem]
 exact ⟨hk,by simp [he],fun j hj=>by simpa using h j (by omega) hj⟩
theorem tagIx_none {l:List Int}{n:Int}{k:Nat} (hk:¬k<l.length) (h:∀ j (hj:j<l.length),j<k→l[j]≠n):tagIx l n=none:=by
 unfold tagIx
 rw [List.findIdx?_eq_none_iff]
 intro x hx
 obtain ⟨j,hj,rfl⟩:=List.getElem_of_mem hx
 simpa using h j hj (by omega)
theorem tagIx_lt {l:List Int}{n:Int}{k:Nat} (h:tagIx l n=some k):k<l.length:=by
 unfold tagIx at h
 rw [List.findIdx?_eq_some_iff_getElem] at h
 exact h.1
theorem itemK_5 {r:RuleD}{n:Int}{i:Nat} (h:r.kind=5):itemK r n i=kid1 r:=by simp [itemK,h]
theorem itemK_6 {r:RuleD}{n:Int}{i:Nat} (h:r.kind=6) (hi:i<r.kids.length):itemK r n i=r.kids[i]:=by simp [itemK,h,hi]
theorem itemK_6n {r:RuleD}{n:Int}{i:Nat} (h:r.kind=6) (hi:¬i<r.kids.length):itemK r n i=-1:=by
 unfold itemK
 rw [if_neg (by omega),if_pos h,List.getD_eq_getElem?_getD,List.getElem?_eq_none (by omega)]
 rfl
theorem itemK_7 {r:RuleD}{n:Int}{i k:Nat} (h:r.kind=7) (hk:tagIx r.tags n=some k) (hl:k+1<r.kids.length):itemK r n i=r.kids[k+1]:=by simp [itemK,h,hk,hl]
theorem itemK_7n {r:RuleD}{n:Int}{i:Nat} (h:r.kind=7) (hk:tagIx r.tags n=none):itemK r n i=-1:=by simp [itemK,h,hk]
theorem itemK_8 {r:RuleD}{n:Int}{i:Nat} (h:r.kind=8∨r.kind=9):itemK r n i=kid0 r:=by
 unfold itemK
 rw [if_neg (by omega),if_neg (by omega),if_neg (by omega),if_pos h]
theorem itemK_no {r:RuleD}{n:Int}{i:Nat} (h:r.kind≠5∧r.kind≠6∧r.kind≠7∧r.kind≠8∧r.kind≠9):itemK r n i=-1:=by
 unfold itemK
 rw [if_neg (by omega),if_neg (by omega),if_neg (by omega),if_neg (by omega)]
private def tyF:=ai (ai (ai tg25 tg86) (ai tg87 tg89)) (ai (ai tg230 tg3) (ai tg4 (ai tg5 tg9)))
theorem l9Item_c {r:RuleD}{M:Nat} (hr:RB M r) (hM:M≤1048576) (number:Int) (i:Nat) (h5:r.kind=5→2≤r.kids.length) (h7:r.kind=7→r.kids.length=r.tags.length+1) (h8:r.kind=8∨r.kind=9→1≤r.kids.length):AC Tryz.prog 104 [.d (encR r),.d (iD number),.d (iD i)] none (fun r' _=>r'=.d (iD (itemK r number i))):=by
 refine cbS Tryz.func104 rfl Tryz.call104 Tryz.ntmps104 fun en hsz hks hk0=>?_;refine enS ?_
 refine walkS ?_
 refine aw_condS rfl (fun n5=>?_) (fun n5=>?_)
 ·have k1:=kids1 (h5 n5)
  refine walkS ?_
  (refine rtS Tryz.results104 ?_;exact ⟨_,_,.inl ⟨rfl,rfl⟩,List.nodup_nil,by rw [itemK_5 n5]⟩)
 refine walkS ?_
 refine aw_condS rfl (fun n6=>?_) (fun n6=>?_)
 ·refine walkS ?_
  refine aw_condS rfl (fun hi=>?_) (fun hi=>?_)
  ·refine walkS ?_
   (refine rtS Tryz.results104 ?_;exact ⟨_,_,.inl ⟨rfl,rfl⟩,List.nodup_nil,by rw [itemK_6 n6 (by omega)]⟩)
  ·refine walkS ?_
   (refine rtS Tryz.results104 ?_;exact ⟨_,_,.inl ⟨rfl,rfl⟩,List.nodup_nil,by rw [itemK_6n n6 (by omega)]⟩)
 refine walkS ?_
 refine aw_condS rfl (fun n7=>?_) (fun n7=>?_)
 ·have hl:=h7 n7
  refine walkS ?_
  refine aw_loopS [1,3,6,9] (fun _ _=>[]) (fun _ k=>[(7,.d (iD (k:Nat)))]) [] (fun _ _=>[]) [] (fun _ _=>[]) (fun k=>k≤r.tags.length∧∀ j (hj:j<r.tags.length),j<k→r.tags[j]≠number) (fun k=>r.tags.length - k) (0) hks (fun _=>rfl) ⟨Nat.zero_le _,fun _ _ h=>absurd h (Nat.not_lt_zero _)⟩ wkS ?_;intro x hx;refine headS ?_
  obtain ⟨hx1,hx2⟩:=hx
  have hlt:=hr.lt
  refine walkS ?_
  refine aw_condS rfl (fun hk=>?_) (fun hk=>?_)
  ·refine walkS ?_
   refine aw_condS rfl (fun he=>?_) (fun he=>?_)
   ·refine walkS ?_
    (refine rtS Tryz.results104 ?_;exact ⟨_,_,.inl ⟨rfl,rfl⟩,List.nodup_nil,by rw [itemK_7 n7 (tagIx_hit (by omega) he (fun j hj h=>hx2 j hj h)) (by omega)]⟩)
   ·refine walkS ?_
    refine ⟨x+1,⟨by omega,upto_succ (fun h=>he) hx2⟩,by omega,?_⟩
    exact wkS
  ·refine walkS ?_
   (refine rtS Tryz.results104 ?_;exact ⟨_,_,.inl ⟨rfl,rfl⟩,List.nodup_nil,by rw [itemK_7n n7 (tagIx_none (k:=x) (by omega) (fun j hj h=>hx2 j hj (by omega)))]⟩)
 refine walkS ?_
 refine aw_condS rfl (fun n8=>?_) (fun n8=>?_)
 ·refine walkS ?_
  refine aw_condS rfl (fun n8b=>?_) (fun n8b=>?_)
  ·have k0:=kids0 (h8 (.inl n8))
   refine walkS ?_
   (refine rtS Tryz.results104 ?_;exact ⟨_,_,.inl ⟨rfl,rfl⟩,List.nodup_nil,by rw [itemK_8 (.inl n8)]⟩)
  ·exact absurd n8 n8b
 ·refine walkS ?_
  refine aw_condS rfl (fun n9=>?_) (fun n9=>?_)
  ·have k0:=kids0 (h8 (.inr n9))
   refine walkS ?_
   (refine rtS Tryz.results104 ?_;exact ⟨_,_,.inl ⟨rfl,rfl⟩,List.nodup_nil,by rw [itemK_8 (.inr n9)]⟩)
  ·refine walkS ?_
   (refine rtS Tryz.results104 ?_;exact ⟨_,_,.inl ⟨rfl,rfl⟩,List.nodup_nil,by rw [itemK_no (by omega)]⟩)
end Go.Proofs.YtomfggmmhkpeeaaGreatDoor.Eng
namespace Go.Proofs.YtomfggmmhkpeeaaGreatDoor.Eng
open Go Go.RowKit

abbrev GoodR:=@Go.Proofs.YtomfggmmhkpeeaaGreatDoor.Good
section
variable {D:List RuleD}
theorem kid_int {i:Int} (h:0≤limD D i):∃ (j:Nat) (q:RuleD),i=j∧D[j]?=some q∧(1≤q.size∧q.size≤4)∧ruleD D i=q:=by
 obtain ⟨q,h1,_,h3⟩:=limD_rule h
 have h1':=h1
 unfold ruleAt at h1
 split at h1
 ·rename_i h0
  exact ⟨i.toNat,q,by omega,h1,h3,ruleD_of h1'⟩
 ·cases h1
end
theorem vKnown_spec {D:List RuleD}{i:Int} (h:vKnown D i=true):descP D∧0≤i∧i<D.length:=by
 unfold vKnown at h
 simp only [Bool.and_eq_true,decide_eq_true_eq] at h
 exact ⟨descP_of h.1,h.2⟩
end Go.Proofs.YtomfggmmhkpeeaaGreatDoor.Eng
namespace Go.Proofs.YtomfggmmhkpeeaaGreatDoor.Eng
open Go Go.RowKit

def minF (m n:Int):Int:=if n<m then n else m
end Go.Proofs.YtomfggmmhkpeeaaGreatDoor.Eng
namespace Go.Proofs.YtomfggmmhkpeeaaGreatDoor.Eng
open Go Go.RowKit

section
variable {M:Nat}{D:List RuleD}
theorem good_items {i:Nat}{r:RuleD} (G:GoodR D i r):(r.kind=5→2≤r.kids.length)∧(r.kind=7→r.kids.length=r.tags.length+1)∧(r.kind=8∨r.kind=9→1≤r.kids.length):=
 ⟨fun h=>by have:=(G.k5 h).1;omega,fun h=>(G.k7 h).1,fun h=>h.elim (fun h=>by have:=G.k8 h;omega) fun h=>by have:=G.k9 h;omega⟩
theorem own_kid {i:Nat}{r:RuleD} (G:GoodR D i r) (hi:i<D.length) {n:Int}{lb lv:Nat} (h:ownV D r n lb lv=true) {k:Nat} (hk:k<lv):∃ j:Nat,itemK r n k=j∧j<D.length:=by
 obtain ⟨kd1,kd2⟩:=G.kd
 obtain ⟨h5,h7,h8⟩:=good_items G
 have kid:∀ j (hj:j<r.kids.length),∃ x:Nat,r.kids[j]=x∧x<D.length:=fun j hj=>by
  have:=G.kid j hj
  exact ⟨r.kids[j].toNat,by omega,by omega⟩
 have k0:0<r.kids.length→∃ x:Nat,kid0 r=x∧x<D.length:=fun h=>by
  have e:=kids0 h
  rw [List.getElem?_eq_getElem h] at e
  rw [←Option.some.inj e]
  exact kid 0 h
 by_cases e5:r.kind=5
 ·rw [itemK_5 e5]
  have h:=h5 e5
  have e:=kids1 (r:=r) (by omega)
  rw [List.getElem?_eq_getElem (by omega)] at e
  rw [←Option.some.inj e]
  exact kid 1 (by omega)
 by_cases e6:r.kind=6
 ·rw [ownV_6 e6,decide_eq_true_eq] at h
  rw [itemK_6 e6 (by omega)]
  exact kid k (by omega)
 by_cases e7:r.kind=7
 ·rw [ownV_7 e7,decide_eq_true_eq] at h
  obtain ⟨_,_,h3⟩:=h
  cases ht:tagIx r.tags n with
  | none=>rw [itemK_7n e7 ht] at h3;omega
  | some t=>
   have:=tagIx_lt ht
   have:=h7 e7
   rw [itemK_7 e7 ht (by omega)]
   exact kid (t+1) (by omega)
 by_cases e8:r.kind=8
 ·rw [itemK_8 (.inl e8)]
  exact k0 (by have:=h8 (.inl e8);omega)
 by_cases e9:r.kind=9
 ·rw [itemK_8 (.inr e9)]
  exact k0 (by have:=h8 (.inr e9);omega)
 exfalso
 have:r.kind=1∨r.kind=2∨r.kind=3∨r.kind=4∨r.kind=10:=by omega
 rcases this with e|e|e|e|e
 ·rw [ownV_1 e,decide_eq_true_eq] at h;omega
 ·rw [ownV_2 e,decide_eq_true_eq] at h;omega
 ·rw [ownV_3 e,decide_eq_true_eq] at h;omega
 ·rw [ownV_4 e,decide_eq_true_eq] at h;omega
 ·rw [ownV_10 e,decide_eq_true_eq] at h;omega
end
end Go.Proofs.YtomfggmmhkpeeaaGreatDoor.Eng
