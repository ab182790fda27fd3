/-
 Items of a rule.
-/
import Derived.Test.YtecdbogicpffeabDoorKTy
import Derived.Test.YtecdbogicpffeabDoorKN0
import Derived.Test.YtecdbogicpffeabDoorKE3
set_option linter.unusedSimpArgs false
set_option linter.unusedVariables false
set_option linter.defProp false
set_option maxRecDepth 100000
set_option maxHeartbeats 4000000
namespace Go.Proofs.YtecdbogicpffeabDoor.Eng
open Go Go.RowKit

theorem tagIx_hit {l:List Int}{n:Int}{k:Nat} (hk:k<l.length) (he:l[k]=n) (h:∀ j (hj:j<l.length),j<k→l[j]≠n):tagIx l n=some k:=by
 unfold tagIx
 rw [List.findIdx?_eq_some_iff_getElem]
 exact ⟨hk,by simp [he],fun j hj=>by simpa using h j (by omega) hj⟩
theorem tagIx_none {l:List Int}{n:Int}{k:Nat} (hk:¬k<l.length) (h:∀ j (hj:j<l.length),j<k→l[j]≠n):tagIx l n=none:=by
 unfold tagIx
 rw [List.findIdx?_eq_none_iff]
 intro x hx
 obtain ⟨j,hj,rfl⟩:=List.getElem_of_mem hx
 simpa using h j hj (by omega)
theorem tagIx_lt {l:List Int}{n:Int}{k:Nat} (h:tagIx l n=some k):k<l.length:=by
 unfold tagIx at h
 rw [List.findIdx?_eq_some_iff_getElem] at h
 exact h.1
theorem itemK_5 {r:RuleD}{n:Int}{i:Nat} (h:r.kind=5):itemK r n i=kid1 r:=by simp [itemK,h]
theorem itemK_6 {r:RuleD}{n:Int}{i:Nat} (h:r.kind=6) (hi:i<r.kids.length):itemK r n i=r.kids[i]:=by simp [itemK,h,hi]
theorem itemK_6n {r:RuleD}{n:Int}{i:Nat} (h:r.kind=6) (hi:¬i<r.kids.length):itemK r n i=-1:=by
 unfold itemK
 rw [if_neg (by omega),if_pos h,List.getD_eq_getElem?_getD,List.getElem?_eq_none (by omega)]
 rfl
theorem itemK_7 {r:RuleD}{n:Int}{i k:Nat} (h:r.kind=7) (hk:tagIx r.tags n=some k) (hl:k+1<r.kids.length):itemK r n i=r.kids[k+1]:=by simp [itemK,h,hk,hl]
theorem itemK_7n {r:RuleD}{n:Int}{i:Nat} (h:r.kind=7) (hk:tagIx r.tags n=none):itemK r n i=-1:=by simp [itemK,h,hk]
theorem itemK_8 {r:RuleD}{n:Int}{i:Nat} (h:r.kind=8∨r.kind=9):itemK r n i=kid0 r:=by
 unfold itemK
 rw [if_neg (by omega),if_neg (by omega),if_neg (by omega),if_pos h]
theorem itemK_no {r:RuleD}{n:Int}{i:Nat} (h:r.kind≠5∧r.kind≠6∧r.kind≠7∧r.kind≠8∧r.kind≠9):itemK r n i=-1:=by
 unfold itemK
 rw [if_neg (by omega),if_neg (by omega),if_neg (by omega),if_neg (by omega)]
private def tyF:=ai (ai (ai tg25 tg52) (ai tg53 tg61)) (ai (ai tg3 tg4) (ai tg5 tg9))
theorem l9Item_c {r:RuleD}{M:Nat} (hr:RB M r) (hM:M≤1048576) (number:Int) (i:Nat) (h5:r.kind=5→2≤r.kids.length) (h7:r.kind=7→r.kids.length=r.tags.length+1) (h8:r.kind=8∨r.kind=9→1≤r.kids.length):AC Tryd.prog 24 [.d (encR r),.d (iD number),.d (iD i)] none (fun r' _=>r'=.d (iD (itemK r number i))):=by
 refine cbS Tryd.func24 rfl Tryd.call24 Tryd.ntmps24 fun en hsz hks hk0=>?_;refine enS ?_
 refine walkS ?_
 refine aw_condS rfl (fun n5=>?_) (fun n5=>?_)
 ·have k1:=kids1 (h5 n5)
  refine walkS ?_
  (refine rtS Tryd.results24 ?_;exact ⟨_,_,.inl ⟨rfl,rfl⟩,List.nodup_nil,by rw [itemK_5 n5]⟩)
 refine walkS ?_
 refine aw_condS rfl (fun n6=>?_) (fun n6=>?_)
 ·refine walkS ?_
  refine aw_condS rfl (fun hi=>?_) (fun hi=>?_)
  ·refine walkS ?_
   (refine rtS Tryd.results24 ?_;exact ⟨_,_,.inl ⟨rfl,rfl⟩,List.nodup_nil,by rw [itemK_6 n6 (by omega)]⟩)
  ·refine walkS ?_
   (refine rtS Tryd.results24 ?_;exact ⟨_,_,.inl ⟨rfl,rfl⟩,List.nodup_nil,by rw [itemK_6n n6 (by omega)]⟩)
 refine walkS ?_
 refine aw_condS rfl (fun n7=>?_) (fun n7=>?_)
 ·have hl:=h7 n7
  refine walkS ?_
  refine aw_loopS [1,3,6,9] (fun _ _=>[]) (fun _ k=>[(7,.d (iD (k:Nat)))]) [] (fun _ _=>[]) [] (fun _ _=>[]) (fun k=>k≤r.tags.length∧∀ j (hj:j<r.tags.length),j<k→r.tags[j]≠number) (fun k=>r.tags.length - k) (0) hks (fun _=>rfl) ⟨Nat.zero_le _,fun _ _ h=>absurd h (Nat.not_lt_zero _)⟩ wkS ?_;intro x hx;refine headS ?_
  obtain ⟨hx1,hx2⟩:=hx
  have hlt:=hr.lt
  refine walkS ?_
  refine aw_condS rfl (fun hk=>?_) (fun hk=>?_)
  ·refine walkS ?_
   refine aw_condS rfl (fun he=>?_) (fun he=>?_)
   ·refine walkS ?_
    (refine rtS Tryd.results24 ?_;exact ⟨_,_,.inl ⟨rfl,rfl⟩,List.nodup_nil,by rw [itemK_7 n7 (tagIx_hit (by omega) he (fun j hj h=>hx2 j hj h)) (by omega)]⟩)
   ·refine walkS ?_
    refine ⟨x+1,⟨by omega,upto_succ (fun h=>he) hx2⟩,by omega,?_⟩
    exact wkS
  ·refine walkS ?_
   (refine rtS Tryd.results24 ?_;exact ⟨_,_,.inl ⟨rfl,rfl⟩,List.nodup_nil,by rw [itemK_7n n7 (tagIx_none (k:=x) (by omega) (fun j hj h=>hx2 j hj (by omega)))]⟩)
 refine walkS ?_
 refine aw_condS rfl (fun n8=>?_) (fun n8=>?_)
 ·refine walkS ?_
  refine aw_condS rfl (fun n8b=>?_) (fun n8b=>?_)
  ·have k0:=kids0 (h8 (.inl n8))
   refine walkS ?_
   (refine rtS Tryd.results24 ?_;exact ⟨_,_,.inl ⟨rfl,rfl⟩,List.nodup_nil,by rw [itemK_8 (.inl n8)]⟩)
  ·exact absurd n8 n8b
 ·refine walkS ?_
  refine aw_condS rfl (fun n9=>?_) (fun n9=>?_)
  ·have k0:=kids0 (h8 (.inr n9))
   refine walkS ?_
   (refine rtS Tryd.results24 ?_;exact ⟨_,_,.inl ⟨rfl,rfl⟩,List.nodup_nil,by rw [itemK_8 (.inr n9)]⟩)
  ·refine walkS ?_
   (refine rtS Tryd.results24 ?_;exact ⟨_,_,.inl ⟨rfl,rfl⟩,List.nodup_nil,by rw [itemK_no (by omega)]⟩)
end Go.Proofs.YtecdbogicpffeabDoor.Eng
