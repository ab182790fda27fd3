/-
 Items of a rule.

 Rules that are valid: what the walks of values need of them.

 The smaller of two numbers, the program's side.
-/
import Derived.Test.YtodkkldopciagaaGreatDoorKTy
import Derived.Test.YtodkkldopciagaaGreatDoorKN0
import Derived.Test.YtodkkldopciagaaGreatDoorKE3
import Derived.Test.YtodkkldopciagaaGreatDoorKP
set_option linter.unusedSimpArgs false
set_option linter.unusedVariables false
set_option linter.defProp false
set_option maxRecDepth 100000
set_option maxHeartbeats 4000000
namespace Go.Proofs.YtodkkldopciagaaGreatDoor.Eng
open Go Go.RowKit

theorem tagIx_hit {l:List Int}{n:Int}{k:Nat} (hk:k<l.length) (he:l[k]=n) (h:∀ j (hj:j<l.length),j<k→l[j]≠n):tagIx l n=some k:=by
 unfold tagIx
 rw [List.findIdx?_eq_some_iff_getElem]
 exact ⟨hk,by simp [he],fun j hj=>by simpa using h j (by omega) hj⟩
theorem tagIx_none {l:List Int}{n:Int}{k:Nat} (hk:¬k<l.length) (h:∀ j (hj:j<l.length),j<k→l[j]≠n):tagIx l n=none:=by
 unfold tagIx
 rw [List.findIdx?_eq_none_iff]
 intro x hx
 obtain ⟨j,hj,rfl⟩:=List.getElem_of_mem hx
 simpa using h j hj (by omega)
theorem tagIx_lt {l:List Int}{n:Int}{k:Nat} (h:tagIx l n=some k):k<l.length:=by
 unfold tagIx at h
 rw [List.findIdx?_eq_some_iff_getElem] at h
 exact h.1
theorem itemK_5 {r:RuleD}{n:Int}{i:Nat} (h:r.kind=5):itemK r n i=kid1 r:=by simp [itemK,h]
theorem itemK_6 {r:RuleD}{n:Int}{i:Nat} (h:r.kind=6) (hi:i<r.kids.length):itemK r n i=r.kids[i]:=by simp [itemK,h,hi]
theorem itemK_6n {r:RuleD}{n:Int}{i:Nat} (h:r.kind=6) (hi:¬i<r.kids.length):itemK r n i=-1:=by
 unfold itemK
 rw [if_neg (by omega),if_pos h,List.getD_eq_getElem?_getD,List.getElem?_eq_none (by omega)]
 rfl
theorem itemK_7 {r:RuleD}{n:Int}{i k:Nat} (h:r.kind=7) (hk:tagIx r.tags n=some k) (hl:k+1<r.kids.length):itemK r n i=r.kids[k+1]:=by simp [itemK,h,hk,hl]
theorem itemK_7n {r:RuleD}{n:Int}{i:Nat} (h:r.kind=7) (hk:tagIx r.tags n=none):itemK r n i=-1:=by simp [itemK,h,hk]
theorem itemK_8 {r:RuleD}{n:Int}{i:Nat} (h:r.kind=8∨r.kind=9):itemK r n i=kid0 r:=by
 unfold itemK
 rw [if_neg (by omega),if_neg (by omega),if_neg (by omega),if_pos h]
theorem itemK_no {r:RuleD}{n:Int}{i:Nat} (h:r.kind≠5∧r.kind≠6∧r.kind≠7∧r.kind≠8∧r.kind≠9):itemK r n i=-1:=by
 unfold itemK
 rw [if_neg (by omega),if_neg (by omega),if_neg (by omega),if_neg (by omega)]
private def tyF:=ai (ai (ai tg22 tg58) (ai tg60 tg62)) (ai (ai tg159 tg3) (ai tg4 (ai tg5 tg9)))
theorem l9Item_c {r:RuleD}{M:Nat} (hr:RB M r) (hM:M≤1048576) (number:Int) (i:Nat) (h5:r.kind=5→2≤r.kids.length) (h7:r.kind=7→r.kids.length=r.tags.length+1) (h8:r.kind=8∨r.kind=9→1≤r.kids.length):AC Tryz.prog 95 [.d (encR r),.d (iD number),.d (iD i)] none (fun r' _=>r'=.d (iD (itemK r number i))):=by
 refine cbS Tryz.func95 rfl Tryz.call95 Tryz.ntmps95 fun en hsz hks hk0=>?_;refine enS ?_
 refine walkS ?_
 refine aw_condS rfl (fun n5=>?_) (fun n5=>?_)
 ·have k1:=kids1 (h5 n5)
  refine walkS ?_
  (refine rtS Tryz.results95 ?_;exact ⟨_,_,.inl ⟨rfl,rfl⟩,List.nodup_nil,by rw [itemK_5 n5]⟩)
 refine walkS ?_
 refine aw_condS rfl (fun n6=>?_) (fun n6=>?_)
 ·refine walkS ?_
  refine aw_condS rfl (fun hi=>?_) (fun hi=>?_)
  ·refine walkS ?_
   (refine rtS Tryz.results95 ?_;exact ⟨_,_,.inl ⟨rfl,rfl⟩,List.nodup_nil,by rw [itemK_6 n6 (by omega)]⟩)
  ·refine walkS ?_
   (refine rtS Tryz.results95 ?_;exact ⟨_,_,.inl ⟨rfl,rfl⟩,List.nodup_nil,by rw [itemK_6n n6 (by omega)]⟩)
 refine walkS ?_
 refine aw_condS rfl (fun n7=>?_) (fun n7=>?_)
 ·have hl:=h7 n7
  refine walkS ?_
  refine aw_loopS [1,3,6,9] (fun _ _=>[]) (fun _ k=>[(7,.d (iD (k:Nat)))]) [] (fun _ _=>[]) [] (fun _ _=>[]) (fun k=>k≤r.tags.length∧∀ j (hj:j<r.tags.length),j<k→r.tags[j]≠number) (fun k=>r.tags.length - k) (0) hks (fun _=>rfl) ⟨Nat.zero_le _,fun _ _ h=>absurd h (Nat.not_lt_zero _)⟩ wkS ?_;intro x hx;refine headS ?_
  obtain ⟨hx1,hx2⟩:=hx
  have hlt:=hr.lt
  refine walkS ?_
  refine aw_condS rfl (fun hk=>?_) (fun hk=>?_)
  ·refine walkS ?_
   refine aw_condS rfl (fun he=>?_) (fun he=>?_)
   ·refine walkS ?_
    (refine rtS Tryz.results95 ?_;exact ⟨_,_,.inl ⟨rfl,rfl⟩,List.nodup_nil,by rw [itemK_7 n7 (tagIx_hit (by omega) he (fun j hj h=>hx2 j hj h)) (by omega)]⟩)
   ·refine walkS ?_
    refine ⟨x+1,⟨by omega,upto_succ (fun h=>he) hx2⟩,by omega,?_⟩
    exact wkS
  ·refine walkS ?_
   (refine rtS Tryz.results95 ?_;exact ⟨_,_,.inl ⟨rfl,rfl⟩,List.nodup_nil,by rw [itemK_7n n7 (tagIx_none (k:=x) (by omega) (fun j hj h=>hx2 j hj (by omega)))]⟩)
 refine walkS ?_
 refine aw_condS rfl (fun n8=>?_) (fun n8=>?_)
 ·refine walkS ?_
  refine aw_condS rfl (fun n8b=>?_) (fun n8b=>?_)
  ·have k0:=kids0 (h8 (.inl n8))
   refine walkS ?_
   (refine rtS Tryz.results95 ?_;exact ⟨_,_,.inl ⟨rfl,rfl⟩,List.nodup_nil,by rw [itemK_8 (.inl n8)]⟩)
  ·exact absurd n8 n8b
 ·refine walkS ?_
  refine aw_condS rfl (fun n9=>?_) (fun n9=>?_)
  ·have k0:=kids0 (h8 (.inr n9))
   refine walkS ?_
   (refine rtS Tryz.results95 ?_;exact ⟨_,_,.inl ⟨rfl,rfl⟩,List.nodup_nil,by rw [itemK_8 (.inr n9)]⟩)
  ·refine walkS ?_
   (refine rtS Tryz.results95 ?_;exact ⟨_,_,.inl ⟨rfl,rfl⟩,List.nodup_nil,by rw [itemK_no (by omega)]⟩)
end Go.Proofs.YtodkkldopciagaaGreatDoor.Eng
namespace Go.Proofs.YtodkkldopciagaaGreatDoor.Eng
open Go Go.RowKit

abbrev GoodR:=@Go.Proofs.YtodkkldopciagaaGreatDoor.Good
section
variable {D:List RuleD}
theorem kid_int {i:Int} (h:0≤limD D i):∃ (j:Nat) (q:RuleD),i=j∧D[j]?=some q∧(1≤q.size∧q.size≤4)∧ruleD D i=q:=by
 obtain ⟨q,h1,_,h3⟩:=limD_rule h
 have h1':=h1
 unfold ruleAt at h1
 split at h1
 ·rename_i h0
  exact ⟨i.toNat,q,by omega,h1,h3,ruleD_of h1'⟩
 ·cases h1
end
theorem vKnown_spec {D:List RuleD}{i:Int} (h:vKnown D i=true):descP D∧0≤i∧i<D.length:=by
 unfold vKnown at h
 simp only [Bool.and_eq_true,decide_eq_true_eq] at h
 exact ⟨descP_of h.1,h.2⟩
end Go.Proofs.YtodkkldopciagaaGreatDoor.Eng
namespace Go.Proofs.YtodkkldopciagaaGreatDoor.Eng
open Go Go.RowKit

def minF (m n:Int):Int:=if n<m then n else m
theorem less_c (a b:Int):AC Tryz.prog 129 [.d (iD a),.d (iD b)] none (fun r' _=>r'=.d (bD (decide (a<b)))):=by
 refine cbS Tryz.func129 rfl Tryz.call129 Tryz.ntmps129 fun en hsz hks hk0=>?_;refine enS ?_
 refine walkS ?_
 (refine rtS Tryz.results129 ?_;exact ⟨_,_,.inl ⟨rfl,rfl⟩,List.nodup_nil,rfl⟩)

theorem pickMin_c (a:Int) {l:List Int} (hl:l.length≤1048576):AC Tryz.prog 128 [.d (.v (.func (.func 129) #[] #[])),.d (iD a),.d (encI l)] none (fun r' _=>r'=.d (iD (l.foldl minF a))):=by
 refine cbS Tryz.func128 rfl Tryz.call128 Tryz.ntmps128 fun en hsz hks hk0=>?_;refine enS ?_
 refine walkS ?_
 refine aw_loopS [0,6,9,10] (fun _ _=>[]) (fun _ y=>[(11,.d (iD (y.1:Nat))),(1,.d (iD y.2))]) [] (fun _ _=>[]) [] (fun _ _=>[]) (fun y:Nat × Int=>y.1≤l.length∧l.foldl minF a=(l.drop y.1).foldl minF y.2) (fun y=>l.length - y.1) ((0,a)) hks (fun _=>rfl) ⟨Nat.zero_le _,rfl⟩ wkS ?_;intro x hx;refine headS ?_
 obtain ⟨k,m⟩:=x
 simp only at hx ⊢
 obtain ⟨hx1,hx2⟩:=hx
 refine walkS ?_
 refine aw_condS rfl (fun hk=>?_) (fun hk=>?_)
 ·have hd:l.drop k=l[k]'(by omega)::l.drop (k+1):=List.drop_eq_getElem_cons (by omega)
  rw [hd,List.foldl_cons] at hx2
  (repeat (first|refine walkS ?_|(refine callPre ?_;(first|refine callN_funS rfl (less_c (l[k]'(by omega)) m) ?_))|(refine callPreL ?_;(first|refine callL_funS rfl (less_c (l[k]'(by omega)) m) ?_))|(refine callPreV ?_;(first|refine callN_funS rfl (less_c (l[k]'(by omega)) m) ?_))))
  refine aw_condS rfl (fun hm=>?_) (fun hm=>?_)
  ·refine walkS ?_
   refine ⟨(k+1,l[k]'(by omega)),⟨by simp only;omega,by rw [hx2,minF,if_pos hm]⟩,by simp only;omega,?_⟩
   exact wkS
  ·refine walkS ?_
   refine ⟨(k+1,m),⟨by simp only;omega,by rw [hx2,minF,if_neg hm]⟩,by simp only;omega,?_⟩
   exact wkS
 ·rw [List.drop_eq_nil_of_le (by omega)] at hx2
  refine walkS ?_
  (refine rtS Tryz.results128 ?_;exact ⟨_,_,.inl ⟨rfl,rfl⟩,List.nodup_nil,by rw [hx2];rfl⟩)

theorem minI_c (a b:Int):AC Tryz.prog 123 [.d (iD a),.d (iD b)] none (fun r' _=>r'=.d (iD (minF a b))):=by
 refine cbS Tryz.func123 rfl Tryz.call123 Tryz.ntmps123 fun en hsz hks hk0=>?_;refine enS ?_
 (repeat (first|refine walkS ?_|(refine callPre ?_;(first|refine callN_funS rfl (pickMin_c a (l:=[b]) (by simp)) ?_))|(refine callPreL ?_;(first|refine callL_funS rfl (pickMin_c a (l:=[b]) (by simp)) ?_))))
 (refine rtS Tryz.results123 ?_;exact ⟨_,_,.inl ⟨rfl,rfl⟩,List.nodup_nil,rfl⟩)

end Go.Proofs.YtodkkldopciagaaGreatDoor.Eng
