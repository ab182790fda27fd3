/-
 The smaller of two numbers, the program's side.

 Rules that are valid: what the walks of values need of them.

 Small functions of the reference; the rule of an item.
-/
import Derived.Test.YtomfggmmhkpeeaaDoorKTy
import Derived.Test.YtomfggmmhkpeeaaDoorKN0
import Derived.Test.YtomfggmmhkpeeaaDoorKN2
import Derived.Test.YtomfggmmhkpeeaaDoorKP
import Derived.Test.YtomfggmmhkpeeaaDoorKNE
import Derived.Test.YtomfggmmhkpeeaaDoorKP2
set_option linter.unusedSimpArgs false
set_option linter.unusedVariables false
set_option linter.defProp false
set_option maxRecDepth 100000
set_option maxHeartbeats 4000000
namespace Go.Proofs.YtomfggmmhkpeeaaDoor.Eng
open Go Go.RowKit

def minF (m n:Int):Int:=if n<m then n else m
private def tyF:=ai tg40 (ai tg3 tg71)
theorem less_c (a b:Int):AC Tryd.prog 68 [.d (iD a),.d (iD b)] none (fun r' _=>r'=.d (bD (decide (a<b)))):=by
 refine cbS Tryd.func68 rfl Tryd.call68 Tryd.ntmps68 fun en hsz hks hk0=>?_;refine enS ?_
 refine walkS ?_
 (refine rtS Tryd.results68 ?_;exact ⟨_,_,.inl ⟨rfl,rfl⟩,List.nodup_nil,rfl⟩)

theorem pickMin_c (a:Int) {l:List Int} (hl:l.length≤1048576):AC Tryd.prog 67 [.d (.v (.func (.func 68) #[] #[])),.d (iD a),.d (encI l)] none (fun r' _=>r'=.d (iD (l.foldl minF a))):=by
 refine cbS Tryd.func67 rfl Tryd.call67 Tryd.ntmps67 fun en hsz hks hk0=>?_;refine enS ?_
 refine walkS ?_
 refine aw_loopS [0,6,9,10] (fun _ _=>[]) (fun _ y=>[(11,.d (iD (y.1:Nat))),(1,.d (iD y.2))]) [] (fun _ _=>[]) [] (fun _ _=>[]) (fun y:Nat × Int=>y.1≤l.length∧l.foldl minF a=(l.drop y.1).foldl minF y.2) (fun y=>l.length - y.1) ((0,a)) hks (fun _=>rfl) ⟨Nat.zero_le _,rfl⟩ wkS ?_;intro x hx;refine headS ?_
 obtain ⟨k,m⟩:=x
 simp only at hx ⊢
 obtain ⟨hx1,hx2⟩:=hx
 refine walkS ?_
 refine aw_condS rfl (fun hk=>?_) (fun hk=>?_)
 ·have hd:l.drop k=l[k]'(by omega)::l.drop (k+1):=List.drop_eq_getElem_cons (by omega)
  rw [hd,List.foldl_cons] at hx2
  (repeat (first|refine walkS ?_|(refine callPre ?_;(first|refine callN_funS rfl (less_c (l[k]'(by omega)) m) ?_))|(refine callPreL ?_;(first|refine callL_funS rfl (less_c (l[k]'(by omega)) m) ?_))|(refine callPreV ?_;(first|refine callN_funS rfl (less_c (l[k]'(by omega)) m) ?_))))
  refine aw_condS rfl (fun hm=>?_) (fun hm=>?_)
  ·refine walkS ?_
   refine ⟨(k+1,l[k]'(by omega)),⟨by simp only;omega,by rw [hx2,minF,if_pos hm]⟩,by simp only;omega,?_⟩
   exact wkS
  ·refine walkS ?_
   refine ⟨(k+1,m),⟨by simp only;omega,by rw [hx2,minF,if_neg hm]⟩,by simp only;omega,?_⟩
   exact wkS
 ·rw [List.drop_eq_nil_of_le (by omega)] at hx2
  refine walkS ?_
  (refine rtS Tryd.results67 ?_;exact ⟨_,_,.inl ⟨rfl,rfl⟩,List.nodup_nil,by rw [hx2];rfl⟩)

theorem minI_c (a b:Int):AC Tryd.prog 45 [.d (iD a),.d (iD b)] none (fun r' _=>r'=.d (iD (minF a b))):=by
 refine cbS Tryd.func45 rfl Tryd.call45 Tryd.ntmps45 fun en hsz hks hk0=>?_;refine enS ?_
 (repeat (first|refine walkS ?_|(refine callPre ?_;(first|refine callN_funS rfl (pickMin_c a (l:=[b]) (by simp)) ?_))|(refine callPreL ?_;(first|refine callL_funS rfl (pickMin_c a (l:=[b]) (by simp)) ?_))))
 (refine rtS Tryd.results45 ?_;exact ⟨_,_,.inl ⟨rfl,rfl⟩,List.nodup_nil,rfl⟩)

end Go.Proofs.YtomfggmmhkpeeaaDoor.Eng
namespace Go.Proofs.YtomfggmmhkpeeaaDoor.Eng
open Go Go.RowKit

abbrev GoodR:=@Go.Proofs.YtomfggmmhkpeeaaDoor.Good
section
variable {D:List RuleD}
theorem kid_int {i:Int} (h:0≤limD D i):∃ (j:Nat) (q:RuleD),i=j∧D[j]?=some q∧(1≤q.size∧q.size≤4)∧ruleD D i=q:=by
 obtain ⟨q,h1,_,h3⟩:=limD_rule h
 have h1':=h1
 unfold ruleAt at h1
 split at h1
 ·rename_i h0
  exact ⟨i.toNat,q,by omega,h1,h3,ruleD_of h1'⟩
 ·cases h1
end
end Go.Proofs.YtomfggmmhkpeeaaDoor.Eng
namespace Go.Proofs.YtomfggmmhkpeeaaDoor.Eng
open Go Go.RowKit

section
variable {M:Nat}{D:List RuleD}
theorem good_items {i:Nat}{r:RuleD} (G:GoodR D i r):(r.kind=5→2≤r.kids.length)∧(r.kind=7→r.kids.length=r.tags.length+1)∧(r.kind=8∨r.kind=9→1≤r.kids.length):=
 ⟨fun h=>by have:=(G.k5 h).1;omega,fun h=>(G.k7 h).1,fun h=>h.elim (fun h=>by have:=G.k8 h;omega) fun h=>by have:=G.k9 h;omega⟩
theorem own_kid {i:Nat}{r:RuleD} (G:GoodR D i r) (hi:i<D.length) {n:Int}{lb lv:Nat} (h:ownV D r n lb lv=true) {k:Nat} (hk:k<lv):∃ j:Nat,itemK r n k=j∧j<D.length:=by
 obtain ⟨kd1,kd2⟩:=G.kd
 obtain ⟨h5,h7,h8⟩:=good_items G
 have kid:∀ j (hj:j<r.kids.length),∃ x:Nat,r.kids[j]=x∧x<D.length:=fun j hj=>by
  have:=G.kid j hj
  exact ⟨r.kids[j].toNat,by omega,by omega⟩
 have k0:0<r.kids.length→∃ x:Nat,kid0 r=x∧x<D.length:=fun h=>by
  have e:=kids0 h
  rw [List.getElem?_eq_getElem h] at e
  rw [←Option.some.inj e]
  exact kid 0 h
 by_cases e5:r.kind=5
 ·rw [itemK_5 e5]
  have h:=h5 e5
  have e:=kids1 (r:=r) (by omega)
  rw [List.getElem?_eq_getElem (by omega)] at e
  rw [←Option.some.inj e]
  exact kid 1 (by omega)
 by_cases e6:r.kind=6
 ·rw [ownV_6 e6,decide_eq_true_eq] at h
  rw [itemK_6 e6 (by omega)]
  exact kid k (by omega)
 by_cases e7:r.kind=7
 ·rw [ownV_7 e7,decide_eq_true_eq] at h
  obtain ⟨_,_,h3⟩:=h
  cases ht:tagIx r.tags n with
  | none=>rw [itemK_7n e7 ht] at h3;omega
  | some t=>
   have:=tagIx_lt ht
   have:=h7 e7
   rw [itemK_7 e7 ht (by omega)]
   exact kid (t+1) (by omega)
 by_cases e8:r.kind=8
 ·rw [itemK_8 (.inl e8)]
  exact k0 (by have:=h8 (.inl e8);omega)
 by_cases e9:r.kind=9
 ·rw [itemK_8 (.inr e9)]
  exact k0 (by have:=h8 (.inr e9);omega)
 exfalso
 have:r.kind=1∨r.kind=2∨r.kind=3∨r.kind=4∨r.kind=10:=by omega
 rcases this with e|e|e|e|e
 ·rw [ownV_1 e,decide_eq_true_eq] at h;omega
 ·rw [ownV_2 e,decide_eq_true_eq] at h;omega
 ·rw [ownV_3 e,decide_eq_true_eq] at h;omega
 ·rw [ownV_4 e,decide_eq_true_eq] at h;omega
 ·rw [ownV_10 e,decide_eq_true_eq] at h;omega
end
end Go.Proofs.YtomfggmmhkpeeaaDoor.Eng
