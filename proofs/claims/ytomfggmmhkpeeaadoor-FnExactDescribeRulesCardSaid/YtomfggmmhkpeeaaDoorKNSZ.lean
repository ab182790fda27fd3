/-
 Least sizes, the program: MinSize, MissingAtLeast.

 Least sizes, the reference: MinSize, MissingAtLeast.
-/
import Derived.Test.YtomfggmmhkpeeaaDoorKN82
import Derived.Test.YtomfggmmhkpeeaaDoorKN83
set_option linter.unusedSimpArgs false
set_option linter.unusedVariables false
set_option linter.defProp false
set_option maxRecDepth 100000
set_option maxHeartbeats 4000000
namespace Go.Proofs.YtomfggmmhkpeeaaDoor.Eng
open Go Go.RowKit

def maxF (m n:Int):Int:=if m<n then n else m
private def tyF:=ai (ai (ai tg59 (ai tg39 tg26)) (ai tg28 (ai tg40 tg30))) (ai (ai tg42 (ai tg3 tg4)) (ai tg5 (ai tg71 tg9)))
theorem more_c (a b:Int):AC Tryd.prog 70 [.d (iD a),.d (iD b)] none (fun r' _=>r'=.d (bD (decide (b<a)))):=by
 refine cbS Tryd.func70 rfl Tryd.call70 Tryd.ntmps70 fun en hsz hks hk0=>?_;refine enS ?_
 refine walkS ?_
 (refine rtS Tryd.results70 ?_;exact ⟨_,_,.inl ⟨rfl,rfl⟩,List.nodup_nil,rfl⟩)
theorem pickMax_c (a:Int) {l:List Int} (hl:l.length≤1048576):AC Tryd.prog 67 [.d (.v (.func (.func 70) #[] #[])),.d (iD a),.d (encI l)] none (fun r' _=>r'=.d (iD (l.foldl maxF a))):=by
 refine cbS Tryd.func67 rfl Tryd.call67 Tryd.ntmps67 fun en hsz hks hk0=>?_;refine enS ?_
 refine walkS ?_
 refine aw_loopS [0,6,9,10] (fun _ _=>[]) (fun _ y=>[(11,.d (iD (y.1:Nat))),(1,.d (iD y.2))]) [] (fun _ _=>[]) [] (fun _ _=>[]) (fun y:Nat × Int=>y.1≤l.length∧l.foldl maxF a=(l.drop y.1).foldl maxF y.2) (fun y=>l.length - y.1) ((0,a)) hks (fun _=>rfl) ⟨Nat.zero_le _,rfl⟩ wkS ?_;intro x hx;refine headS ?_
 obtain ⟨k,m⟩:=x
 simp only at hx ⊢
 obtain ⟨hx1,hx2⟩:=hx
 refine walkS ?_
 refine aw_condS rfl (fun hk=>?_) (fun hk=>?_)
 ·have hd:l.drop k=l[k]'(by omega)::l.drop (k+1):=List.drop_eq_getElem_cons (by omega)
  rw [hd,List.foldl_cons] at hx2
  (repeat (first|refine walkS ?_|(refine callPre ?_;(first|refine callN_funS rfl (more_c (l[k]'(by omega)) m) ?_))|(refine callPreL ?_;(first|refine callL_funS rfl (more_c (l[k]'(by omega)) m) ?_))|(refine callPreV ?_;(first|refine callN_funS rfl (more_c (l[k]'(by omega)) m) ?_))))
  refine aw_condS rfl (fun hm=>?_) (fun hm=>?_)
  ·refine walkS ?_
   refine ⟨(k+1,l[k]'(by omega)),⟨by simp only;omega,by rw [hx2,maxF,if_pos hm]⟩,by simp only;omega,?_⟩
   exact wkS
  ·refine walkS ?_
   refine ⟨(k+1,m),⟨by simp only;omega,by rw [hx2,maxF,if_neg hm]⟩,by simp only;omega,?_⟩
   exact wkS
 ·rw [List.drop_eq_nil_of_le (by omega)] at hx2
  refine walkS ?_
  (refine rtS Tryd.results67 ?_;exact ⟨_,_,.inl ⟨rfl,rfl⟩,List.nodup_nil,by rw [hx2];rfl⟩)
theorem maxI_c (a b:Int):AC Tryd.prog 47 [.d (iD a),.d (iD b)] none (fun r' _=>r'=.d (iD (maxF a b))):=by
 refine cbS Tryd.func47 rfl Tryd.call47 Tryd.ntmps47 fun en hsz hks hk0=>?_;refine enS ?_
 (repeat (first|refine walkS ?_|(refine callPre ?_;(first|refine callN_funS rfl (pickMax_c a (l:=[b]) (by simp)) ?_))|(refine callPreL ?_;(first|refine callL_funS rfl (pickMax_c a (l:=[b]) (by simp)) ?_))))
 (refine rtS Tryd.results47 ?_;exact ⟨_,_,.inl ⟨rfl,rfl⟩,List.nodup_nil,rfl⟩)
section
variable {D:List RuleD}{M:Nat}
noncomputable def minOf (D:List RuleD) (i:Int):Int:=if vKnown D i=true then atT (minS D D.length) i else 0
theorem minOf_in (D:List RuleD) (i:Int):0≤minOf D i∧minOf D i≤401:=by
 unfold minOf
 split
 ·rename_i hk
  unfold vKnown at hk
  simp only [Bool.and_eq_true,decide_eq_true_eq] at hk
  exact atT_in (minS_in (descP_of hk.1) D.length (Nat.le_refl _)) i
 ·omega
theorem minSizeI_c (hD:DB M D) (hM:M≤1048576) (i:Int):AC Tryd.prog 26 [.d (encD D),.d (iD i)] none (fun r' _=>r'=.d (iD (minOf D i))):=by
 by_cases hk:vKnown D i=true
 ·have hk':=hk
  unfold vKnown at hk'
  simp only [Bool.and_eq_true,decide_eq_true_eq] at hk'
  obtain ⟨hv,h0,h1⟩:=hk'
  have hV:descP D:=descP_of hv
  have h24:D.length≤24:=hV.1.2
  have HL:=leastI_c hD hM hV h24
  have hat:((tabT D D.length).map iD)[i.toNat]?=some (iD (atT (minS D D.length) i)):=by
   have e1:atT (tabT D D.length) i=atT (minS D D.length) i:=atT_app (by rw [minS_len];omega)
   rw [←e1]
   have:i.toNat<(tabT D D.length).length:=by rw [tabT_len h24];omega
   simp [atT,List.getD,this]
  have hin:=atT_in (minS_in hV D.length (Nat.le_refl _)) i
  rw [show minOf D i=atT (minS D D.length) i from if_pos hk]
  refine cbS Tryd.func26 rfl Tryd.call26 Tryd.ntmps26 fun en hsz hks hk0=>?_;refine enS ?_
  (repeat (first|refine walkS ?_|(refine callPre ?_;(first|refine callN_funS rfl ((known_c hD hM i).eqv (r1:=.d (bD true)) (by rw [hk])) ?_))|(refine callPreL ?_;(first|refine callL_funS rfl ((known_c hD hM i).eqv (r1:=.d (bD true)) (by rw [hk])) ?_))))
  refine aw_condS rfl (fun h2=>?_) (fun h2=>?_)
  ·(first|exact absurd trivial h2|exact absurd rfl h2|(cases h2;done)|omega|exact absurd h2 (by decide)|(simp at h2;done))
  (repeat (first|refine walkS ?_|refine cS (HL) ?_))
  refine ow_indexA (e:=3) (m:=24) (n:=i) (c:=iD (atT (minS D D.length) i)) ?_ dsS rfl rfl rfl (by kernel_rfl) (by kernel_rfl) h0 (by omega) hat ?_
  ·first|exact trivial|exact rfl
  simp only [St.set]
  refine walkS ?_
  (refine rtS Tryd.results26 ?_;exact ⟨_,_,.inl ⟨rfl,rfl⟩,List.nodup_nil,rfl⟩)
 ·have hk2:vKnown D i=false:=by simpa using hk
  rw [show minOf D i=0 from if_neg hk]
  refine cbS Tryd.func26 rfl Tryd.call26 Tryd.ntmps26 fun en hsz hks hk0=>?_;refine enS ?_
  (repeat (first|refine walkS ?_|(refine callPre ?_;(first|refine callN_funS rfl ((known_c hD hM i).eqv (r1:=.d (bD false)) (by rw [hk2])) ?_))|(refine callPreL ?_;(first|refine callL_funS rfl ((known_c hD hM i).eqv (r1:=.d (bD false)) (by rw [hk2])) ?_))))
  refine aw_condS rfl (fun h2=>?_) (fun h2=>?_)
  ·refine walkS ?_
   (refine rtS Tryd.results26 ?_;exact ⟨_,_,.inl ⟨rfl,rfl⟩,List.nodup_nil,rfl⟩)
  ·(first|exact absurd trivial h2|exact absurd rfl h2|(cases h2;done)|omega|exact absurd h2 (by decide)|(simp at h2;done))
end
end Go.Proofs.YtomfggmmhkpeeaaDoor.Eng
namespace Go.Proofs.YtomfggmmhkpeeaaDoor.Eng
open Go Go.RowKit

theorem maxS_c (a b:Int):AC Tryd.prog 38 [.d (iD a),.d (iD b)] none (fun r' _=>r'=.d (iD (maxF a b))):=by
 refine cbS Tryd.func38 rfl Tryd.call38 Tryd.ntmps38 fun en hsz hks hk0=>?_;refine enS ?_
 refine walkS ?_
 refine aw_condS rfl (fun h=>?_) (fun h=>?_)
 ·refine walkS ?_
  (refine rtS Tryd.results38 ?_;exact ⟨_,_,.inl ⟨rfl,rfl⟩,List.nodup_nil,by rw [maxF,if_pos (by omega)]⟩)
 ·refine walkS ?_
  (refine rtS Tryd.results38 ?_;exact ⟨_,_,.inl ⟨rfl,rfl⟩,List.nodup_nil,by rw [maxF,if_neg (by omega)]⟩)
section
variable {D:List RuleD}{M:Nat}
theorem minSizeS_c (hD:DB M D) (hM:M≤1048576) (i:Int):AC Tryd.prog 17 [.d (encD D),.d (iD i)] none (fun r' _=>r'=.d (iD (minOf D i))):=by
 by_cases hk:vKnown D i=true
 ·have hk':=hk
  unfold vKnown at hk'
  simp only [Bool.and_eq_true,decide_eq_true_eq] at hk'
  obtain ⟨hv,h0,h1⟩:=hk'
  have hV:descP D:=descP_of hv
  have h24:D.length≤24:=hV.1.2
  have HL:=minsS_c hD hM hV h24
  have hl:=minS_len D D.length
  have hat:(minS D D.length)[i.toNat]?=some (atT (minS D D.length) i):=by
   have:i.toNat<(minS D D.length).length:=by omega
   simp [this,atT,List.getD]
  rw [show minOf D i=atT (minS D D.length) i from if_pos hk]
  refine cbS Tryd.func17 rfl Tryd.call17 Tryd.ntmps17 fun en hsz hks hk0=>?_;refine enS ?_
  (repeat (first|refine walkS ?_|(refine callPre ?_;(first|refine callN_funS rfl ((l7Rule_c hD hM i).eqv (r1:=.d (bD true)) (by rw [hk])) ?_))|(refine callPreL ?_;(first|refine callL_funS rfl ((l7Rule_c hD hM i).eqv (r1:=.d (bD true)) (by rw [hk])) ?_))))
  refine aw_condS rfl (fun h2=>?_) (fun h2=>?_)
  ·(first|exact absurd trivial h2|exact absurd rfl h2|(cases h2;done)|omega|exact absurd h2 (by decide)|(simp at h2;done))
  (repeat (first|refine walkS ?_|refine cS (HL) ?_))
  (refine rtS Tryd.results17 ?_;exact ⟨_,_,.inl ⟨rfl,rfl⟩,List.nodup_nil,rfl⟩)
 ·have hk2:vKnown D i=false:=by simpa using hk
  rw [show minOf D i=0 from if_neg hk]
  refine cbS Tryd.func17 rfl Tryd.call17 Tryd.ntmps17 fun en hsz hks hk0=>?_;refine enS ?_
  (repeat (first|refine walkS ?_|(refine callPre ?_;(first|refine callN_funS rfl ((l7Rule_c hD hM i).eqv (r1:=.d (bD false)) (by rw [hk2])) ?_))|(refine callPreL ?_;(first|refine callL_funS rfl ((l7Rule_c hD hM i).eqv (r1:=.d (bD false)) (by rw [hk2])) ?_))))
  refine aw_condS rfl (fun h2=>?_) (fun h2=>?_)
  ·refine walkS ?_
   (refine rtS Tryd.results17 ?_;exact ⟨_,_,.inl ⟨rfl,rfl⟩,List.nodup_nil,rfl⟩)
  ·(first|exact absurd trivial h2|exact absurd rfl h2|(cases h2;done)|omega|exact absurd h2 (by decide)|(simp at h2;done))
end
end Go.Proofs.YtomfggmmhkpeeaaDoor.Eng
