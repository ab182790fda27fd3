/-
 Depths of rules, the reference.
-/
import Derived.Test.YtomfggmmhkpeeaaDoorKNSZ
import Derived.Test.YtomfggmmhkpeeaaDoorKN92
set_option linter.unusedSimpArgs false
set_option linter.unusedVariables false
set_option linter.defProp false
set_option maxRecDepth 100000
set_option maxHeartbeats 4000000
namespace Go.Proofs.YtomfggmmhkpeeaaDoor.Eng
open Go Go.RowKit
section
variable {D:List RuleD}{M:Nat}
private def tyF:=ai (ai (ai tg39 tg26) (ai tg28 (ai tg40 tg30))) (ai (ai tg42 tg3) (ai tg4 (ai tg5 tg9)))
theorem depS_c (hD:DB M D) (hM:M≤1048576) (i:Int):AC Tryd.prog 19 [.d (encD D),.d (iD i)] none (fun r' _=>r'=.d (iD (depOf D i))):=by
 by_cases hk:vKnown D i=true
 ·have hk':=hk
  unfold vKnown at hk'
  simp only [Bool.and_eq_true,decide_eq_true_eq] at hk'
  obtain ⟨hv,h0,h1⟩:=hk'
  have hV:descP D:=descP_of hv
  have h24:D.length≤24:=hV.1.2
  have hDl:=hD.len
  obtain ⟨n,rfl⟩:∃ n:Nat,i=n:=⟨i.toNat,by omega⟩
  rw [show depOf D n=atT (depS D D.length) n from if_pos hk]
  refine cbS Tryd.func19 rfl Tryd.call19 Tryd.ntmps19 fun en hsz hks hk0=>?_;refine enS ?_
  (repeat (first|refine walkS ?_|(refine callPre ?_;(first|refine callN_funS rfl ((l7Rule_c hD hM n).eqv (r1:=.d (bD true)) (by rw [hk])) ?_))|(refine callPreL ?_;(first|refine callL_funS rfl ((l7Rule_c hD hM n).eqv (r1:=.d (bD true)) (by rw [hk])) ?_))))
  refine aw_condS rfl (fun h2=>?_) (fun h2=>?_)
  ·(first|exact absurd trivial h2|exact absurd rfl h2|(cases h2;done)|omega|exact absurd h2 (by decide)|(simp at h2;done))
  refine walkS ?_
  refine aw_loopS [1,2,4] (fun κ s'=>[(κ,keyOf (s'.f 5))]) (fun κ x=>[(6,.d (iD (x.1:Nat))),(5,.own κ 3 1 (x.2.map fun c=>[iD c]))]) [] (fun _ _=>[]) [48] (fun κ x=>[(κ,some (x.2.length,3,1))]) (fun x:Nat × List Int=>x.1≤n+1∧x.2=depS D x.1) (fun x=>n+1 - x.1) ((0,[])) hks (fun _=>rfl) ⟨Nat.zero_le _,rfl⟩ wkS ?_;intro x hx;refine headS ?_
  obtain ⟨y,acc⟩:=x
  simp only at hx ⊢
  obtain ⟨hx1,rfl⟩:=hx
  refine walkS ?_
  refine aw_condS rfl (fun hj=>?_) (fun hj=>?_)
  ·have hx':y<D.length:=by omega
   obtain ⟨r,hr⟩:∃ r,D[y]?=some r:=⟨_,List.getElem?_eq_getElem hx'⟩
   have G:GoodR D y r:=good_of hV hr
   have hrb:=hD.rule r (List.mem_of_getElem? hr)
   have hrD:=ruleD_get hr
   have hlk:=hrb.lk
   have hbd:=depS_bd D y
   have hlen:=depS_len D y
   have hgo:∀ m,topK (depS D y) 0 r.kids=m→depS D y++[m+1]=depS D (y+1):=fun m hm=>by
    rw [depS,hrD,hm]
   refine walkS ?_
   refine aw_loopS [1,2,4,5,6] (fun _ _=>[]) (fun _ z=>[(8,.d (iD (z.1:Nat))),(7,.d (iD z.2))]) [] (fun _ _=>[]) [] (fun _ _=>[]) (fun z:Nat × Int=>z.1≤r.kids.length∧z.2=topK (depS D y) 0 (r.kids.take z.1)) (fun z=>r.kids.length - z.1) ((0,0)) hks (fun _=>rfl) ⟨Nat.zero_le _,rfl⟩ wkS ?_;intro x hx;refine headS ?_
   obtain ⟨j,m⟩:=x
   simp only at hx ⊢
   obtain ⟨hx1,hx2⟩:=hx
   refine walkS ?_
   refine aw_condS rfl (fun hj=>?_) (fun hj=>?_)
   ·have hjl:j<r.kids.length:=by omega
    have i2:r.kids[j]?=some r.kids[j]:=List.getElem?_eq_getElem hjl
    have hs:=topN_take (ts:=depS D y) (a:=0) hjl
    obtain ⟨g3,g4⟩:=G.kid j hjl
    generalize r.kids[j]=ke at *
    have hat:(depS D y)[ke.toNat]?=some (atT (depS D y) ke):=by
     have:ke.toNat<(depS D y).length:=by omega
     simp [this,atT,List.getD]
    (repeat (first|refine walkS ?_|refine cS (maxS_c m (atT (depS D y) ke)) ?_))
    refine ⟨(j+1,maxF m (atT (depS D y) ke)),⟨by simp only;omega,by simp only;rw [hs,hx2]⟩,by simp only;omega,?_⟩
    exact wkS
   ·rw [List.take_of_length_le (by omega)] at hx2
    have hb:=topK_bd hbd (by omega) r.kids 0 (by omega)
    rw [←hx2] at hb
    refine walkS ?_
    refine ⟨(y+1,depS D y++[m+1]),⟨by simp only;omega,hgo m hx2.symm⟩,by simp only;omega,?_⟩
    exact wkS
  ·obtain rfl:y=n+1:=by omega
   have hat:(depS D (n+1))[n]?=some (atT (depS D D.length) n):=by
    obtain ⟨zs,hz⟩:=depS_pre D D.length (n+1) (by omega)
    have hl:n<(depS D (n+1)).length:=by rw [depS_len];omega
    rw [hz]
    have e:atT (depS D (n+1)++zs) (n:Int)=atT (depS D (n+1)) n:=atT_app (by omega)
    rw [e]
    simp [atT,List.getD,hl]
   refine walkS ?_
   (refine rtS Tryd.results19 ?_;exact ⟨_,_,.inl ⟨rfl,rfl⟩,List.nodup_nil,rfl⟩)
 ·have hk2:vKnown D i=false:=by simpa using hk
  rw [show depOf D i=0 from if_neg hk]
  refine cbS Tryd.func19 rfl Tryd.call19 Tryd.ntmps19 fun en hsz hks hk0=>?_;refine enS ?_
  (repeat (first|refine walkS ?_|(refine callPre ?_;(first|refine callN_funS rfl ((l7Rule_c hD hM i).eqv (r1:=.d (bD false)) (by rw [hk2])) ?_))|(refine callPreL ?_;(first|refine callL_funS rfl ((l7Rule_c hD hM i).eqv (r1:=.d (bD false)) (by rw [hk2])) ?_))))
  refine aw_condS rfl (fun h2=>?_) (fun h2=>?_)
  ·refine walkS ?_
   (refine rtS Tryd.results19 ?_;exact ⟨_,_,.inl ⟨rfl,rfl⟩,List.nodup_nil,rfl⟩)
  ·(first|exact absurd trivial h2|exact absurd rfl h2|(cases h2;done)|omega|exact absurd h2 (by decide)|(simp at h2;done))
end
end Go.Proofs.YtomfggmmhkpeeaaDoor.Eng
