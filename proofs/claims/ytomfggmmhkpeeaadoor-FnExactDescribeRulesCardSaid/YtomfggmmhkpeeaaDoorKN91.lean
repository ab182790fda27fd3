/-
 Greatest sizes: MaxSize, both sides.
-/
import Derived.Test.YtomfggmmhkpeeaaDoorKN90
set_option linter.unusedSimpArgs false
set_option linter.unusedVariables false
set_option linter.defProp false
set_option maxRecDepth 100000
set_option maxHeartbeats 4000000
namespace Go.Proofs.YtomfggmmhkpeeaaDoor.Eng
open Go Go.RowKit
section
variable {D:List RuleD}{M:Nat}
noncomputable def maxOf (D:List RuleD) (i:Int):Int:=if vKnown D i=true then min 400 (atT (grI D D.length) i) else 0
theorem maxOf_in (D:List RuleD) (i:Int):0≤maxOf D i∧maxOf D i≤400:=by
 unfold maxOf
 split
 ·rename_i hk
  unfold vKnown at hk
  simp only [Bool.and_eq_true,decide_eq_true_eq] at hk
  have:=atT_in (grI_in (descP_of hk.1) D.length (Nat.le_refl _)) i
  omega
 ·omega
private def tyF:=ai (ai (ai tg59 tg39) (ai tg26 (ai tg28 tg40))) (ai (ai tg30 (ai tg42 tg3)) (ai tg4 (ai tg5 tg9)))
theorem maxSizeI_c (hD:DB M D) (hM:M≤1048576) (i:Int):AC Tryd.prog 27 [.d (encD D),.d (iD i)] none (fun r' _=>r'=.d (iD (maxOf D i))):=by
 by_cases hk:vKnown D i=true
 ·have hk':=hk
  unfold vKnown at hk'
  simp only [Bool.and_eq_true,decide_eq_true_eq] at hk'
  obtain ⟨hv,h0,h1⟩:=hk'
  have hV:descP D:=descP_of hv
  have h24:D.length≤24:=hV.1.2
  have HL:=greatI_c hD hM hV h24
  have hat:((tabG D D.length).map iD)[i.toNat]?=some (iD (atT (grI D D.length) i)):=by
   have e1:atT (tabG D D.length) i=atT (grI D D.length) i:=atT_app (by rw [grI_len];omega)
   rw [←e1]
   have:i.toNat<(tabG D D.length).length:=by rw [tabG_len h24];omega
   simp [atT,List.getD,this]
  have hin:=atT_in (grI_in hV D.length (Nat.le_refl _)) i
  have hm:=(minI_c 400 (atT (grI D D.length) i)).eqv (r1:=.d (iD (min 400 (atT (grI D D.length) i)))) (by rw [minF_eq])
  rw [show maxOf D i=min 400 (atT (grI D D.length) i) from if_pos hk]
  refine cbS Tryd.func27 rfl Tryd.call27 Tryd.ntmps27 fun en hsz hks hk0=>?_;refine enS ?_
  (repeat (first|refine walkS ?_|(refine callPre ?_;(first|refine callN_funS rfl ((known_c hD hM i).eqv (r1:=.d (bD true)) (by rw [hk])) ?_))|(refine callPreL ?_;(first|refine callL_funS rfl ((known_c hD hM i).eqv (r1:=.d (bD true)) (by rw [hk])) ?_))))
  refine aw_condS rfl (fun h2=>?_) (fun h2=>?_)
  ·(first|exact absurd trivial h2|exact absurd rfl h2|(cases h2;done)|omega|exact absurd h2 (by decide)|(simp at h2;done))
  (repeat (first|refine walkS ?_|refine cS (HL) ?_))
  refine ow_indexA (e:=3) (m:=24) (n:=i) (c:=iD (atT (grI D D.length) i)) ?_ dsS rfl rfl rfl (by kernel_rfl) (by kernel_rfl) h0 (by omega) hat ?_
  ·first|exact trivial|exact rfl
  simp only [St.set]
  (repeat (first|refine walkS ?_|refine cS (hm) ?_))
  (refine rtS Tryd.results27 ?_;exact ⟨_,_,.inl ⟨rfl,rfl⟩,List.nodup_nil,rfl⟩)
 ·have hk2:vKnown D i=false:=by simpa using hk
  rw [show maxOf D i=0 from if_neg hk]
  refine cbS Tryd.func27 rfl Tryd.call27 Tryd.ntmps27 fun en hsz hks hk0=>?_;refine enS ?_
  (repeat (first|refine walkS ?_|(refine callPre ?_;(first|refine callN_funS rfl ((known_c hD hM i).eqv (r1:=.d (bD false)) (by rw [hk2])) ?_))|(refine callPreL ?_;(first|refine callL_funS rfl ((known_c hD hM i).eqv (r1:=.d (bD false)) (by rw [hk2])) ?_))))
  refine aw_condS rfl (fun h2=>?_) (fun h2=>?_)
  ·refine walkS ?_
   (refine rtS Tryd.results27 ?_;exact ⟨_,_,.inl ⟨rfl,rfl⟩,List.nodup_nil,rfl⟩)
  ·(first|exact absurd trivial h2|exact absurd rfl h2|(cases h2;done)|omega|exact absurd h2 (by decide)|(simp at h2;done))
theorem maxSizeS_c (hD:DB M D) (hM:M≤1048576) (i:Int):AC Tryd.prog 18 [.d (encD D),.d (iD i)] none (fun r' _=>r'=.d (iD (maxOf D i))):=by
 by_cases hk:vKnown D i=true
 ·have hk':=hk
  unfold vKnown at hk'
  simp only [Bool.and_eq_true,decide_eq_true_eq] at hk'
  obtain ⟨hv,h0,h1⟩:=hk'
  have hV:descP D:=descP_of hv
  have h24:D.length≤24:=hV.1.2
  have HL:=maxsS_t hD hM hV h24
  have hl:=grS_len D D.length
  have hat:(grS D D.length)[i.toNat]?=some (min 400 (atT (grI D D.length) i)):=by
   have:i.toNat<(grS D D.length).length:=by omega
   rw [←atT_cut,←grS_cut hV D.length (Nat.le_refl _)]
   simp [this,atT,List.getD]
  rw [show maxOf D i=min 400 (atT (grI D D.length) i) from if_pos hk]
  refine cbS Tryd.func18 rfl Tryd.call18 Tryd.ntmps18 fun en hsz hks hk0=>?_;refine enS ?_
  (repeat (first|refine walkS ?_|(refine callPre ?_;(first|refine callN_funS rfl ((l7Rule_c hD hM i).eqv (r1:=.d (bD true)) (by rw [hk])) ?_))|(refine callPreL ?_;(first|refine callL_funS rfl ((l7Rule_c hD hM i).eqv (r1:=.d (bD true)) (by rw [hk])) ?_))))
  refine aw_condS rfl (fun h2=>?_) (fun h2=>?_)
  ·(first|exact absurd trivial h2|exact absurd rfl h2|(cases h2;done)|omega|exact absurd h2 (by decide)|(simp at h2;done))
  (repeat (first|refine walkS ?_|refine cS (HL) ?_))
  (refine rtS Tryd.results18 ?_;exact ⟨_,_,.inl ⟨rfl,rfl⟩,List.nodup_nil,rfl⟩)
 ·have hk2:vKnown D i=false:=by simpa using hk
  rw [show maxOf D i=0 from if_neg hk]
  refine cbS Tryd.func18 rfl Tryd.call18 Tryd.ntmps18 fun en hsz hks hk0=>?_;refine enS ?_
  (repeat (first|refine walkS ?_|(refine callPre ?_;(first|refine callN_funS rfl ((l7Rule_c hD hM i).eqv (r1:=.d (bD false)) (by rw [hk2])) ?_))|(refine callPreL ?_;(first|refine callL_funS rfl ((l7Rule_c hD hM i).eqv (r1:=.d (bD false)) (by rw [hk2])) ?_))))
  refine aw_condS rfl (fun h2=>?_) (fun h2=>?_)
  ·refine walkS ?_
   (refine rtS Tryd.results18 ?_;exact ⟨_,_,.inl ⟨rfl,rfl⟩,List.nodup_nil,rfl⟩)
  ·(first|exact absurd trivial h2|exact absurd rfl h2|(cases h2;done)|omega|exact absurd h2 (by decide)|(simp at h2;done))
end
end Go.Proofs.YtomfggmmhkpeeaaDoor.Eng
