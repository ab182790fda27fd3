/-
 The law: RepairText.
-/
import Derived.Test.YtndnefealooolaaGreatDoorKL
import Derived.Test.YtndnefealooolaaGreatDoorKRT2
set_option linter.unusedSimpArgs false
set_option linter.unusedVariables false
set_option linter.defProp false
set_option maxRecDepth 100000
set_option maxHeartbeats 4000000
namespace Go.Proofs.YtndnefealooolaaGreatDoor.Eng
open Go Go.RowKit

private def tyF:=ai (ai (ai tg22 (ai tg24 tg45)) (ai tg57 (ai tg65 tg26))) (ai (ai tg47 (ai tg96 tg97)) (ai (ai tg3 tg4) (ai tg5 tg9)))
theorem lawRepairText_c {D:List RuleD} (hD:DB 9223372036854775807 D) {b:List UInt8} (hb0:b.length≤9223372036854775807):AC Tryz.prog 5 [.d (encD D),.d (encB b)] none (fun r' _=>r'=.d (bD true)):=by
 refine cbS Tryz.func5 rfl Tryz.call5 Tryz.ntmps5 fun en hsz hks hk0=>?_;refine enS ?_
 refine walkS ?_
 refine aw_condS rfl (fun h0=>?_) (fun h0=>?_)
 ·refine walkS ?_
  (refine rtS Tryz.results5 ?_;exact ⟨_,_,.inl ⟨rfl,rfl⟩,List.nodup_nil,rfl⟩)
 have hb:b.length≤1048576:=by omega
 (repeat (first|refine walkS ?_|(refine callPre ?_;(first|refine callN_funS rfl (szDescription_c hD 1048576 (by omega)) ?_))|(refine callPreL ?_;(first|refine callL_funS rfl (szDescription_c hD 1048576 (by omega)) ?_))))
 refine aw_condS rfl (fun h1=>?_) (fun h1=>?_)
 ·refine walkS ?_
  (refine rtS Tryz.results5 ?_;exact ⟨_,_,.inl ⟨rfl,rfl⟩,List.nodup_nil,rfl⟩)
 have hDM:DB 1048576 D:=lftDs_ge (x:=1048576) (by omega) (by omega) (by omega)
 have HS:=repTS_c hDM (Nat.le_refl _) hb
 have HI:=repTI_c hDM (Nat.le_refl _) hb
 generalize rtP (fileP D) b=s at *
 have w2:decide (s=s)=true:=decide_eq_true rfl
 (repeat (first|refine ctlS ?_|(refine ol_go ?_ (fun K1 hK1=>?_);exact trS;refine evS ?_;(try simp only [w2]);refine hK1 _ _ ?_;clear hK1 K1)|(refine ow_go ?_ dsS (fun K1 hK1=>?_);exact trS;refine evS ?_;(try simp only [w2]);refine hK1 _ ?_;clear hK1 K1)|refine skipS ?_|refine cS (toByteS_c hb) ?_|refine cS (HS) ?_|refine cS (HI) ?_|(refine callPre ?_;(first|refine callN_funS rfl (toDescription_c hDM (Nat.le_refl _)) ?_))|(refine callPreL ?_;(first|refine callL_funS rfl (toDescription_c hDM (Nat.le_refl _)) ?_))))
 refine aw_condF rfl ?_
 (repeat (first|refine walkS ?_|refine cS (toByteS_c hb) ?_|refine cS (eqByteS_c hb) ?_|(refine callPre ?_;(first|refine callN_funS rfl (toDescription_c hDM (Nat.le_refl _)) ?_|refine callN_funS rfl (eqDescription_c hDM (Nat.le_refl _)) ?_))|(refine callPreL ?_;(first|refine callL_funS rfl (toDescription_c hDM (Nat.le_refl _)) ?_|refine callL_funS rfl (eqDescription_c hDM (Nat.le_refl _)) ?_))))
 refine aw_condS rfl (fun hc=>?_) (fun hc=>?_)
 ·(first|exact absurd trivial hc|exact absurd rfl hc|(cases hc;done)|omega|exact absurd hc (by decide)|(simp at hc;done))
 (repeat (first|refine walkS ?_|refine cS (toByteS_c hb) ?_|refine cS (eqByteS_c hb) ?_|(refine callPre ?_;(first|refine callN_funS rfl (toDescription_c hDM (Nat.le_refl _)) ?_|refine callN_funS rfl (eqDescription_c hDM (Nat.le_refl _)) ?_))|(refine callPreL ?_;(first|refine callL_funS rfl (toDescription_c hDM (Nat.le_refl _)) ?_|refine callL_funS rfl (eqDescription_c hDM (Nat.le_refl _)) ?_))))
 refine aw_condS rfl (fun hc=>?_) (fun hc=>?_)
 ·(first|exact absurd trivial hc|exact absurd rfl hc|(cases hc;done)|omega|exact absurd hc (by decide)|(simp at hc;done))
 ·refine walkS ?_
  (refine rtS Tryz.results5 ?_;exact ⟨_,_,.inl ⟨rfl,rfl⟩,List.nodup_nil,rfl⟩)
end Go.Proofs.YtndnefealooolaaGreatDoor.Eng
