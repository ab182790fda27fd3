/-
 The law: ReadNumber.
-/
import Derived.Test.YtomfggmmhkpeeaaGreatDoorKL
import Derived.Test.YtomfggmmhkpeeaaGreatDoorKNP4
set_option linter.unusedSimpArgs false
set_option linter.unusedVariables false
set_option linter.defProp false
set_option maxRecDepth 100000
set_option maxHeartbeats 4000000
namespace Go.Proofs.YtomfggmmhkpeeaaGreatDoor.Eng
open Go Go.RowKit

theorem numE_tup (D:List RuleD) (x:Option (Nat × V)):∃ (m:Int) (ok:Bool),numE D x=.tup [iD m,bD ok]:=by
 cases x with
 | none=>exact ⟨_,_,rfl⟩
 | some y=>
  obtain ⟨n,m,bs,vs⟩:=y
  unfold numE
  dsimp only
  split
  ·exact ⟨_,_,rfl⟩
  ·split
   ·exact ⟨_,_,rfl⟩
   ·exact ⟨_,_,rfl⟩
private def tyF:=ai (ai (ai tg25 (ai tg22 tg32)) (ai tg86 (ai tg87 tg24))) (ai (ai tg34 (ai tg89 tg91)) (ai (ai tg3 tg4) (ai tg5 tg9)))
theorem lawReadNumber_c {D:List RuleD} (hD:DB 9223372036854775807 D) {b:List UInt8} (hb0:b.length≤9223372036854775807) {s:ByteArray} (hs0:s.size≤9223372036854775807):AC Tryz.prog 7 [.d (encD D),.d (encB b),.d (sD s)] none (fun r' _=>r'=.d (bD true)):=by
 refine cbS Tryz.func7 rfl Tryz.call7 Tryz.ntmps7 fun en hsz hks hk0=>?_;refine enS ?_
 refine walkS ?_
 refine aw_condS rfl (fun h0=>?_) (fun h0=>?_)
 ·refine walkS ?_
  (refine rtS Tryz.results7 ?_;exact ⟨_,_,.inl ⟨rfl,rfl⟩,List.nodup_nil,rfl⟩)
 have hb:b.length≤1048576:=by omega
 refine walkS ?_
 refine aw_condS rfl (fun h2=>?_) (fun h2=>?_)
 ·refine walkS ?_
  (refine rtS Tryz.results7 ?_;exact ⟨_,_,.inl ⟨rfl,rfl⟩,List.nodup_nil,rfl⟩)
 have hs:s.size≤1048576:=by omega
 (repeat (first|refine walkS ?_|(refine callPre ?_;(first|refine callN_funS rfl (szDescription_c hD 1048576 (by omega)) ?_))|(refine callPreL ?_;(first|refine callL_funS rfl (szDescription_c hD 1048576 (by omega)) ?_))))
 refine aw_condS rfl (fun h1=>?_) (fun h1=>?_)
 ·refine walkS ?_
  (refine rtS Tryz.results7 ?_;exact ⟨_,_,.inl ⟨rfl,rfl⟩,List.nodup_nil,rfl⟩)
 have hDM:DB 1048576 D:=lftDs_ge (x:=1048576) (by omega) (by omega) (by omega)
 have HS:=numbS_c hDM (Nat.le_refl _) (b:=b) hs
 have HI:=numbI_c hDM (Nat.le_refl _) (b:=b) hs
 obtain ⟨m,ok,he⟩:=numE_tup D (partP D b s)
 rw [he] at HS HI
 have n1:(!true)=false:=rfl
 have n3:(!ok==ok)=false:=by cases ok<;>rfl
 (repeat (first|refine walkS ?_|refine cS (toByteS_c hb) ?_|refine cS (HS) ?_|(refine callPre ?_;(first|refine callN_funS rfl (toDescription_c hDM (Nat.le_refl _)) ?_))|(refine callPreL ?_;(first|refine callL_funS rfl (toDescription_c hDM (Nat.le_refl _)) ?_))|refine aw_condT rfl ?_|refine aw_condF rfl ?_))
 (repeat (first|refine ctlS ?_|(refine ol_go ?_ (fun K1 hK1=>?_);exact trS;refine evS ?_;(try simp only [n1,n3,bne_self_eq_false]);refine hK1 _ _ ?_;clear hK1 K1)|(refine ow_go ?_ dsS (fun K1 hK1=>?_);exact trS;refine evS ?_;(try simp only [n1,n3,bne_self_eq_false]);refine hK1 _ ?_;clear hK1 K1)|refine skipS ?_|refine cS (toByteS_c hb) ?_|refine cS (HI) ?_|(refine callPre ?_;(first|refine callN_funS rfl (toDescription_c hDM (Nat.le_refl _)) ?_))|(refine callPreL ?_;(first|refine callL_funS rfl (toDescription_c hDM (Nat.le_refl _)) ?_))|refine aw_condT rfl ?_|refine aw_condF rfl ?_))
 (repeat (first|refine ctlS ?_|(refine ol_go ?_ (fun K1 hK1=>?_);exact trS;refine evS ?_;(try simp only [n1]);refine hK1 _ _ ?_;clear hK1 K1)|(refine ow_go ?_ dsS (fun K1 hK1=>?_);exact trS;refine evS ?_;(try simp only [n1]);refine hK1 _ ?_;clear hK1 K1)|refine skipS ?_|refine cS (toByteS_c hb) ?_|refine cS (eqByteS_c hb) ?_|(refine callPre ?_;(first|refine callN_funS rfl (toDescription_c hDM (Nat.le_refl _)) ?_|refine callN_funS rfl (eqDescription_c hDM (Nat.le_refl _)) ?_))|(refine callPreL ?_;(first|refine callL_funS rfl (toDescription_c hDM (Nat.le_refl _)) ?_|refine callL_funS rfl (eqDescription_c hDM (Nat.le_refl _)) ?_))|refine aw_condT rfl ?_|refine aw_condF rfl ?_))
 (refine rtS Tryz.results7 ?_;exact ⟨_,_,.inl ⟨rfl,rfl⟩,List.nodup_nil,rfl⟩)
end Go.Proofs.YtomfggmmhkpeeaaGreatDoor.Eng
