/-
 The laws' limit of size.
-/
import Derived.Test.YtndnefealooolaaGreatDoorKNF
set_option linter.unusedSimpArgs false
set_option linter.unusedVariables false
set_option linter.defProp false
set_option maxRecDepth 100000
set_option maxHeartbeats 4000000
namespace Go.Proofs.YtndnefealooolaaGreatDoor.Eng
open Go Go.RowKit

private def tyF:=ai tg22 (ai tg3 tg5)
theorem bigB_c (B:List UInt8):AC Tryz.prog 7 [.d (encB B)] none (fun r' _=>r'=.d (bD (decide ((1048576:Int)<B.length)))):=by
 refine cbS Tryz.func7 rfl Tryz.call7 Tryz.ntmps7 fun en hsz hks hk0=>?_;refine enS ?_
 refine walkS ?_
 (refine rtS Tryz.results7 ?_;exact ⟨_,_,.inl ⟨rfl,rfl⟩,List.nodup_nil,rfl⟩)
end Go.Proofs.YtndnefealooolaaGreatDoor.Eng
