/-
 The last rule.
-/
import Derived.Test.YtecdbogicpffeabDoorKTy
import Derived.Test.YtecdbogicpffeabDoorKN0
import Derived.Test.YtecdbogicpffeabDoorKE3
set_option linter.unusedSimpArgs false
set_option linter.unusedVariables false
set_option linter.defProp false
set_option maxRecDepth 100000
set_option maxHeartbeats 4000000
namespace Go.Proofs.YtecdbogicpffeabDoor.Eng
open Go Go.RowKit

section
variable {M:Nat}{D:List RuleD}
private def tyF:=ai (ai (ai tg25 tg30) (ai tg52 (ai tg53 tg32))) (ai (ai tg61 tg3) (ai tg4 (ai tg5 tg9)))
theorem rootI_c (hD:DB M D) (hM:M≤1048576):AC Tryd.prog 18 [.d (encD D)] none (fun r' _=>r'=.d (iD ((D.length:Int) - 1))):=by
 have hl:=hD.len
 refine cbS Tryd.func18 rfl Tryd.call18 Tryd.ntmps18 fun en hsz hks hk0=>?_;refine enS ?_
 refine walkS ?_
 (refine rtS Tryd.results18 ?_;exact ⟨_,_,.inl ⟨rfl,rfl⟩,List.nodup_nil,rfl⟩)
theorem rootS_c (hD:DB M D) (hM:M≤1048576):AC Tryd.prog 14 [.d (encD D)] none (fun r' _=>r'=.d (iD ((D.length:Int) - 1))):=by
 have hl:=hD.len
 refine cbS Tryd.func14 rfl Tryd.call14 Tryd.ntmps14 fun en hsz hks hk0=>?_;refine enS ?_
 refine walkS ?_
 (refine rtS Tryd.results14 ?_;exact ⟨_,_,.inl ⟨rfl,rfl⟩,List.nodup_nil,rfl⟩)
end
end Go.Proofs.YtecdbogicpffeabDoor.Eng
