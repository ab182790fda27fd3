/-
 The reference: checking.
-/
import Derived.Test.YtecdbogicpffeabDoorKN9
set_option linter.unusedSimpArgs false
set_option linter.unusedVariables false
set_option linter.defProp false
set_option maxRecDepth 100000
set_option maxHeartbeats 4000000
namespace Go.Proofs.YtecdbogicpffeabDoor.Eng
open Go Go.RowKit

noncomputable def validP (D:List RuleD) (b:List UInt8):Bool:=(readF D b).2.2==0 || (readF D b).2.2==1
noncomputable def longP (D:List RuleD) (b:List UInt8):Nat→Int
 | 0=>if validP D []=true then 0 else -1
 | n+1=>if validP D (b.take (n+1))=true then ((n+1:Nat):Int) else longP D b n

section
variable {M:Nat}{D:List RuleD}{b:List UInt8}


private def tyF:=ai (ai (ai tg25 (ai tg30 tg52)) (ai tg53 (ai tg56 tg32))) (ai (ai tg58 (ai tg61 tg3)) (ai tg4 (ai tg5 tg9)))
theorem checkFileS_c (hD:DB M D) (hM:M≤1048576) (hb:b.length≤1048576):AC Tryd.prog 13 [.d (encD D),.d (encB b)] none (fun r' _=>r'=chR (readF D b)):=by
 refine cbS Tryd.func13 rfl Tryd.call13 Tryd.ntmps13 fun en hsz hks hk0=>?_;refine enS ?_
 (repeat (first|refine walkS ?_|refine cS (readFile_c hD hM hb) ?_))
 (refine rtS Tryd.results13 ?_;exact ⟨_,_,.inl ⟨rfl,rfl⟩,List.nodup_nil,rfl⟩)




end
end Go.Proofs.YtecdbogicpffeabDoor.Eng
