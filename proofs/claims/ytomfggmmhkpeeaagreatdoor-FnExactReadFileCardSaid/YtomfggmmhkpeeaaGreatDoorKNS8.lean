/-
 The program: ReadFile, its value in blocks of its own.
-/
import Derived.Test.YtomfggmmhkpeeaaGreatDoorKNS8A
import Derived.Test.YtomfggmmhkpeeaaGreatDoorKNRF
import Derived.Test.YtomfggmmhkpeeaaGreatDoorKE49
set_option linter.unusedSimpArgs false
set_option linter.unusedVariables false
set_option linter.defProp false
set_option maxRecDepth 100000
set_option maxHeartbeats 4000000
namespace Go.Proofs.YtomfggmmhkpeeaaGreatDoor.Eng
open Go Go.RowKit

section
variable {M:Nat}{D:List RuleD}{b:List UInt8}
private def tyF:=ai (ai (ai tg25 (ai tg27 tg32)) (ai (ai tg86 tg87) (ai tg29 tg34))) (ai (ai (ai tg89 tg3) (ai tg4 tg5)) (ai (ai tg9 encWi_len) (ai mkAgg_W cells1_W)))
theorem readFileW_c (hD:DB M D) (hM:M≤1048576) (hb:b.length≤1048576):ACN Tryz.prog 21 [.d (encD D),.d (encB b)] (rdWR (readF D b)):=by
 have HV:=readValueW_c hD hM hb ((D.length:Int) - 1) 0
 have hf:readF D b=if (readV D b ((D.length:Int) - 1) 0).2.2=0∧(readV D b ((D.length:Int) - 1) 0).2.1<b.length then (V0,(readV D b ((D.length:Int) - 1) 0).2.1,7) else readV D b ((D.length:Int) - 1) 0:=rfl
 generalize readV D b ((D.length:Int) - 1) 0=x at HV hf
 obtain ⟨v,q,c⟩:=x
 simp only at hf
 have hanti:=rdW_anti v (iD (q:Int)) (iD (c:Int))
 replace HV:ACN Tryz.prog 12 [.d (encD D),.d (iD ((D.length:Int) - 1)),.d (encB b),.d (iD 0)] (fun n0=>.tup [.agg (encWi (fun b=>n0≤b) v),iD (q:Int),iD (c:Int)]):=HV
 refine calls_bodyI Tryz.func21 rfl Tryz.call21 Tryz.ntmps21 (by simp) (by simp [ArgsOk]) fun en hsz hcok hX hks=>?_;refine enS ?_
 (repeat (first|refine walkS ?_|(refine ow_callFA ?_ dsS rfl (HV) ?_;exact trS;simp only [St.set,List.map_cons,List.map_nil])|(refine ol_callN ?_ rfl (HV) ?_;exact trS;simp only [St.set,List.map_cons,List.map_nil])|refine cS (rootI_c hD hM) ?_))
 (refine ow_gd rfl rfl dsS (fun hg K1 hK1=>?_) (fun hg=>?_);((try simp only [hg]);refine evS ?_;refine hK1 _ ?_;clear hK1 K1);rotate_left;(simp only [Bool.not_true,Bool.not_false] at hg;simp only [St.set,hg]);rotate_left)
 ·have hg':(c:Int)=0:=by simpa using hg
  refine walkS ?_
  refine aw_condS rfl (fun hc=>?_) (fun hc=>?_)
  ·refine walkS ?_
   (refine rtS Tryz.results21 ?_;refine ⟨_,[],.inr (.inr ⟨.tup [.agg [iD 0,.iv (fun b=>en.w.heap.size≤b) (encB []),.iv (fun b=>en.w.heap.size≤b) (.sp 3 [])],iD (q:Int),iD 7],_,rfl,rfl,rfl,?_⟩),List.nodup_nil,by rw [hf,if_pos (by constructor<;>omega)];rfl⟩;exact semS)
  ·refine walkS ?_
   (refine rtS Tryz.results21 ?_;refine ⟨_,[],.inr (.inr ⟨.tup [.agg (encWi (fun b=>en.w.heap.size≤b) v),iD (q:Int),iD (c:Int)],_,rfl,rfl,rfl,?_⟩),List.nodup_nil,by rw [hf,if_neg (by omega)]⟩;exact semS)
 ·have hg':(c:Int)≠0:=by simpa using hg
  refine walkS ?_
  refine aw_condS rfl (fun hc=>?_) (fun hc=>?_)
  ·(first|exact absurd trivial hc|exact absurd rfl hc|(cases hc;done)|omega|exact absurd hc (by decide)|(simp at hc;done))
  ·refine walkS ?_
   (refine rtS Tryz.results21 ?_;refine ⟨_,[],.inr (.inr ⟨.tup [.agg (encWi (fun b=>en.w.heap.size≤b) v),iD (q:Int),iD (c:Int)],_,rfl,rfl,rfl,?_⟩),List.nodup_nil,by rw [hf,if_neg (by omega)]⟩;exact semS)
end
end Go.Proofs.YtomfggmmhkpeeaaGreatDoor.Eng
