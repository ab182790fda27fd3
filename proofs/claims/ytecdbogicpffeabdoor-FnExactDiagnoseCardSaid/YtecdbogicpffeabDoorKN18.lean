/-
 Checking files, the program's side: CheckFile, ValidPrefix, LongestValidPrefix.
-/
import Derived.Test.YtecdbogicpffeabDoorKNAX
import Derived.Test.YtecdbogicpffeabDoorKNB
set_option linter.unusedSimpArgs false
set_option linter.unusedVariables false
set_option linter.defProp false
set_option maxRecDepth 100000
set_option maxHeartbeats 4000000
namespace Go.Proofs.YtecdbogicpffeabDoor.Eng
open Go Go.RowKit

theorem readV_le (D:List RuleD) (b:List UInt8) (i p:Int):(readV D b i p).2.1≤b.length:=by
 unfold readV
 split
 ·rename_i h
  exact (rd_in D b D.length i.toNat p.toNat (by omega)).2
 ·exact Nat.zero_le _

section
variable {M:Nat}{D:List RuleD}{b:List UInt8}
private def tyF:=ai (ai (ai tg25 tg30) (ai tg52 (ai tg53 tg32))) (ai (ai tg61 (ai tg70 tg3)) (ai tg4 (ai tg5 tg9)))
theorem checkFileI_c (hD:DB M D) (hM:M≤1048576) (hb:b.length≤1048576):AC Tryd.prog 17 [.d (encD D),.d (encB b)] none (fun r' _=>r'=chR (readF D b)):=by
 have HC:=checkValueI_c hD hM hb ((D.length:Int) - 1) 0
 have hF:readF D b=if (readV D b ((D.length:Int) - 1) 0).2.2=0∧(readV D b ((D.length:Int) - 1) 0).2.1<b.length then (V0,(readV D b ((D.length:Int) - 1) 0).2.1,7) else readV D b ((D.length:Int) - 1) 0:=rfl
 have hle:=readV_le D b ((D.length:Int) - 1) 0
 generalize readV D b ((D.length:Int) - 1) 0=z at HC hF hle
 obtain ⟨v,q,c⟩:=z
 simp only at hF hle
 refine cbS Tryd.func17 rfl Tryd.call17 Tryd.ntmps17 fun en hsz hks hk0=>?_;refine enS ?_
 (repeat (first|refine walkS ?_|refine cS (rootI_c hD hM) ?_|refine cS (HC) ?_))
 (refine ow_gd rfl rfl dsS (fun hg K1 hK1=>?_) (fun hg=>?_);((try simp only [hg]);refine evS ?_;refine hK1 _ ?_;clear hK1 K1);rotate_left;(simp only [Bool.not_true,Bool.not_false] at hg;simp only [St.set,hg]);rotate_left)
 ·refine walkS ?_
  refine aw_condS rfl (fun h1=>?_) (fun h1=>?_)
  ·simp at hg
   refine walkS ?_
   (refine rtS Tryd.results17 ?_;exact ⟨_,_,.inl ⟨rfl,rfl⟩,List.nodup_nil,by rw [hF,if_pos ⟨by omega,by omega⟩];rfl⟩)
  ·simp at hg
   refine walkS ?_
   (refine rtS Tryd.results17 ?_;exact ⟨_,_,.inl ⟨rfl,rfl⟩,List.nodup_nil,by rw [hF,if_neg (by omega)]⟩)
 ·refine walkS ?_
  refine aw_condS rfl (fun h1=>?_) (fun h1=>?_)
  ·(first|exact absurd trivial h1|exact absurd rfl h1|(cases h1;done)|omega|exact absurd h1 (by decide)|(simp at h1;done))
  ·simp at hg
   refine walkS ?_
   (refine rtS Tryd.results17 ?_;exact ⟨_,_,.inl ⟨rfl,rfl⟩,List.nodup_nil,by rw [hF,if_neg (by omega)]⟩)


end
end Go.Proofs.YtecdbogicpffeabDoor.Eng
