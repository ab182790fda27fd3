/-
 The program's reader: ReadValue, ReadFile, IsFileOf.

 The program: ReadFile, IsFileOf; the reference's IsFileOf.
-/
import Derived.Test.YtomfggmmhkpeeaaGreatDoorKN32
import Derived.Test.YtomfggmmhkpeeaaGreatDoorKN23
import Derived.Test.YtomfggmmhkpeeaaGreatDoorKN9
set_option linter.unusedSimpArgs false
set_option linter.unusedVariables false
set_option linter.defProp false
set_option maxRecDepth 100000
set_option maxHeartbeats 4000000
namespace Go.Proofs.YtomfggmmhkpeeaaGreatDoor.Eng
open Go Go.RowKit

theorem mkItems_err {n:Int}{x:List V × Nat × Nat} (h:(mkItems n x).2.2≠0):(mkItems n x).1=V0:=by
 unfold mkItems at h ⊢
 split
 ·rename_i h0
  rw [if_pos h0] at h
  exact absurd rfl h
 ·rfl
theorem rd_err (D:List RuleD) (b:List UInt8):∀ (f rule p:Nat),(rd D b f rule p).2.2≠0→(rd D b f rule p).1=V0
 | 0,rule,p,_=>rfl
 | f+1,rule,p,h=>by
  have ITE:∀ (c:Prop) [Decidable c] (x y:V × Nat × Nat),(x.2.2≠0→x.1=V0)→(y.2.2≠0→y.1=V0)→(if c then x else y).2.2≠0→(if c then x else y).1=V0:=fun c _ x y hx hy=>by
   by_cases h:c
   ·rw [if_pos h];exact hx
   ·rw [if_neg h];exact hy
  have BA:∀ q n,(bytesAt b q n).2.2≠0→(bytesAt b q n).1=V0:=fun q n h=>by
   unfold bytesAt at h ⊢
   split
   ·rfl
   ·rename_i h0;rw [if_neg h0] at h;exact absurd rfl h
  revert h
  rw [rd]
  dsimp only
  generalize ruleD D rule=r
  refine ITE _ _ _ ?_ (ITE _ _ _ (fun _=>rfl) (ITE _ _ _ (BA _ _) (ITE _ _ _ ?_ (ITE _ _ _ mkItems_err (ITE _ _ _ ?_ (ITE _ _ _ ?_ (ITE _ _ _ ?_ ?_)))))))
  ·split
   ·exact fun h=>absurd rfl h
   ·exact fun _=>rfl
  ·split
   ·exact fun h=>absurd rfl h
   ·exact fun _=>rfl
  ·split
   ·exact fun _=>rfl
   ·split
    ·exact fun _=>rfl
    ·exact mkItems_err
  ·split
   ·exact fun _=>rfl
   ·exact ITE _ _ _ (fun _=>rfl) mkItems_err
  ·have h1:=mkItems_err (n:=0) (x:=rdItems (rd D b f) [(kid0 r).toNat] p)
   generalize mkItems 0 (rdItems (rd D b f) [(kid0 r).toNat] p)=x at *
   obtain ⟨v,q,c⟩:=x
   dsimp only
   refine ITE _ _ _ ?_ h1
   split
   ·exact fun _=>rfl
   ·exact ITE _ _ _ (fun h=>absurd rfl h) (fun _=>rfl)
  ·split
   ·exact fun _=>rfl
   ·exact ITE _ _ _ (BA _ _) (ITE _ _ _ (fun _=>rfl) mkItems_err)

section
variable {M:Nat}{D:List RuleD}{b:List UInt8}
private def tyF:=ai (ai (ai (ai tg25 tg27) (ai tg32 tg86)) (ai (ai tg87 tg29) (ai tg34 (ai tg59 tg68)))) (ai (ai (ai tg89 tg20) (ai tg3 (ai tg4 tg5))) (ai (ai tg57 tg61) (ai tg64 (ai tg66 tg9))))
end
end Go.Proofs.YtomfggmmhkpeeaaGreatDoor.Eng
namespace Go.Proofs.YtomfggmmhkpeeaaGreatDoor.Eng
open Go Go.RowKit

section
variable {M:Nat}{D:List RuleD}{b:List UInt8}
noncomputable def fileP (D:List RuleD) (b:List UInt8):Bool:=(((readF D b).2.2:Int)==0)


end
end Go.Proofs.YtomfggmmhkpeeaaGreatDoor.Eng
