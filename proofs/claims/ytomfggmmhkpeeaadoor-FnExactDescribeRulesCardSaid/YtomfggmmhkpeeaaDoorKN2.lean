/-
 Items of a rule.
-/
import Derived.Test.YtomfggmmhkpeeaaDoorKTy
import Derived.Test.YtomfggmmhkpeeaaDoorKN0
import Derived.Test.YtomfggmmhkpeeaaDoorKE3
set_option linter.unusedSimpArgs false
set_option linter.unusedVariables false
set_option linter.defProp false
set_option maxRecDepth 100000
set_option maxHeartbeats 4000000
namespace Go.Proofs.YtomfggmmhkpeeaaDoor.Eng
open Go Go.RowKit

theorem tagIx_lt {l:List Int}{n:Int}{k:Nat} (h:tagIx l n=some k):k<l.length:=by
 unfold tagIx at h
 rw [List.findIdx?_eq_some_iff_getElem] at h
 exact h.1
theorem itemK_5 {r:RuleD}{n:Int}{i:Nat} (h:r.kind=5):itemK r n i=kid1 r:=by simp [itemK,h]
theorem itemK_6 {r:RuleD}{n:Int}{i:Nat} (h:r.kind=6) (hi:i<r.kids.length):itemK r n i=r.kids[i]:=by simp [itemK,h,hi]
theorem itemK_7 {r:RuleD}{n:Int}{i k:Nat} (h:r.kind=7) (hk:tagIx r.tags n=some k) (hl:k+1<r.kids.length):itemK r n i=r.kids[k+1]:=by simp [itemK,h,hk,hl]
theorem itemK_7n {r:RuleD}{n:Int}{i:Nat} (h:r.kind=7) (hk:tagIx r.tags n=none):itemK r n i=-1:=by simp [itemK,h,hk]
theorem itemK_8 {r:RuleD}{n:Int}{i:Nat} (h:r.kind=8∨r.kind=9):itemK r n i=kid0 r:=by
 unfold itemK
 rw [if_neg (by omega),if_neg (by omega),if_neg (by omega),if_pos h]
end Go.Proofs.YtomfggmmhkpeeaaDoor.Eng
