/-
 The engine, part 36: copying into a row that is ours.

 The engine, part 37: rows that an append makes and that are written afterwards; calls that read such rows.
-/
import Derived.Test.YtomfggmmhkpeeaaGreatDoorKE4
import Derived.Laws.IdiomCopy
import Derived.Test.YtomfggmmhkpeeaaGreatDoorKE30
set_option linter.unusedSimpArgs false
set_option linter.unusedVariables false
set_option linter.defProp false
set_option maxRecDepth 100000
set_option maxHeartbeats 4000000
namespace Go.Proofs.YtomfggmmhkpeeaaGreatDoor.Eng
open Go Go.RowKit

section
variable {P:Program}{en:En}{ops:Array Oper}{o:Oper}{l:List Oper}{K:St→Prop}{s:St}
end
end Go.Proofs.YtomfggmmhkpeeaaGreatDoor.Eng
namespace Go.Proofs.YtomfggmmhkpeeaaGreatDoor.Eng
open Go Go.RowKit

section
variable {P:Program}{o:Oper}{ρ:Operand→A}{m:Mem}{κ:Nat}{t e:TypeId}
def argT (k z:Nat) (es:List (List D)):A→Option A
 | .arr j z' n=>if j=k∧z'=z∧n=es.length then some (.d (.sl z es)) else none
 | x=>argOf none x
def argsT (k z:Nat) (es:List (List D)):List A→Option (List A)
 | []=>some []
 | x::xs=>match argT k z es x,argsT k z es xs with
  | some y,some ys=>some (y::ys)
  | _,_=>none
def withBox (C:CellR) (b:Nat) (vs:List Value):CellR:=fun b' o u=>C b' o u∨(b'=b∧vs[o]?=some u)
end
section
variable {P:Program}{en:En}{ops:Array Oper}{o:Oper}{l:List Oper}{K:St→Prop}{s:St}
theorem aw_ownI {c:Code}{K:Exit→St→Prop} (t k z:Nat) (e:TypeId) (es:List (List D)) (h1:s.f t=.own k e z es) (h2:(lk none s.al k).isSome=true) (hf:flatEs es) (hX:∀ b,¬en.X b)
  (h:AWs P en c K { s with fr:=(t,.d (.iv (fun b=>en.w.heap.size≤b) (.sl z es)))::s.fr }):AWs P en c K s:=fun a w ⟨G,hG⟩=>by
 refine h a w ⟨G,sim_say (fun u hr=>?_) (fun _ _=>by unfold A.lt;trivial) hG⟩
 rw [h1] at hr
 unfold RepA at hr ⊢
 rw [repD_iv]
 unfold RepD
 rcases hr with ⟨_,rfl,rfl⟩|⟨b,hE,rfl,q1,q2,q3⟩
 ·exact ⟨none,0,rfl,Nat.le_refl _,by decide,.inl rfl⟩
 ·refine ⟨_,G.cp k,rfl,q1,q2,.inr ⟨b,0,rfl,repEs_on ?_ hf q3⟩⟩
  exact (hG.lv b ⟨k,.inr h2,hE⟩).resolve_right (hX b)
end
end Go.Proofs.YtomfggmmhkpeeaaGreatDoor.Eng
