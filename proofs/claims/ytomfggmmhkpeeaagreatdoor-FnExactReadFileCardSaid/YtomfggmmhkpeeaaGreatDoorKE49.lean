/-
 The engine, part 49: calls that answer with data in new blocks, in regions that draw their order.
-/
import Derived.Test.YtomfggmmhkpeeaaGreatDoorKE30
set_option linter.unusedSimpArgs false
set_option linter.unusedVariables false
set_option linter.defProp false
set_option maxRecDepth 100000
set_option maxHeartbeats 4000000
namespace Go.Proofs.YtomfggmmhkpeeaaGreatDoor.Eng
open Go Go.RowKit

section
variable {P:Program}{ops:Array Oper}{o:Oper}{l:List Oper}{s:St}{acc:List Nat}{K2:List Nat→St→Prop}
theorem ol_callN {N:Nat}{f:FuncId}{xs:Array Operand}{ats:Array TypeId}{as ys:List A}{Dn:Nat→D} (hg:match o.guard with|none=>True|some (g,want)=>guardB s ops g=some want) (ho:o.op=.call { callee:=.value (.func f),args:=xs,argTypes:=ats })
  (hc:ACN P f ys Dn) (h:OL P N ops l (acc++[2]) K2 ({ s with nx:=s.nx+16 }.set o.dst (.d (Dn N)))) (hm:∀ m n,m≤n→∀ (C:CellR) u,RepD C (Dn n) u→RepD C (Dn m) u:=by first|exact anti_iv|assumption) (ha:xs.toList.map (ev s.f)=as:=by exact evT) (hy:argsOf none as=some ys:=by exact rfl):OL P N ops (o::l) acc K2 s:=by
 refine ⟨2,_,?_,(St.set_nx _ _ _).trans rfl,h⟩
 rw [St.set_f,St.set_mem,St.mem_bump (s:=s) (h:=rfl)]
 refine .run (fun g want hg'=>?_) (by rw [ho];exact .callN (by rw [ha];exact hy) hc.acd hm)
 rw [hg'] at hg
 simp only at hg
 unfold guardB at hg
 split at hg
 ·rename_i t ht
  refine ⟨t,ht,?_⟩
  split at hg
  ·rename_i b hb
   show s.f t=_
   rw [hb,Option.some.inj hg]
  ·cases hg
 ·cases hg
end
end Go.Proofs.YtomfggmmhkpeeaaGreatDoor.Eng
