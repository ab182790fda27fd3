/-
 The engine, part 36: copying into a row that is ours.

 The engine, part 37: rows that an append makes and that are written afterwards; calls that read such rows.
-/
import Derived.Test.YtaammoodcgfhpaaDoorKE4
import Derived.Laws.IdiomCopy
import Derived.Test.YtaammoodcgfhpaaDoorKE30
set_option linter.unusedSimpArgs false
set_option linter.unusedVariables false
set_option linter.defProp false
set_option maxRecDepth 100000
set_option maxHeartbeats 4000000
namespace Go.Proofs.YtaammoodcgfhpaaDoor.Eng
open Go Go.RowKit

section
variable {P:Program}{en:En}{ops:Array Oper}{o:Oper}{l:List Oper}{K:St→Prop}{s:St}
end
end Go.Proofs.YtaammoodcgfhpaaDoor.Eng
namespace Go.Proofs.YtaammoodcgfhpaaDoor.Eng
open Go Go.RowKit

section
variable {P:Program}{o:Oper}{ρ:Operand→A}{m:Mem}{κ:Nat}{t e:TypeId}
def argT (k z:Nat) (es:List (List D)):A→Option A
 | .arr j z' n=>if j=k∧z'=z∧n=es.length then some (.d (.sl z es)) else none
 | x=>argOf none x
def argsT (k z:Nat) (es:List (List D)):List A→Option (List A)
 | []=>some []
 | x::xs=>match argT k z es x,argsT k z es xs with
  | some y,some ys=>some (y::ys)
  | _,_=>none
def withBox (C:CellR) (b:Nat) (vs:List Value):CellR:=fun b' o u=>C b' o u∨(b'=b∧vs[o]?=some u)
end
section
variable {P:Program}{en:En}{ops:Array Oper}{o:Oper}{l:List Oper}{K:St→Prop}{s:St}
end
end Go.Proofs.YtaammoodcgfhpaaDoor.Eng
