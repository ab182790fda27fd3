/-
 The engine, part 26: where ways meet again.

 The engine, part 27: variables that are handed over as data behind a pointer.

 The engine, part 29: calls that are walked in place.
-/
import Derived.Test.YtomfggmmhkpeeaaDoorKE3
set_option linter.unusedSimpArgs false
set_option linter.unusedVariables false
set_option linter.defProp false
set_option maxRecDepth 100000
set_option maxHeartbeats 4000000
namespace Go.Proofs.YtomfggmmhkpeeaaDoor.Eng
open Go Go.RowKit
section
variable {P:Program}{en:En}{K:Exit→St→Prop}{s:St}
end
end Go.Proofs.YtomfggmmhkpeeaaDoor.Eng
namespace Go.Proofs.YtomfggmmhkpeeaaDoor.Eng
open Go Go.RowKit
section
variable {P:Program}{en:En}{s:St}
end
end Go.Proofs.YtomfggmmhkpeeaaDoor.Eng
namespace Go.Proofs.YtomfggmmhkpeeaaDoor.Eng
open Go Go.RowKit
def FinI (P:Program) (fn:Func) (fr:List (Nat × A)) (d:Option Nat) (K:St→Prop) (e:Exit) (s':St):Prop:=
 (e=.normal∨e=.ret)∧resL P s' fn.results.toList fun l=>K ({ s' with fr:=fr }.set d (resOf l))

def inlEn (en:En) (w:World) (G:Gh) (s:St) (n:Nat):En:={ w:=w,C:=G.C,X:=Mine G s.mem,E:=G.E,cp:=G.cp,ks:=fun k=>k<s.nx,sz:=n,Z:=en.Z,Amb:=en.Amb,stab:=en.stab }
section
variable {P:Program}{en:En}{s:St}
end
end Go.Proofs.YtomfggmmhkpeeaaDoor.Eng
