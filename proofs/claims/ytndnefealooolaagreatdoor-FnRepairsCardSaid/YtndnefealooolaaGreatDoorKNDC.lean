/-
 Draws: a description and nearly always a file of it.
-/
import Derived.Test.YtndnefealooolaaGreatDoorKNDB
import Derived.Test.YtndnefealooolaaGreatDoorKNB1
import Derived.Test.YtndnefealooolaaGreatDoorKNV
set_option linter.unusedSimpArgs false
set_option linter.unusedVariables false
set_option linter.defProp false
set_option maxRecDepth 100000
set_option maxHeartbeats 4000000
namespace Go.Proofs.YtndnefealooolaaGreatDoor.Eng
open Go Go.RowKit

section
variable {B:List UInt8}
theorem descC_db8 (c:Cur):DB 1048576 (descC c).1:=DInv.db (descC_inv c).1 (by have:=(descC_inv c).2;omega)
def endC (D:List RuleD) (p:List UInt8 × Cur):(List RuleD × List UInt8) × Cur:=
 let s:=bel p.2 24
 if s.1=0 then ((D,List.replicate (400+(bel s.2 2).1).toNat 0),(bel s.2 2).2)
 else if s.1=1 then ((D,(bysC (bel s.2 8).1.toNat (bel s.2 8).2).1),(bysC (bel s.2 8).1.toNat (bel s.2 8).2).2)
 else if s.1=2 then ((D,p.1++[92]),s.2)
 else ((D,p.1),s.2)
def midC (b:List UInt8) (c:Cur):List UInt8 × Cur:=if 0<b.length then (if (once c 3).1=true then bentC (once c 3).2 b else (b,(once c 3).2)) else (b,c)
private def tyF:=ai (ai (ai tg22 (ai tg24 tg37)) (ai tg57 (ai tg65 tg26))) (ai (ai tg39 (ai tg97 tg3)) (ai (ai tg4 tg5) (ai tg59 tg9)))
end
end Go.Proofs.YtndnefealooolaaGreatDoor.Eng
