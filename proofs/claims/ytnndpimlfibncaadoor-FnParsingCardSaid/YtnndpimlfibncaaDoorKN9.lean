/-
  The reference: reading a value, a file.
-/
import Derived.Test.YtnndpimlfibncaaDoorKNR
import Derived.Test.YtnndpimlfibncaaDoorKN40
set_option linter.unusedSimpArgs false
set_option linter.unusedVariables false
set_option linter.defProp false
set_option maxRecDepth 100000
set_option maxHeartbeats 4000000
namespace Go.Proofs.YtnndpimlfibncaaDoor.Eng
open Go Go.RowKit

noncomputable def readV (D : List RuleD) (b : List UInt8) (i p : Int) : V × Nat × Nat := if vKnown D i = true ∧ (0 ≤ p ∧ p ≤ b.length) ∧ b.length ≤ 400 then rd D b D.length i.toNat p.toNat else (V0, 0, 8)
noncomputable def readF (D : List RuleD) (b : List UInt8) : V × Nat × Nat := if (readV D b ((D.length : Int) - 1) 0).2.2 = 0 ∧ (readV D b ((D.length : Int) - 1) 0).2.1 < b.length then (V0, (readV D b ((D.length : Int) - 1) 0).2.1, 7) else readV D b ((D.length : Int) - 1) 0
abbrev chR (x : V × Nat × Nat) : Rz := .d (.tup [iD x.2.1, iD x.2.2])

section
variable {M : Nat} {D : List RuleD} {b : List UInt8}
private def tyF := And.intro (And.intro (And.intro (And.intro (And.intro (And.intro tb22 te22) (And.intro te24 te27)) (And.intro (And.intro te85 te86) (And.intro tf26_0 tf29_0))) (And.intro (And.intro (And.intro tf29_1 tf29_2) (And.intro tf88_0 tf88_1)) (And.intro (And.intro tf88_2 tf88_3) (And.intro tf88_4 tf88_5)))) (And.intro (And.intro (And.intro (And.intro tf88_6 tf88_7) (And.intro tk22 tk24)) (And.intro (And.intro tk26 tk27) (And.intro tk29 tk3))) (And.intro (And.intro (And.intro tk4 tk5) (And.intro tk85 tk86)) (And.intro (And.intro tk88 tk9) (And.intro tp26 (And.intro tp29 tp88)))))) (And.intro (And.intro (And.intro (And.intro (And.intro tr22 tr24) (And.intro tr26 tr27)) (And.intro (And.intro tr29 tr3) (And.intro tr4 tr5))) (And.intro (And.intro (And.intro tr85 tr86) (And.intro tr88 tr9)) (And.intro (And.intro tu22 tu24) (And.intro tu27 tu3)))) (And.intro (And.intro (And.intro (And.intro tu4 tu5) (And.intro tu85 tu86)) (And.intro (And.intro tu9 tz22) (And.intro tz24 tz26))) (And.intro (And.intro (And.intro tz27 tz29) (And.intro tz3 tz4)) (And.intro (And.intro tz5 tz85) (And.intro tz86 (And.intro tz88 tz9))))))
end
end Go.Proofs.YtnndpimlfibncaaDoor.Eng
