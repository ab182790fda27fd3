/-
 Plain functions: the drawn descriptions with files, a rule and a place.
-/
import Derived.Test.YtodkkldopciagaaKNDY
set_option linter.unusedSimpArgs false
set_option linter.unusedVariables false
set_option linter.defProp false
set_option maxRecDepth 100000
set_option maxHeartbeats 4000000
namespace Go.Proofs.Ytodkkldopciagaa.Eng
open Go.RowKit

def rvEnd (z : (List RuleD × List UInt8) × Cur) : List RuleD × Int × List UInt8 × Int :=
 if (bel z.2 6).1 = 0 then (z.1.1, (bel (bel z.2 6).2 ((z.1.1.length : Int) + 2)).1 - 1, z.1.2, 0)
 else if (bel z.2 6).1 = 1 then (z.1.1, (z.1.1.length : Int) - 1, z.1.2, (bel (bel z.2 6).2 ((z.1.2.length : Int) + 3)).1 - 1)
 else if (bel z.2 6).1 = 2 then ((anyC (bel z.2 6).2).1, (z.1.1.length : Int) - 1, z.1.2, 0)
 else (z.1.1, (z.1.1.length : Int) - 1, z.1.2, 0)
def rvC (B : List UInt8) : List RuleD × Int × List UInt8 × Int := rvEnd (fileC (newC B))
theorem rvEnd_db (z : (List RuleD × List UInt8) × Cur) (hz : DB 1048576 z.1.1) : DB 1048576 (rvEnd z).1 := by
 unfold rvEnd
 generalize bel z.2 6 = o
 have := anyC_db o.2
 generalize anyC o.2 = w at this ⊢
 generalize (bel o.2 ((z.1.1.length : Int) + 2)).1 = x
 generalize (bel o.2 ((z.1.2.length : Int) + 3)).1 = y
 split
 ·exact hz
 split
 ·exact hz
 split
 ·exact this
 ·exact hz
theorem rvEnd_b (z : (List RuleD × List UInt8) × Cur) : (rvEnd z).2.2.1 = z.1.2 := by
 unfold rvEnd
 generalize bel z.2 6 = o
 generalize anyC o.2 = w
 generalize (bel o.2 ((z.1.1.length : Int) + 2)).1 = x
 generalize (bel o.2 ((z.1.2.length : Int) + 3)).1 = y
 split
 ·rfl
 split
 ·rfl
 split <;> rfl
theorem rvC_db (B : List UInt8) : DB 1048576 (rvC B).1 := rvEnd_db _ (fileC_db (newC B))
theorem rvC_len (B : List UInt8) : (rvC B).2.2.1.length ≤ 204060 := by
 unfold rvC
 rw [rvEnd_b]
 exact fileC_len (newC B)
end Go.Proofs.Ytodkkldopciagaa.Eng
