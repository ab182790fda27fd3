/-
 Plain functions: how the reference counts what is applied.
-/
import Derived.Test.YtodkkldopciagaaKP
set_option linter.unusedSimpArgs false
set_option linter.unusedVariables false
set_option linter.defProp false
set_option maxRecDepth 100000
set_option maxHeartbeats 4000000
namespace Go.Proofs.Ytodkkldopciagaa
open Go.RowKit

def lcItems (g : Nat → Nat → Nat × Nat × Bool) : List Nat → Nat → Nat → Nat × Nat × Bool
 | [], p, n => (n, p, true)
 | k :: ks, p, n => if (g k p).2.2 = true then lcItems g ks (g k p).2.1 (n + (g k p).1) else (n + (g k p).1, (g k p).2.1, false)
def lcKids (r : RuleD) (m : Nat) : List Nat :=
 if r.kind = 5 then (if 40 < m then [] else List.replicate m (kid1 r).toNat)
 else if r.kind = 7 then (match tagIx r.tags m with | some k => [(r.kids.getD (k + 1) 0).toNat] | none => [])
 else []
def lcKids0 (r : RuleD) (b : List UInt8) (p : Nat) : List Nat :=
 if r.kind = 6 then r.kids.map Int.toNat else if r.kind = 9 then [(kid0 r).toNat] else if r.kind = 8 ∧ b[p]? = some 1 then [(kid0 r).toNat] else []
def lcFin (z : Nat × Nat) (x : Nat × Nat × Bool) : Nat × Nat × Bool := if x.2.2 = true then (x.1, z.1, z.2 == 0) else x
def lc (D : List RuleD) (b : List UInt8) : Nat → Nat → Nat → Nat × Nat × Bool
 | 0, _, p => (0, p, false)
 | f + 1, rule, p =>
  let r := ruleD D rule
  if r.kind = 4 ∨ r.kind = 5 ∨ r.kind = 7 then
   match intAt (ruleD D (kid0 r)) b p with
   | none => (2, p, false)
   | some m => lcFin (rd D b (f + 1) rule p).2 (lcItems (lc D b f) (lcKids r m) (p + (ruleD D (kid0 r)).size.toNat) 2)
  else lcFin (rd D b (f + 1) rule p).2 (lcItems (lc D b f) (lcKids0 r b p) (if r.kind = 8 then p + 1 else p) 1)

section
variable {b : List UInt8} {f : Nat → Nat → V × Nat × Nat} {c : Nat → Nat → Nat} {g : Nat → Nat → Nat × Nat × Bool}
end

section
variable {D : List RuleD} {b : List UInt8} {f n p : Nat} {r : RuleD}
def LcSpec (D : List RuleD) (b : List UInt8) (f n p : Nat) : Prop := (lc D b f n p).1 = cnt D b f n p ∧ ((lc D b f n p).2.2 = true ↔ (rd D b f n p).2.2 = 0) ∧ ((lc D b f n p).2.2 = true → (lc D b f n p).2.1 = (rd D b f n p).2.1)
end
end Go.Proofs.Ytodkkldopciagaa
