/-
  Integers, consts, bytes of a file.

  Items of a file.

  The kinds of rules that the reference reads by their items.

  The kinds of rules that the reference reads by their items: options and what is checked.

  The reference's reader.
-/
import Derived.Test.YtnndpimlfibncaaDoorKN2
import Derived.Test.YtnndpimlfibncaaDoorKNE
import Derived.Test.YtnndpimlfibncaaDoorKNB
set_option linter.unusedSimpArgs false
set_option linter.unusedVariables false
set_option linter.defProp false
set_option maxRecDepth 100000
set_option maxHeartbeats 4000000
namespace Go.Proofs.YtnndpimlfibncaaDoor.Eng
open Go Go.RowKit

def intRes (r : RuleD) (b : List UInt8) (p : Nat) : Nat × Nat × Bool := match intAt r b p with
  | some n => (n, p + r.size.toNat, true)
  | none => (0, p, false)
abbrev intR (r : RuleD) (b : List UInt8) (p : Nat) : Rz := .d (.tup [iD (intRes r b p).1, iD (intRes r b p).2.1, bD (intRes r b p).2.2])
abbrev rdR (x : V × Nat × Nat) : Rz := .d (.tup [encV x.1, iD x.2.1, iD x.2.2])

section
variable {M : Nat} {D : List RuleD} {b : List UInt8}
private def tyF := And.intro (And.intro (And.intro (And.intro (And.intro (And.intro tb22 te22) (And.intro te24 te27)) (And.intro (And.intro te85 te86) (And.intro tf26_0 tf29_0))) (And.intro (And.intro (And.intro tf29_1 tf29_2) (And.intro tf88_0 tf88_1)) (And.intro (And.intro tf88_2 tf88_3) (And.intro tf88_4 tf88_5)))) (And.intro (And.intro (And.intro (And.intro tf88_6 tf88_7) (And.intro tk22 tk24)) (And.intro (And.intro tk26 tk27) (And.intro tk29 tk3))) (And.intro (And.intro (And.intro tk4 tk5) (And.intro tk85 tk86)) (And.intro (And.intro tk88 tk9) (And.intro tp26 (And.intro tp29 tp88)))))) (And.intro (And.intro (And.intro (And.intro (And.intro tr22 tr24) (And.intro tr26 tr27)) (And.intro (And.intro tr29 tr3) (And.intro tr4 tr5))) (And.intro (And.intro (And.intro tr85 tr86) (And.intro tr88 tr9)) (And.intro (And.intro tu22 tu24) (And.intro tu27 tu3)))) (And.intro (And.intro (And.intro (And.intro tu4 tu5) (And.intro tu85 tu86)) (And.intro (And.intro tu9 tz22) (And.intro tz24 tz26))) (And.intro (And.intro (And.intro tz27 tz29) (And.intro tz3 tz4)) (And.intro (And.intro tz5 tz85) (And.intro tz86 (And.intro tz88 tz9))))))
abbrev constR (r : RuleD) (b : List UInt8) (p : Nat) : Rz := rdR (V0, constAt b p 0 r.bytes)
end
end Go.Proofs.YtnndpimlfibncaaDoor.Eng
namespace Go.Proofs.YtnndpimlfibncaaDoor.Eng
open Go Go.RowKit

section
variable {M : Nat} {D : List RuleD} {b : List UInt8}
def ReadOK (D : List RuleD) (b : List UInt8) (f : Nat) : Prop := ∀ n p : Nat, n < f → n < D.length → p ≤ b.length → AC Tryd.prog 67 [.d (encD D), .d (iD n), .d (encB b), .d (iD p)] none (fun r _ => r = rdR (rd D b f n p))

end
end Go.Proofs.YtnndpimlfibncaaDoor.Eng
namespace Go.Proofs.YtnndpimlfibncaaDoor.Eng
open Go Go.RowKit

section
variable {M : Nat} {D : List RuleD} {b : List UInt8}
end
end Go.Proofs.YtnndpimlfibncaaDoor.Eng
namespace Go.Proofs.YtnndpimlfibncaaDoor.Eng
open Go Go.RowKit

section
variable {M : Nat} {D : List RuleD} {b : List UInt8}

theorem u8le (c : UInt8) : (c.toNat : Int) ≤ 255 := by have := c.toNat_lt; omega
theorem replicate_get {n x i : Nat} (h : i < (List.replicate n x).length) : (List.replicate n x)[i] = x := by simp
theorem kid_nat {n : Nat} {r : RuleD} (G : GoodR D n r) (h : 0 < r.kids.length) : ∃ x : Nat, kid0 r = x ∧ x < n := by
  have h1 := kids0 h
  have h2 := G.kid 0 h
  rw [List.getElem?_eq_getElem h] at h1
  have h3 := Option.some.inj h1
  exact ⟨(kid0 r).toNat, by omega, by omega⟩

end
end Go.Proofs.YtnndpimlfibncaaDoor.Eng
namespace Go.Proofs.YtnndpimlfibncaaDoor.Eng
open Go Go.RowKit

section
variable {M : Nat} {D : List RuleD} {b : List UInt8}
theorem head_get {l : List UInt8} (h : l.length = 1) : l[0]? = some (l.headD 0) := by
  match l, h with
  | [x], _ => rfl
end
end Go.Proofs.YtnndpimlfibncaaDoor.Eng
