/-
  PrintValue, EncodedLength: the reference.
-/
import Derived.Test.YtnndpimlfibncaaGreatDoorKN49
set_option linter.unusedSimpArgs false
set_option linter.unusedVariables false
set_option linter.defProp false
set_option maxRecDepth 100000
set_option maxHeartbeats 4000000
namespace Go.Proofs.YtnndpimlfibncaaGreatDoor.Eng
open Go Go.RowKit

section
variable {M : Nat} {D : List RuleD}
theorem printS_all (hD : DB M D) (hM : M ≤ 1048576) (hV : descP D) : ∀ N : Nat, ∀ {v : V}, SizeOf.sizeOf v ≤ N → VB 1048576 v → PrS D v
  | 0, .mk n bs vs, h, _ => by simp only [V.mk.sizeOf_spec] at h; omega
  | N + 1, .mk n bs vs, h, hv => printS_step hD hM hV hv fun v hvm => printS_all hD hM hV N (by have := item_lt (n := n) (bs := bs) hvm; omega) (by unfold VB at hv; exact hv.2.2.el v hvm)
noncomputable def prR (D : List RuleD) (i : Int) (v : V) : List UInt8 × Bool := if isVal D i v = true ∧ (prV D i v).length ≤ 400 then (prV D i v, true) else ([], false)
abbrev prRz (x : List UInt8 × Bool) : Rz := .tup [.own 5 1 (x.1.map fun c => [uD c]), .d (bD x.2)]
private def tyF := And.intro (And.intro (And.intro (And.intro (And.intro (And.intro tb22 te22) (And.intro te24 te47)) (And.intro (And.intro te55 te75) (And.intro tf26_0 tf49_0))) (And.intro (And.intro (And.intro tf49_1 tf49_2) (And.intro tf77_0 tf77_1)) (And.intro (And.intro tf77_2 tf77_3) (And.intro tf77_4 tf77_5)))) (And.intro (And.intro (And.intro (And.intro tf77_6 tf77_7) (And.intro tk22 tk24)) (And.intro (And.intro tk26 tk3) (And.intro tk4 tk47))) (And.intro (And.intro (And.intro tk49 tk5) (And.intro tk55 tk75)) (And.intro (And.intro tk77 tk9) (And.intro tp26 (And.intro tp49 tp77)))))) (And.intro (And.intro (And.intro (And.intro (And.intro tr22 tr24) (And.intro tr26 tr3)) (And.intro (And.intro tr4 tr47) (And.intro tr49 tr5))) (And.intro (And.intro (And.intro tr55 tr75) (And.intro tr77 tr9)) (And.intro (And.intro tu22 tu24) (And.intro tu3 tu4)))) (And.intro (And.intro (And.intro (And.intro tu47 tu5) (And.intro tu55 tu75)) (And.intro (And.intro tu9 tz22) (And.intro tz24 tz26))) (And.intro (And.intro (And.intro tz3 tz4) (And.intro tz47 tz49)) (And.intro (And.intro tz5 tz55) (And.intro tz75 (And.intro tz77 tz9))))))
noncomputable def enlR (D : List RuleD) (i : Int) (v : V) : Int := if (prR D i v).2 = true then (prR D i v).1.length else -1

end
end Go.Proofs.YtnndpimlfibncaaGreatDoor.Eng
