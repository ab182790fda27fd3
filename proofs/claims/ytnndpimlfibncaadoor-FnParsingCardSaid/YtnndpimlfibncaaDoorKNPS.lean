/-
  PrintFile: the reference.
-/
import Derived.Test.YtnndpimlfibncaaDoorKN50
import Derived.Test.YtnndpimlfibncaaDoorKN40
import Derived.Test.YtnndpimlfibncaaDoorKE5
set_option linter.unusedSimpArgs false
set_option linter.unusedVariables false
set_option linter.defProp false
set_option maxRecDepth 100000
set_option maxHeartbeats 4000000
namespace Go.Proofs.YtnndpimlfibncaaDoor.Eng
open Go Go.RowKit

theorem AC.owndP {P : Program} {f : FuncId} {args : List A} {e : TypeId} {z : Nat} {es : List (List D)} {y : D} (h : AC P f args none fun r _ => r = .tup [.own e z es, .d y]) : AC P f args none fun r _ => r = .d (.tup [.sl z es, y]) :=
  ⟨h.1, fun w C β F0 vs h1 h2 h3 h4 => (h.2 w C β F0 vs h1 h2 h3 h4).mono fun x w' ⟨v, r, bx', C', F, F', he', hq, hb, g1, g2, g3, g4, g5, g6, g7, g8⟩ => by
    subst hq
    cases bx' with
    | some x => simp at hb
    | none =>
      unfold BoxO at g6
      subst g6
      refine ⟨v, .d (.tup [.sl z es, y]), none, C', [], [], he', rfl, rfl, g1, g2, g3, g4, ?_, rfl, by simp [XO], fun b' hb' => by cases hb'⟩
      unfold RepZ at g5 ⊢
      obtain ⟨us, rfl, g5⟩ := g5
      refine ⟨rfl, ?_⟩
      unfold RepZL at g5
      obtain ⟨u, us', F1, F2, rfl, rfl, k1, k2⟩ := g5
      unfold RepZL at k2
      obtain ⟨u2, us2, F3, F4, rfl, rfl, k2, k3⟩ := k2
      unfold RepZL at k3
      obtain ⟨rfl, rfl⟩ := k3
      unfold RepZ at k2
      unfold RepD
      refine ⟨_, rfl, ?_⟩
      unfold RepL
      refine ⟨u, _, rfl, ?_, ?_⟩
      · have hw : wkD (.sl z es) (.own 0 e z es) := by unfold wkD; exact .inr ⟨_, _, _, rfl, dleLL_refl _⟩
        unfold RepZ at k1
        rcases k1 with ⟨rfl, rfl, _⟩ | ⟨b, cp, _, k1, _⟩
        · exact wkD_rep (G := ⟨fun _ => none, fun _ => 0, C'⟩) hw (by unfold RepA RepOwn; exact .inl ⟨rfl, rfl, rfl⟩)
        · exact wkD_rep (G := ⟨fun _ => some b, fun _ => cp, C'⟩) hw (by unfold RepA; exact k1)
      · unfold RepL
        refine ⟨u2, _, rfl, k2.2, ?_⟩
        unfold RepL
        rfl⟩
section
variable {M : Nat} {D : List RuleD}
private def tyF := And.intro (And.intro (And.intro (And.intro (And.intro (And.intro tb22 te22) (And.intro te24 te27)) (And.intro (And.intro te85 te86) (And.intro tf26_0 tf29_0))) (And.intro (And.intro (And.intro tf29_1 tf29_2) (And.intro tf88_0 tf88_1)) (And.intro (And.intro tf88_2 tf88_3) (And.intro tf88_4 tf88_5)))) (And.intro (And.intro (And.intro (And.intro tf88_6 tf88_7) (And.intro tk22 tk24)) (And.intro (And.intro tk26 tk27) (And.intro tk29 tk3))) (And.intro (And.intro (And.intro tk4 tk5) (And.intro tk85 tk86)) (And.intro (And.intro tk88 tk9) (And.intro tp26 (And.intro tp29 tp88)))))) (And.intro (And.intro (And.intro (And.intro (And.intro tr22 tr24) (And.intro tr26 tr27)) (And.intro (And.intro tr29 tr3) (And.intro tr4 tr5))) (And.intro (And.intro (And.intro tr85 tr86) (And.intro tr88 tr9)) (And.intro (And.intro tu22 tu24) (And.intro tu27 tu3)))) (And.intro (And.intro (And.intro (And.intro tu4 tu5) (And.intro tu85 tu86)) (And.intro (And.intro tu9 tz22) (And.intro tz24 tz26))) (And.intro (And.intro (And.intro tz27 tz29) (And.intro tz3 tz4)) (And.intro (And.intro tz5 tz85) (And.intro tz86 (And.intro tz88 tz9))))))
theorem printFSp_c (hD : DB M D) (hM : M ≤ 1048576) {v : V} (hv : VB 1048576 v) (ht : totV v ≤ 1048576) : AC Tryd.prog 7 [.d (encD D), .d (encV v)] none (fun r' _ => r' = prRz (prR D ((D.length : Int) - 1) v)) := by
  have HP := printVS_c hD hM ((D.length : Int) - 1) hv ht
  generalize prR D ((D.length : Int) - 1) v = q at HP
  obtain ⟨n, bs, vs⟩ := v
  rw [encV_mk, encVs_eq] at HP ⊢
  refine calls_body Tryd.func7 rfl Tryd.call7 Tryd.ntmps7 (by simp) (by simp [ArgsOk]) (by simp [Rz.nkL, Rz.nk]) fun en hsz hks hk0 => ?_; refine enS ?_
  (repeat (first | refine walkS ?_ | (refine callPre ?_; (first | refine callN_funS rfl (rootS_c hD hM) ?_ | refine callN_funS rfl (HP) ?_)) | (refine callPreL ?_; (first | refine callL_funS rfl (rootS_c hD hM) ?_ | refine callL_funS rfl (HP) ?_))))
  (refine aw_ret ?_; (simp only [Fin, Tryd.results7]; refine finS ?_); exact ⟨_, _, .inl (toZ_tup (toZL_cons (toZ_own (by simp [lk, St.mem])) (toZL_cons toZ_d toZL_nil))), by simp, rfl⟩)
theorem printFS_d (hD : DB M D) (hM : M ≤ 1048576) {v : V} (hv : VB 1048576 v) (ht : totV v ≤ 1048576) : AC Tryd.prog 7 [.d (encD D), .d (encV v)] none (fun r' _ => r' = .d (.tup [encB (prR D ((D.length : Int) - 1) v).1, bD (prR D ((D.length : Int) - 1) v).2])) := (printFSp_c hD hM hv ht).owndP
end
end Go.Proofs.YtnndpimlfibncaaDoor.Eng
