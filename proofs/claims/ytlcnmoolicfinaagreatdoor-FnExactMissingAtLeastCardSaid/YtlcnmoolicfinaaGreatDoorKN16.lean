/-
  Checking, the program's side.
-/
import Derived.Test.YtlcnmoolicfinaaGreatDoorKN15
import Derived.Test.YtlcnmoolicfinaaGreatDoorKN40
import Derived.Test.YtlcnmoolicfinaaGreatDoorKN10
set_option linter.unusedSimpArgs false
set_option linter.unusedVariables false
set_option linter.defProp false
set_option maxRecDepth 100000
set_option maxHeartbeats 4000000
namespace Go.Proofs.YtlcnmoolicfinaaGreatDoor.Eng
open Go Go.RowKit

section
variable {M : Nat} {D : List RuleD} {b : List UInt8}
theorem wrap0 : IntKind.i64.wrap 0 = 0 := by decide

private def tyF := And.intro (And.intro (And.intro (And.intro (And.intro (And.intro tb25 te25) (And.intro te28 te44)) (And.intro (And.intro te45 tf102_0) (And.intro tf102_1 (And.intro tf108_0 tf108_1)))) (And.intro (And.intro (And.intro tf108_2 tf30_0) (And.intro tf52_0 tf52_1)) (And.intro (And.intro tf52_2 tf52_3) (And.intro tf52_4 (And.intro tf52_5 tf52_6))))) (And.intro (And.intro (And.intro (And.intro tf52_7 tk102) (And.intro tk106 tk108)) (And.intro (And.intro tk25 tk28) (And.intro tk3 (And.intro tk30 tk4)))) (And.intro (And.intro (And.intro tk44 tk45) (And.intro tk5 tk52)) (And.intro (And.intro tk9 tp102) (And.intro tp108 (And.intro tp30 tp52)))))) (And.intro (And.intro (And.intro (And.intro (And.intro tq102 tr102) (And.intro tr106 tr108)) (And.intro (And.intro tr25 tr28) (And.intro tr3 (And.intro tr30 tr4)))) (And.intro (And.intro (And.intro tr44 tr45) (And.intro tr5 tr52)) (And.intro (And.intro tr9 tu106) (And.intro tu25 (And.intro tu28 tu3))))) (And.intro (And.intro (And.intro (And.intro tu4 tu44) (And.intro tu45 tu5)) (And.intro (And.intro tu9 tz102) (And.intro tz106 (And.intro tz108 tz25)))) (And.intro (And.intro (And.intro tz28 tz3) (And.intro tz30 tz4)) (And.intro (And.intro tz44 tz45) (And.intro tz5 (And.intro tz52 tz9))))))
theorem checkValueI_c (hD : DB M D) (hM : M ≤ 1048576) (hb : b.length ≤ 1048576) (i p : Int) : AC Tryz.prog 55 [.d (encD D), .d (iD i), .d (encB b), .d (iD p)] none (fun r' _ => r' = chR (readV D b i p)) := by
  have no : ¬ (vKnown D i = true ∧ (0 ≤ p ∧ p ≤ b.length) ∧ b.length ≤ 400) → readV D b i p = (V0, 0, 8) := fun h => if_neg h
  by_cases hv : vKnown D i = true
  · by_cases hp0 : p < 0
    · have e1 : decide (p < 0) = true := decide_eq_true hp0
      refine calls_body Tryz.func55 rfl Tryz.call55 Tryz.ntmps55 (by simp) (by simp [ArgsOk]) (by simp [Rz.nkL, Rz.nk]) fun en hsz hks hk0 => ?_; refine enS ?_
      (repeat (first | refine ctlS ?_ | (refine ol_go ?_ (fun K1 hK1 => ?_); (first | exact trivial | exact rfl); refine evS ?_; (try simp only [e1]); refine hK1 _ _ ?_; clear hK1 K1) | (refine ow_go ?_ (fun x hx => by cases hx <;> (rw [hsz]; decide)) (fun K1 hK1 => ?_); (first | exact trivial | exact rfl); refine evS ?_; (try simp only [e1]); refine hK1 _ ?_; clear hK1 K1) | refine skipS ?_ | (refine callPre ?_; (first | refine callN_funS rfl ((known_c hD hM i).eqv (r1 := .d (bD true)) (by rw [hv])) ?_)) | (refine callPreL ?_; (first | refine callL_funS rfl ((known_c hD hM i).eqv (r1 := .d (bD true)) (by rw [hv])) ?_))))
      refine aw_condS rfl (fun hc => ?_) (fun hc => ?_)
      · refine walkS ?_
        (refine aw_ret ?_; (simp only [Fin, Tryz.results55]; refine finS ?_); exact ⟨_, _, .inl ⟨rfl, rfl⟩, List.nodup_nil, by rw [no (fun h => by omega)]; rfl⟩)
      · (first | exact absurd trivial hc | exact absurd rfl hc | (cases hc; done) | omega | exact absurd hc (by decide) | (simp at hc; done))
    · have e1 : decide (p < 0) = false := decide_eq_false hp0
      by_cases hp1 : (b.length : Int) < p
      · have e2 : decide ((b.length : Int) < p) = true := decide_eq_true hp1
        refine calls_body Tryz.func55 rfl Tryz.call55 Tryz.ntmps55 (by simp) (by simp [ArgsOk]) (by simp [Rz.nkL, Rz.nk]) fun en hsz hks hk0 => ?_; refine enS ?_
        (repeat (first | refine ctlS ?_ | (refine ol_go ?_ (fun K1 hK1 => ?_); (first | exact trivial | exact rfl); refine evS ?_; (try simp only [e1, e2]); refine hK1 _ _ ?_; clear hK1 K1) | (refine ow_go ?_ (fun x hx => by cases hx <;> (rw [hsz]; decide)) (fun K1 hK1 => ?_); (first | exact trivial | exact rfl); refine evS ?_; (try simp only [e1, e2]); refine hK1 _ ?_; clear hK1 K1) | refine skipS ?_ | (refine callPre ?_; (first | refine callN_funS rfl ((known_c hD hM i).eqv (r1 := .d (bD true)) (by rw [hv])) ?_)) | (refine callPreL ?_; (first | refine callL_funS rfl ((known_c hD hM i).eqv (r1 := .d (bD true)) (by rw [hv])) ?_))))
        refine aw_condS rfl (fun hc => ?_) (fun hc => ?_)
        · refine walkS ?_
          (refine aw_ret ?_; (simp only [Fin, Tryz.results55]; refine finS ?_); exact ⟨_, _, .inl ⟨rfl, rfl⟩, List.nodup_nil, by rw [no (fun h => by omega)]; rfl⟩)
        · (first | exact absurd trivial hc | exact absurd rfl hc | (cases hc; done) | omega | exact absurd hc (by decide) | (simp at hc; done))
      · have e2 : decide ((b.length : Int) < p) = false := decide_eq_false hp1
        refine calls_body Tryz.func55 rfl Tryz.call55 Tryz.ntmps55 (by simp) (by simp [ArgsOk]) (by simp [Rz.nkL, Rz.nk]) fun en hsz hks hk0 => ?_; refine enS ?_
        (repeat (first | refine ctlS ?_ | (refine ol_go ?_ (fun K1 hK1 => ?_); (first | exact trivial | exact rfl); refine evS ?_; (try simp only [e1, e2]); refine hK1 _ _ ?_; clear hK1 K1) | (refine ow_go ?_ (fun x hx => by cases hx <;> (rw [hsz]; decide)) (fun K1 hK1 => ?_); (first | exact trivial | exact rfl); refine evS ?_; (try simp only [e1, e2]); refine hK1 _ ?_; clear hK1 K1) | refine skipS ?_ | (refine callPre ?_; (first | refine callN_funS rfl ((known_c hD hM i).eqv (r1 := .d (bD true)) (by rw [hv])) ?_)) | (refine callPreL ?_; (first | refine callL_funS rfl ((known_c hD hM i).eqv (r1 := .d (bD true)) (by rw [hv])) ?_))))
        refine aw_condS rfl (fun hc => ?_) (fun hc => ?_)
        · refine walkS ?_
          (refine aw_ret ?_; (simp only [Fin, Tryz.results55]; refine finS ?_); exact ⟨_, _, .inl ⟨rfl, rfl⟩, List.nodup_nil, by rw [no (fun h => by omega)]; rfl⟩)
        · have hyes : readV D b i p = rd D b D.length i.toNat p.toNat := if_pos ⟨hv, by omega, by omega⟩
          obtain ⟨v1, v2, v3⟩ := vKnown_spec hv
          have HV := value_all hD hM hb v1 D.length i.toNat p.toNat 0 (by omega) (by omega) (by omega)
          rw [Int.toNat_of_nonneg v2, Int.toNat_of_nonneg (by omega), ← hyes] at HV
          simp only [chk, wrap0] at HV
          (repeat (first | refine walkS ?_ | (refine ol_call1r (k := 48) ?_ rfl (HV) rfl rfl ⟨0, List.mem_cons_self⟩ ?_; (first | exact trivial | exact rfl); simp only [St.set, List.map_cons, List.map_nil, Nat.reduceAdd, Nat.reduceMul]) | (refine ow_call1d (k := 48) ?_ (fun x hx => by cases hx <;> (rw [hsz]; decide)) rfl (HV) rfl rfl ?_; (first | exact trivial | exact rfl); simp only [St.set, List.map_cons, List.map_nil, Nat.reduceAdd]) | (refine ol_call1d (k := 48) ?_ rfl (HV) rfl rfl ⟨0, List.mem_cons_self⟩ ?_; (first | exact trivial | exact rfl); simp only [St.set, List.map_cons, List.map_nil, Nat.reduceAdd])))
          (refine aw_ret ?_; (simp only [Fin, Tryz.results55]; refine finS ?_); exact ⟨_, _, .inl ⟨rfl, rfl⟩, List.nodup_nil, rfl⟩)
  · have hv' : vKnown D i = false := by simpa using hv
    refine calls_body Tryz.func55 rfl Tryz.call55 Tryz.ntmps55 (by simp) (by simp [ArgsOk]) (by simp [Rz.nkL, Rz.nk]) fun en hsz hks hk0 => ?_; refine enS ?_
    (repeat (first | refine walkS ?_ | (refine callPre ?_; (first | refine callN_funS rfl ((known_c hD hM i).eqv (r1 := .d (bD false)) (by rw [hv'])) ?_)) | (refine callPreL ?_; (first | refine callL_funS rfl ((known_c hD hM i).eqv (r1 := .d (bD false)) (by rw [hv'])) ?_))))
    refine aw_condS rfl (fun hc => ?_) (fun hc => ?_)
    · refine walkS ?_
      (refine aw_ret ?_; (simp only [Fin, Tryz.results55]; refine finS ?_); exact ⟨_, _, .inl ⟨rfl, rfl⟩, List.nodup_nil, by rw [no (fun h => hv h.1)]; rfl⟩)
    · (first | exact absurd trivial hc | exact absurd rfl hc | (cases hc; done) | omega | exact absurd hc (by decide) | (simp at hc; done))
end
end Go.Proofs.YtlcnmoolicfinaaGreatDoor.Eng
