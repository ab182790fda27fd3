/-
  Least sizes, the program: MinSize, MissingAtLeast.

  Least sizes, the reference: MinSize, MissingAtLeast.
-/
import Derived.Test.YtnndpimlfibncaaKN82
import Derived.Test.YtnndpimlfibncaaKN83
set_option linter.unusedSimpArgs false
set_option linter.unusedVariables false
set_option linter.defProp false
set_option maxRecDepth 100000
set_option maxHeartbeats 4000000
namespace Go.Proofs.Ytnndpimlfibncaa.Eng
open Go Go.RowKit

def maxF (m n : Int) : Int := if m < n then n else m
private def tyF := And.intro (And.intro (And.intro (And.intro (And.intro ta118 (And.intro tb22 te22)) (And.intro (And.intro te24 te60) (And.intro te61 tf26_0))) (And.intro (And.intro (And.intro tf63_0 tf63_1) (And.intro tf63_2 tf63_3)) (And.intro (And.intro tf63_4 tf63_5) (And.intro tf63_6 tf63_7)))) (And.intro (And.intro (And.intro (And.intro tk105 tk118) (And.intro tk22 tk24)) (And.intro (And.intro tk26 tk3) (And.intro tk4 tk5))) (And.intro (And.intro (And.intro tk60 tk61) (And.intro tk63 tk9)) (And.intro (And.intro tp26 tp63) (And.intro tr105 tr118))))) (And.intro (And.intro (And.intro (And.intro tr22 (And.intro tr24 tr26)) (And.intro (And.intro tr3 tr4) (And.intro tr5 tr60))) (And.intro (And.intro (And.intro tr61 tr63) (And.intro tr9 tu105)) (And.intro (And.intro tu118 tu22) (And.intro tu24 tu3)))) (And.intro (And.intro (And.intro (And.intro tu4 tu5) (And.intro tu60 tu61)) (And.intro (And.intro tu9 tz105) (And.intro tz22 tz24))) (And.intro (And.intro (And.intro tz26 tz3) (And.intro tz4 tz5)) (And.intro (And.intro tz60 tz61) (And.intro tz63 tz9)))))
section
variable {D : List RuleD} {M : Nat}
noncomputable def minOf (D : List RuleD) (i : Int) : Int := if vKnown D i = true then atT (minS D D.length) i else 0
theorem minSizeI_c (hD : DB M D) (hM : M ≤ 1048576) (i : Int) : AC Try.prog 66 [.d (encD D), .d (iD i)] none (fun r' _ => r' = .d (iD (minOf D i))) := by
  by_cases hk : vKnown D i = true
  · have hk' := hk
    unfold vKnown at hk'
    simp only [Bool.and_eq_true, decide_eq_true_eq] at hk'
    obtain ⟨hv, h0, h1⟩ := hk'
    have hV : descP D := descP_of hv
    have h24 : D.length ≤ 24 := hV.1.2
    have HL := leastI_c hD hM hV h24
    have hat : ((tabT D D.length).map iD)[i.toNat]? = some (iD (atT (minS D D.length) i)) := by
      have e1 : atT (tabT D D.length) i = atT (minS D D.length) i := atT_app (by rw [minS_len]; omega)
      rw [← e1]
      have : i.toNat < (tabT D D.length).length := by rw [tabT_len h24]; omega
      simp [atT, List.getD, this]
    have hin := atT_in (minS_in hV D.length (Nat.le_refl _)) i
    rw [show minOf D i = atT (minS D D.length) i from if_pos hk]
    refine calls_body Try.func66 rfl Try.call66 Try.ntmps66 (by simp) (by simp [ArgsOk]) (by simp [Rz.nkL, Rz.nk]) fun en hsz hks hk0 => ?_; refine enS ?_
    (repeat (first | refine walkS ?_ | (refine callPre ?_; (first | refine callN_funS rfl ((known_c hD hM i).eqv (r1 := .d (bD true)) (by rw [hk])) ?_)) | (refine callPreL ?_; (first | refine callL_funS rfl ((known_c hD hM i).eqv (r1 := .d (bD true)) (by rw [hk])) ?_))))
    refine aw_condS rfl (fun h2 => ?_) (fun h2 => ?_)
    · (first | exact absurd trivial h2 | exact absurd rfl h2 | (cases h2; done) | omega | exact absurd h2 (by decide) | (simp at h2; done))
    (repeat (first | refine walkS ?_ | (refine callPre ?_; (first | refine callN_funS rfl (HL) ?_)) | (refine callPreL ?_; (first | refine callL_funS rfl (HL) ?_))))
    refine ow_indexA (e := 3) (m := 24) (n := i) (c := iD (atT (minS D D.length) i)) ?_ (fun x hx => by cases hx <;> (rw [hsz]; decide)) rfl rfl rfl (by kernel_rfl) (by kernel_rfl) h0 (by omega) hat ?_
    · first | exact trivial | exact rfl
    simp only [St.set]
    refine walkS ?_
    (refine aw_ret ?_; (simp only [Fin, Try.results66]; refine finS ?_); exact ⟨_, _, .inl ⟨rfl, rfl⟩, List.nodup_nil, rfl⟩)
  · have hk2 : vKnown D i = false := by simpa using hk
    rw [show minOf D i = 0 from if_neg hk]
    refine calls_body Try.func66 rfl Try.call66 Try.ntmps66 (by simp) (by simp [ArgsOk]) (by simp [Rz.nkL, Rz.nk]) fun en hsz hks hk0 => ?_; refine enS ?_
    (repeat (first | refine walkS ?_ | (refine callPre ?_; (first | refine callN_funS rfl ((known_c hD hM i).eqv (r1 := .d (bD false)) (by rw [hk2])) ?_)) | (refine callPreL ?_; (first | refine callL_funS rfl ((known_c hD hM i).eqv (r1 := .d (bD false)) (by rw [hk2])) ?_))))
    refine aw_condS rfl (fun h2 => ?_) (fun h2 => ?_)
    · refine walkS ?_
      (refine aw_ret ?_; (simp only [Fin, Try.results66]; refine finS ?_); exact ⟨_, _, .inl ⟨rfl, rfl⟩, List.nodup_nil, rfl⟩)
    · (first | exact absurd trivial h2 | exact absurd rfl h2 | (cases h2; done) | omega | exact absurd h2 (by decide) | (simp at h2; done))
end
end Go.Proofs.Ytnndpimlfibncaa.Eng
namespace Go.Proofs.Ytnndpimlfibncaa.Eng
open Go Go.RowKit


section
variable {D : List RuleD} {M : Nat}
theorem minSizeS_c (hD : DB M D) (hM : M ≤ 1048576) (i : Int) : AC Try.prog 34 [.d (encD D), .d (iD i)] none (fun r' _ => r' = .d (iD (minOf D i))) := by
  by_cases hk : vKnown D i = true
  · have hk' := hk
    unfold vKnown at hk'
    simp only [Bool.and_eq_true, decide_eq_true_eq] at hk'
    obtain ⟨hv, h0, h1⟩ := hk'
    have hV : descP D := descP_of hv
    have h24 : D.length ≤ 24 := hV.1.2
    have HL := minsS_c hD hM hV h24
    have hl := minS_len D D.length
    have hat : (minS D D.length)[i.toNat]? = some (atT (minS D D.length) i) := by
      have : i.toNat < (minS D D.length).length := by omega
      simp [this, atT, List.getD]
    rw [show minOf D i = atT (minS D D.length) i from if_pos hk]
    refine calls_body Try.func34 rfl Try.call34 Try.ntmps34 (by simp) (by simp [ArgsOk]) (by simp [Rz.nkL, Rz.nk]) fun en hsz hks hk0 => ?_; refine enS ?_
    (repeat (first | refine walkS ?_ | (refine callPre ?_; (first | refine callN_funS rfl ((l7Rule_c hD hM i).eqv (r1 := .d (bD true)) (by rw [hk])) ?_)) | (refine callPreL ?_; (first | refine callL_funS rfl ((l7Rule_c hD hM i).eqv (r1 := .d (bD true)) (by rw [hk])) ?_))))
    refine aw_condS rfl (fun h2 => ?_) (fun h2 => ?_)
    · (first | exact absurd trivial h2 | exact absurd rfl h2 | (cases h2; done) | omega | exact absurd h2 (by decide) | (simp at h2; done))
    (repeat (first | refine walkS ?_ | (refine callPre ?_; (first | refine callN_funS rfl (HL) ?_)) | (refine callPreL ?_; (first | refine callL_funS rfl (HL) ?_))))
    (refine aw_ret ?_; (simp only [Fin, Try.results34]; refine finS ?_); exact ⟨_, _, .inl ⟨rfl, rfl⟩, List.nodup_nil, rfl⟩)
  · have hk2 : vKnown D i = false := by simpa using hk
    rw [show minOf D i = 0 from if_neg hk]
    refine calls_body Try.func34 rfl Try.call34 Try.ntmps34 (by simp) (by simp [ArgsOk]) (by simp [Rz.nkL, Rz.nk]) fun en hsz hks hk0 => ?_; refine enS ?_
    (repeat (first | refine walkS ?_ | (refine callPre ?_; (first | refine callN_funS rfl ((l7Rule_c hD hM i).eqv (r1 := .d (bD false)) (by rw [hk2])) ?_)) | (refine callPreL ?_; (first | refine callL_funS rfl ((l7Rule_c hD hM i).eqv (r1 := .d (bD false)) (by rw [hk2])) ?_))))
    refine aw_condS rfl (fun h2 => ?_) (fun h2 => ?_)
    · refine walkS ?_
      (refine aw_ret ?_; (simp only [Fin, Try.results34]; refine finS ?_); exact ⟨_, _, .inl ⟨rfl, rfl⟩, List.nodup_nil, rfl⟩)
    · (first | exact absurd trivial h2 | exact absurd rfl h2 | (cases h2; done) | omega | exact absurd h2 (by decide) | (simp at h2; done))
end
end Go.Proofs.Ytnndpimlfibncaa.Eng
