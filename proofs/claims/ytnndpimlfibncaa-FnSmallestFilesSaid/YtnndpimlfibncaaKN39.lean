/-
  A value's fields, values of a rule: the program.
-/
import Derived.Test.YtnndpimlfibncaaKN38
import Derived.Test.YtnndpimlfibncaaKE4
set_option linter.unusedSimpArgs false
set_option linter.unusedVariables false
set_option linter.defProp false
set_option maxRecDepth 100000
set_option maxHeartbeats 4000000
namespace Go.Proofs.Ytnndpimlfibncaa.Eng
open Go Go.RowKit

def fitV (D : List RuleD) (i : Nat) (r : RuleD) (n : Int) (lb lv : Nat) : Bool :=
  if r.kind = 7 then decide (lb = 0 ∧ lv = 1 ∧ 0 ≤ n ∧ n ≤ limD D (kid0 r))
  else if r.kind = 1 then decide (0 ≤ n ∧ n ≤ limD D i ∧ lb = 0 ∧ lv = 0)
  else ownV D r n lb lv
section
variable {D : List RuleD} {i : Nat} {r : RuleD} {n : Int} {lb lv : Nat}
theorem fitV_1 (h : r.kind = 1) : fitV D i r n lb lv = decide (0 ≤ n ∧ n ≤ limD D i ∧ lb = 0 ∧ lv = 0) := by rw [fitV, if_neg (by omega), if_pos h]
theorem fitV_7 (h : r.kind = 7) : fitV D i r n lb lv = decide (lb = 0 ∧ lv = 1 ∧ 0 ≤ n ∧ n ≤ limD D (kid0 r)) := by rw [fitV, if_pos h]
theorem fitV_o (h7 : r.kind ≠ 7) (h1 : r.kind ≠ 1) : fitV D i r n lb lv = ownV D r n lb lv := by rw [fitV, if_neg h7, if_neg h1]
end
def tailF (r : RuleD) (n : Int) (lb lv : Nat) (z : Int × Int × Int) : Bool :=
  (!(r.kind == 6 || r.kind == 7 || r.kind == 9) || ((lv : Int) == z.2.2)) && ((decide (0 ≤ n) && decide (n ≤ z.1)) && (decide ((lb : Int) ≤ z.2.1) && decide ((lv : Int) ≤ z.2.2)))
theorem tailF_iff (r : RuleD) (n : Int) (lb lv : Nat) (z : Int × Int × Int) : tailF r n lb lv z = true ↔ ((r.kind = 6 ∨ r.kind = 7 ∨ r.kind = 9 → (lv : Int) = z.2.2) ∧ 0 ≤ n ∧ n ≤ z.1 ∧ (lb : Int) ≤ z.2.1 ∧ (lv : Int) ≤ z.2.2) := by
  unfold tailF
  simp only [Bool.and_eq_true, Bool.or_eq_true, Bool.not_eq_true', decide_eq_true_eq, beq_iff_eq, Bool.or_eq_false_iff, beq_eq_false_iff_ne]
  constructor
  · rintro ⟨h1, ⟨h2, h3⟩, h4, h5⟩
    exact ⟨fun h => by rcases h1 with h1 | h1 <;> omega, h2, h3, h4, h5⟩
  · rintro ⟨h1, h2, h3, h4, h5⟩
    refine ⟨?_, ⟨h2, h3⟩, h4, h5⟩
    by_cases h : r.kind = 6 ∨ r.kind = 7 ∨ r.kind = 9
    · exact .inr (h1 h)
    · exact .inl (by omega)
section
variable {M : Nat} {D : List RuleD}
private def tyF := And.intro (And.intro (And.intro (And.intro (And.intro (And.intro tb22 te22) (And.intro te24 te33)) (And.intro (And.intro te60 te61) (And.intro tf26_0 tf37_0))) (And.intro (And.intro (And.intro tf37_1 tf37_2) (And.intro tf63_0 tf63_1)) (And.intro (And.intro tf63_2 tf63_3) (And.intro tf63_4 tf63_5)))) (And.intro (And.intro (And.intro (And.intro tf63_6 tf63_7) (And.intro tk22 tk24)) (And.intro (And.intro tk26 tk3) (And.intro tk33 tk37))) (And.intro (And.intro (And.intro tk4 tk5) (And.intro tk60 tk61)) (And.intro (And.intro tk63 tk9) (And.intro tp26 (And.intro tp37 tp63)))))) (And.intro (And.intro (And.intro (And.intro (And.intro tr22 tr24) (And.intro tr26 tr3)) (And.intro (And.intro tr33 tr37) (And.intro tr4 tr5))) (And.intro (And.intro (And.intro tr60 tr61) (And.intro tr63 tr9)) (And.intro (And.intro tu22 tu24) (And.intro tu3 tu33)))) (And.intro (And.intro (And.intro (And.intro tu4 tu5) (And.intro tu60 tu61)) (And.intro (And.intro tu9 tz22) (And.intro tz24 tz26))) (And.intro (And.intro (And.intro tz3 tz33) (And.intro tz37 tz4)) (And.intro (And.intro tz5 tz60) (And.intro tz61 (And.intro tz63 tz9))))))
theorem fits_c (hD : DB M D) (hM : M ≤ 1048576) {i : Nat} {r : RuleD} (hi : D[i]? = some r) (G : GoodR D i r) {n : Int} {bs : List UInt8} {vs : List V} (hv : VB 1048576 (.mk n bs vs)) : AC Try.prog 142 [.d (encD D), .d (iD i), .d (.rp (encVc (.mk n bs vs)))] none (fun r' _ => r' = .d (bD (fitV D i r n bs.length vs.length))) := by
  unfold VB at hv
  obtain ⟨v1, v2, _⟩ := hv
  have hrk := (hD.rule r (List.mem_of_getElem? hi)).lk
  have hDl := hD.len
  obtain ⟨kd1, kd2⟩ := G.kd
  rw [encVc_mk, encVs_eq]
  refine calls_body Try.func142 rfl Try.call142 Try.ntmps142 (by simp) (by simp [ArgsOk]) (by simp [Rz.nkL, Rz.nk]) fun en hsz hks hk0 => ?_; refine enS ?_
  refine walkJS ?_
  refine aw_joinS [2, 6, 7] (fun _ _ => []) (fun _ z => [(8, .d (iD z.1)), (9, .d (iD z.2.1)), (10, .d (iD z.2.2))]) [] (fun _ _ => []) [] (fun _ _ => []) (fun z : Int × Int × Int => fitV D i r n bs.length vs.length = tailF r n bs.length vs.length z) hks (fun _ => rfl) (fun x hx => ?_) ?_; rotate_left
  · refine walkS ?_
    refine aw_condS rfl (fun n1 => ?_) (fun n1 => ?_)
    · (repeat (first | refine walkS ?_ | (refine callPre ?_; (first | refine callN_funS rfl (limI_c hD hM i) ?_)) | (refine callPreL ?_; (first | refine callL_funS rfl (limI_c hD hM i) ?_))))
      refine ⟨(limD D i, 0, 0), (by rw [Bool.eq_iff_iff, fitV_1 n1, decide_eq_true_eq, tailF_iff]; simp only; omega), ?_⟩
      exact wkS
    refine walkS ?_
    refine aw_condS rfl (fun n3 => ?_) (fun n3 => ?_)
    · refine walkS ?_
      refine aw_condS rfl (fun hne => ?_) (fun hne => ?_)
      · refine walkS ?_
        (refine aw_ret ?_; (simp only [Fin, Try.results142]; refine finS ?_); exact ⟨_, _, .inl ⟨rfl, rfl⟩, List.nodup_nil, by rw [fitV_o (by omega) (by omega), ownV_3 n3, decide_eq_false (by omega)]⟩)
      · refine walkS ?_
        refine ⟨(0, r.size, 0), (by rw [fitV_o (by omega) (by omega), ownV_3 n3, Bool.eq_iff_iff, decide_eq_true_eq, tailF_iff]; simp only; omega), ?_⟩
        exact wkS
    refine walkS ?_
    refine aw_condS rfl (fun n4 => ?_) (fun n4 => ?_)
    · have k0 := kids0 (r := r) (by have := (G.k4 n4).1; omega)
      (repeat (first | refine walkS ?_ | (refine callPre ?_; (first | refine callN_funS rfl (limI_c hD hM (kid0 r)) ?_ | refine callN_funS rfl (minI_c 400 (limD D (kid0 r))) ?_)) | (refine callPreL ?_; (first | refine callL_funS rfl (limI_c hD hM (kid0 r)) ?_ | refine callL_funS rfl (minI_c 400 (limD D (kid0 r))) ?_))))
      refine ⟨(0, minF 400 (limD D (kid0 r)), 0), (by rw [fitV_o (by omega) (by omega), ownV_4 n4, Bool.eq_iff_iff, decide_eq_true_eq, tailF_iff]; simp only; unfold minF; split <;> omega), ?_⟩
      exact wkS
    refine walkS ?_
    refine aw_condS rfl (fun n10 => ?_) (fun n10 => ?_)
    · refine walkS ?_
      refine ⟨(0, 400, 0), (by rw [fitV_o (by omega) (by omega), ownV_10 n10, Bool.eq_iff_iff, decide_eq_true_eq, tailF_iff]; simp only; omega), ?_⟩
      exact wkS
    refine walkS ?_
    refine aw_condS rfl (fun n5 => ?_) (fun n5 => ?_)
    · have k0 := kids0 (r := r) (by have := (G.k5 n5).1; omega)
      (repeat (first | refine walkS ?_ | (refine callPre ?_; (first | refine callN_funS rfl (limI_c hD hM (kid0 r)) ?_ | refine callN_funS rfl (minI_c 40 (limD D (kid0 r))) ?_)) | (refine callPreL ?_; (first | refine callL_funS rfl (limI_c hD hM (kid0 r)) ?_ | refine callL_funS rfl (minI_c 40 (limD D (kid0 r))) ?_))))
      refine ⟨(0, 0, minF 40 (limD D (kid0 r))), (by rw [fitV_o (by omega) (by omega), ownV_5 n5, Bool.eq_iff_iff, decide_eq_true_eq, tailF_iff]; simp only; unfold minF; split <;> omega), ?_⟩
      exact wkS
    refine walkS ?_
    refine aw_condS rfl (fun n6 => ?_) (fun n6 => ?_)
    · refine walkS ?_
      refine ⟨(0, 0, r.kids.length), (by rw [fitV_o (by omega) (by omega), ownV_6 n6, Bool.eq_iff_iff, decide_eq_true_eq, tailF_iff]; simp only; omega), ?_⟩
      exact wkS
    refine walkS ?_
    refine aw_condS rfl (fun n7 => ?_) (fun n7 => ?_)
    · have k0 := kids0 (r := r) (by have := (G.k7 n7).1; omega)
      (repeat (first | refine walkS ?_ | (refine callPre ?_; (first | refine callN_funS rfl (limI_c hD hM (kid0 r)) ?_)) | (refine callPreL ?_; (first | refine callL_funS rfl (limI_c hD hM (kid0 r)) ?_))))
      refine ⟨(limD D (kid0 r), 0, 1), (by rw [Bool.eq_iff_iff, fitV_7 n7, decide_eq_true_eq, tailF_iff]; simp only; omega), ?_⟩
      exact wkS
    refine walkS ?_
    refine aw_condS rfl (fun n8 => ?_) (fun n8 => ?_)
    · refine walkS ?_
      refine aw_condS rfl (fun n8b => ?_) (fun n8b => ?_)
      · refine walkS ?_
        refine ⟨(0, 0, 1), (by rw [fitV_o (by omega) (by omega), ownV_8 n8, Bool.eq_iff_iff, decide_eq_true_eq, tailF_iff]; simp only; omega), ?_⟩
        exact wkS
      · exact absurd n8 n8b
    refine walkS ?_
    refine aw_condS rfl (fun n9 => ?_) (fun n9 => ?_)
    · refine walkS ?_
      refine ⟨(0, 0, 1), (by rw [fitV_o (by omega) (by omega), ownV_9 n9, Bool.eq_iff_iff, decide_eq_true_eq, tailF_iff]; simp only; omega), ?_⟩
      exact wkS
    · have n2 : r.kind = 2 := by omega
      refine walkS ?_
      refine ⟨(0, 0, 0), (by rw [fitV_o (by omega) (by omega), ownV_2 n2, Bool.eq_iff_iff, decide_eq_true_eq, tailF_iff]; simp only; omega), ?_⟩
      exact wkS
  obtain ⟨za, zb, zc⟩ := x
  simp only at hx ⊢
  rw [hx]
  clear hx
  refine headS ?_
  refine aw_joinS [2, 6, 8, 9, 10] (fun _ _ => []) (fun _ _ => []) [] (fun _ _ => []) [] (fun _ _ => []) (fun _ : Unit => tailF r n bs.length vs.length (za, zb, zc) = ((decide (0 ≤ n) && decide (n ≤ za)) && (decide ((bs.length : Int) ≤ zb) && decide ((vs.length : Int) ≤ zc)))) hks (fun _ => rfl) (fun x hx => ?_) ?_; rotate_left
  · cases f6 : (r.kind == 6) with
    | true =>
      have nn : r.kind = 6 := by simpa using f6
      (repeat (first | refine ctlS ?_ | (refine ol_go ?_ (fun K1 hK1 => ?_); (first | exact trivial | exact rfl); refine evS ?_; (try simp only [f6]); refine hK1 _ _ ?_; clear hK1 K1) | (refine ow_go ?_ (fun x hx => by cases hx <;> (rw [hsz]; decide)) (fun K1 hK1 => ?_); (first | exact trivial | exact rfl); refine evS ?_; (try simp only [f6]); refine hK1 _ ?_; clear hK1 K1) | refine skipS ?_))
      refine aw_condS rfl (fun hne => ?_) (fun hne => ?_)
      · refine walkS ?_
        (refine aw_ret ?_; (simp only [Fin, Try.results142]; refine finS ?_); exact ⟨_, _, .inl ⟨rfl, rfl⟩, List.nodup_nil, by rw [Bool.eq_false_iff.2 (fun h => absurd (((tailF_iff _ _ _ _ _).1 h).1 (by omega)) (by simpa using hne))]⟩)
      · refine walkS ?_
        refine ⟨(), (by rw [Bool.eq_iff_iff, tailF_iff]; simp only [Bool.and_eq_true, decide_eq_true_eq]; (try simp only [ne_eq, Decidable.not_not] at hne); omega), ?_⟩
        exact wkS
    | false =>
      cases f7 : (r.kind == 7) with
      | true =>
        have nn : r.kind = 7 := by simpa using f7
        (repeat (first | refine ctlS ?_ | (refine ol_go ?_ (fun K1 hK1 => ?_); (first | exact trivial | exact rfl); refine evS ?_; (try simp only [f6, f7]); refine hK1 _ _ ?_; clear hK1 K1) | (refine ow_go ?_ (fun x hx => by cases hx <;> (rw [hsz]; decide)) (fun K1 hK1 => ?_); (first | exact trivial | exact rfl); refine evS ?_; (try simp only [f6, f7]); refine hK1 _ ?_; clear hK1 K1) | refine skipS ?_))
        refine aw_condS rfl (fun hne => ?_) (fun hne => ?_)
        · refine walkS ?_
          (refine aw_ret ?_; (simp only [Fin, Try.results142]; refine finS ?_); exact ⟨_, _, .inl ⟨rfl, rfl⟩, List.nodup_nil, by rw [Bool.eq_false_iff.2 (fun h => absurd (((tailF_iff _ _ _ _ _).1 h).1 (by omega)) (by simpa using hne))]⟩)
        · refine walkS ?_
          refine ⟨(), (by rw [Bool.eq_iff_iff, tailF_iff]; simp only [Bool.and_eq_true, decide_eq_true_eq]; (try simp only [ne_eq, Decidable.not_not] at hne); omega), ?_⟩
          exact wkS
      | false =>
        cases f9 : (r.kind == 9) with
        | true =>
          have nn : r.kind = 9 := by simpa using f9
          (repeat (first | refine ctlS ?_ | (refine ol_go ?_ (fun K1 hK1 => ?_); (first | exact trivial | exact rfl); refine evS ?_; (try simp only [f6, f7, f9]); refine hK1 _ _ ?_; clear hK1 K1) | (refine ow_go ?_ (fun x hx => by cases hx <;> (rw [hsz]; decide)) (fun K1 hK1 => ?_); (first | exact trivial | exact rfl); refine evS ?_; (try simp only [f6, f7, f9]); refine hK1 _ ?_; clear hK1 K1) | refine skipS ?_))
          refine aw_condS rfl (fun hne => ?_) (fun hne => ?_)
          · refine walkS ?_
            (refine aw_ret ?_; (simp only [Fin, Try.results142]; refine finS ?_); exact ⟨_, _, .inl ⟨rfl, rfl⟩, List.nodup_nil, by rw [Bool.eq_false_iff.2 (fun h => absurd (((tailF_iff _ _ _ _ _).1 h).1 (by omega)) (by simpa using hne))]⟩)
          · refine walkS ?_
            refine ⟨(), (by rw [Bool.eq_iff_iff, tailF_iff]; simp only [Bool.and_eq_true, decide_eq_true_eq]; (try simp only [ne_eq, Decidable.not_not] at hne); omega), ?_⟩
            exact wkS
        | false =>
          have n6 : r.kind ≠ 6 := by simpa using f6
          have n7 : r.kind ≠ 7 := by simpa using f7
          have n9 : r.kind ≠ 9 := by simpa using f9
          (repeat (first | refine ctlS ?_ | (refine ol_go ?_ (fun K1 hK1 => ?_); (first | exact trivial | exact rfl); refine evS ?_; (try simp only [f6, f7, f9]); refine hK1 _ _ ?_; clear hK1 K1) | (refine ow_go ?_ (fun x hx => by cases hx <;> (rw [hsz]; decide)) (fun K1 hK1 => ?_); (first | exact trivial | exact rfl); refine evS ?_; (try simp only [f6, f7, f9]); refine hK1 _ ?_; clear hK1 K1) | refine skipS ?_))
          refine aw_condS rfl (fun hc => ?_) (fun hc => ?_)
          · (first | exact absurd trivial hc | exact absurd rfl hc | (cases hc; done) | omega | exact absurd hc (by decide) | (simp at hc; done))
          · refine walkS ?_
            refine ⟨(), (by rw [Bool.eq_iff_iff, tailF_iff]; simp only [Bool.and_eq_true, decide_eq_true_eq]; omega), ?_⟩
            exact wkS
  rw [hx]
  clear hx
  refine headS ?_
  cases eA : (decide (0 ≤ n) && decide (n ≤ za)) with
  | false =>
    (repeat (first | refine walkS ?_ | (refine callPre ?_; (first | refine callN_funS rfl ((inRange_c n 0 za).eqv (r1 := .d (bD false)) (by rw [eA])) ?_)) | (refine callPreL ?_; (first | refine callL_funS rfl ((inRange_c n 0 za).eqv (r1 := .d (bD false)) (by rw [eA])) ?_))))
    (refine aw_ret ?_; (simp only [Fin, Try.results142]; refine finS ?_); exact ⟨_, _, .inl ⟨rfl, rfl⟩, List.nodup_nil, by rfl⟩)
  | true =>
    cases eB : decide ((bs.length : Int) ≤ zb) with
    | false =>
      (repeat (first | refine ctlS ?_ | (refine ol_go ?_ (fun K1 hK1 => ?_); (first | exact trivial | exact rfl); refine evS ?_; (try simp only [eB]); refine hK1 _ _ ?_; clear hK1 K1) | (refine ow_go ?_ (fun x hx => by cases hx <;> (rw [hsz]; decide)) (fun K1 hK1 => ?_); (first | exact trivial | exact rfl); refine evS ?_; (try simp only [eB]); refine hK1 _ ?_; clear hK1 K1) | refine skipS ?_ | (refine callPre ?_; (first | refine callN_funS rfl ((inRange_c n 0 za).eqv (r1 := .d (bD true)) (by rw [eA])) ?_)) | (refine callPreL ?_; (first | refine callL_funS rfl ((inRange_c n 0 za).eqv (r1 := .d (bD true)) (by rw [eA])) ?_))))
      (refine aw_ret ?_; (simp only [Fin, Try.results142]; refine finS ?_); exact ⟨_, _, .inl ⟨rfl, rfl⟩, List.nodup_nil, by rfl⟩)
    | true =>
      (repeat (first | refine ctlS ?_ | (refine ol_go ?_ (fun K1 hK1 => ?_); (first | exact trivial | exact rfl); refine evS ?_; (try simp only [eB]); refine hK1 _ _ ?_; clear hK1 K1) | (refine ow_go ?_ (fun x hx => by cases hx <;> (rw [hsz]; decide)) (fun K1 hK1 => ?_); (first | exact trivial | exact rfl); refine evS ?_; (try simp only [eB]); refine hK1 _ ?_; clear hK1 K1) | refine skipS ?_ | (refine callPre ?_; (first | refine callN_funS rfl ((inRange_c n 0 za).eqv (r1 := .d (bD true)) (by rw [eA])) ?_)) | (refine callPreL ?_; (first | refine callL_funS rfl ((inRange_c n 0 za).eqv (r1 := .d (bD true)) (by rw [eA])) ?_))))
      (refine aw_ret ?_; (simp only [Fin, Try.results142]; refine finS ?_); exact ⟨_, _, .inl ⟨rfl, rfl⟩, List.nodup_nil, by rfl⟩)
end
end Go.Proofs.Ytnndpimlfibncaa.Eng
