/-
  The checker: choices, options, what is checked.
-/
import Derived.Test.YtlcnmoolicfinaaGreatDoorKN12
set_option linter.unusedSimpArgs false
set_option linter.unusedVariables false
set_option linter.defProp false
set_option maxRecDepth 100000
set_option maxHeartbeats 4000000
namespace Go.Proofs.YtlcnmoolicfinaaGreatDoor.Eng
open Go Go.RowKit

section
variable {M : Nat} {D : List RuleD} {b : List UInt8}

private def tyF := And.intro (And.intro (And.intro (And.intro (And.intro (And.intro tb25 te25) (And.intro te28 te44)) (And.intro (And.intro te45 tf102_0) (And.intro tf102_1 (And.intro tf108_0 tf108_1)))) (And.intro (And.intro (And.intro tf108_2 tf30_0) (And.intro tf52_0 tf52_1)) (And.intro (And.intro tf52_2 tf52_3) (And.intro tf52_4 (And.intro tf52_5 tf52_6))))) (And.intro (And.intro (And.intro (And.intro tf52_7 tk102) (And.intro tk106 tk108)) (And.intro (And.intro tk25 tk28) (And.intro tk3 (And.intro tk30 tk4)))) (And.intro (And.intro (And.intro tk44 tk45) (And.intro tk5 tk52)) (And.intro (And.intro tk9 tp102) (And.intro tp108 (And.intro tp30 tp52)))))) (And.intro (And.intro (And.intro (And.intro (And.intro tq102 tr102) (And.intro tr106 tr108)) (And.intro (And.intro tr25 tr28) (And.intro tr3 (And.intro tr30 tr4)))) (And.intro (And.intro (And.intro tr44 tr45) (And.intro tr5 tr52)) (And.intro (And.intro tr9 tu106) (And.intro tu25 (And.intro tu28 tu3))))) (And.intro (And.intro (And.intro (And.intro tu4 tu44) (And.intro tu45 tu5)) (And.intro (And.intro tu9 tz102) (And.intro tz106 (And.intro tz108 tz25)))) (And.intro (And.intro (And.intro tz28 tz3) (And.intro tz30 tz4)) (And.intro (And.intro tz44 tz45) (And.intro tz5 (And.intro tz52 tz9))))))
theorem choice_go (hD : DB M D) (hM : M ≤ 1048576) (hb : b.length ≤ 1048576) {f : Nat} (H : CkOK D b f) {n : Nat} {r : RuleD} (hr : D[n]? = some r) (hn : n ≤ f) {j : Nat} {q : RuleD} (hkid : r.kids[0]? = some (j : Int)) (hj : D[j]? = some q) (hq : 1 ≤ q.size ∧ q.size ≤ 4) (p : Nat) (hp : p ≤ b.length) (a : Int)
    {m0 q0 c0 : Nat} (hnum : numP q b p = (m0, q0, c0)) (hq0 : q0 ≤ b.length) {S : Nat × Nat} {T : Int} (h1 : c0 ≠ 0 → S = (q0, c0) ∧ T = a + 1) (h2 : c0 = 0 → (∀ i (hi : i < r.tags.length), r.tags[i] ≠ m0) → S = (p, 3) ∧ T = a + 1)
    (h3 : c0 = 0 → ∀ k (hk : k < r.tags.length), r.tags[k] = m0 → (∀ i (hi : i < r.tags.length), i < k → r.tags[i] ≠ m0) → ∃ kk : Nat, r.kids[k + 1]? = some (kk : Int) ∧ kk < n ∧ S = (rd D b f kk q0).2 ∧ T = a + 1 + (cnt D b f kk q0 : Nat)) :
    AC Tryz.prog 81 [.ptr 0 0, .d (encR r), .d (iD p)] (some ((chk D b a).map .d)) (fun r' b' => r' = .d (spotD S) ∧ b' = some ((chk D b T).map .d)) := by
  have hrb := hD.rule r (List.mem_of_getElem? hr)
  have hlt := hrb.lt
  have hnl : n < D.length := (List.getElem?_eq_some_iff.1 hr).1
  have HN := number_c hD hM hb a hj hq p hp
  rw [hnum] at HN
  refine calls_body Tryz.func81 rfl Tryz.call81 Tryz.ntmps81 (by simp) (by simp [ArgsOk]) (by simp [Rz.nkL, Rz.nk]) fun en hsz hks hk0 => ?_; refine enS ?_
  (repeat (first | refine walkS ?_ | (refine ol_call1r (k := 0) ?_ rfl (HN) rfl rfl ⟨0, List.mem_cons_self⟩ ?_; (first | exact trivial | exact rfl); simp only [St.set, List.map_cons, List.map_nil, Nat.reduceAdd, Nat.reduceMul]) | (refine ow_call1d (k := 0) ?_ (fun x hx => by cases hx <;> (rw [hsz]; decide)) rfl (HN) rfl rfl ?_; (first | exact trivial | exact rfl); simp only [St.set, List.map_cons, List.map_nil, Nat.reduceAdd]) | (refine ol_call1d (k := 0) ?_ rfl (HN) rfl rfl ⟨0, List.mem_cons_self⟩ ?_; (first | exact trivial | exact rfl); simp only [St.set, List.map_cons, List.map_nil, Nat.reduceAdd])))
  refine aw_condS rfl (fun hc0 => ?_) (fun hc0 => ?_)
  · obtain ⟨e1, e2⟩ := h1 (by omega)
    refine walkS ?_
    (refine aw_ret ?_; (simp only [Fin, Tryz.results81]; refine finS ?_); exact ⟨_, [], .inl ⟨rfl, rfl⟩, _, (chk D b (a + 1) : List Eng.D).map .d, [], rfl, toZL_d _ (chk D b (a + 1)), by simp, by rw [e1], by rw [e2]; rfl⟩)
  · have hc0' : c0 = 0 := by omega
    refine walkS ?_
    refine aw_loopS [0, 2, 4, 6, 7, 8, 26, 27] (fun _ _ => []) (fun _ k => [(28, .d (iD (k : Nat)))]) [] (fun _ _ => []) [] (fun _ _ => []) (fun k : Nat => k ≤ r.tags.length ∧ ∀ i (hi : i < r.tags.length), i < k → r.tags[i] ≠ m0) (fun k => r.tags.length - k) (0) hks (fun _ => rfl) ⟨Nat.zero_le _, fun _ _ h => absurd h (Nat.not_lt_zero _)⟩ wkS ?_; intro x hx; refine headS ?_
    obtain ⟨hx1, hx2⟩ := hx
    refine walkS ?_
    refine aw_condS rfl (fun hk => ?_) (fun hk => ?_)
    · refine walkS ?_
      refine aw_condS rfl (fun he => ?_) (fun he => ?_)
      · obtain ⟨kk, g1, g2, g3, g4⟩ := h3 hc0' x (by omega) he (fun i hi h => hx2 i hi h)
        have HV := H kk q0 (a + 1) (by omega) (by omega) hq0
        (repeat (first | refine walkS ?_ | (refine ol_call1r (k := 0) ?_ rfl (HV) rfl rfl ⟨0, List.mem_cons_self⟩ ?_; (first | exact trivial | exact rfl); simp only [St.set, List.map_cons, List.map_nil, Nat.reduceAdd, Nat.reduceMul]) | (refine ow_call1d (k := 0) ?_ (fun x hx => by cases hx <;> (rw [hsz]; decide)) rfl (HV) rfl rfl ?_; (first | exact trivial | exact rfl); simp only [St.set, List.map_cons, List.map_nil, Nat.reduceAdd]) | (refine ol_call1d (k := 0) ?_ rfl (HV) rfl rfl ⟨0, List.mem_cons_self⟩ ?_; (first | exact trivial | exact rfl); simp only [St.set, List.map_cons, List.map_nil, Nat.reduceAdd])))
        (refine aw_ret ?_; (simp only [Fin, Tryz.results81]; refine finS ?_); exact ⟨_, [], .inl ⟨rfl, rfl⟩, _, (chk D b (a + 1 + (cnt D b f kk q0 : Nat)) : List Eng.D).map .d, [], rfl, toZL_d _ (chk D b (a + 1 + (cnt D b f kk q0 : Nat))), by simp, by rw [g3], by rw [g4]; rfl⟩)
      · refine walkS ?_
        refine ⟨x + 1, ⟨by omega, upto_succ (fun h => he) hx2⟩, by omega, ?_⟩
        exact wkS
    · obtain ⟨e1, e2⟩ := h2 hc0' (fun i hi => hx2 i hi (by omega))
      refine walkS ?_
      (refine aw_ret ?_; (simp only [Fin, Tryz.results81]; refine finS ?_); exact ⟨_, [], .inl ⟨rfl, rfl⟩, _, (chk D b (a + 1) : List Eng.D).map .d, [], rfl, toZL_d _ (chk D b (a + 1)), by simp, by rw [e1]; rfl, by rw [e2]; rfl⟩)

theorem option_c (hD : DB M D) (hM : M ≤ 1048576) (hb : b.length ≤ 1048576) {f : Nat} (H : CkOK D b f) {n : Nat} {r : RuleD} (hr : D[n]? = some r) (hn : n ≤ f) (G : GoodR D n r) (hk : r.kind = 8) (p : Nat) (hp : p ≤ b.length) (a : Int) :
    AC Tryz.prog 82 [.ptr 0 0, .d (encR r), .d (iD p)] (some ((chk D b a).map .d)) (fun r' b' => r' = .d (spotD (rd D b (f + 1) n p).2) ∧ b' = some ((chk D b (a - 1 + (cnt D b (f + 1) n p : Nat))).map .d)) := by
  have g1 := G.k8 hk
  obtain ⟨kk, ex, hkk⟩ := kid_nat G (by omega)
  have hkid : r.kids[0]? = some (kk : Int) := by rw [kids0 (by omega), ex]
  have hrd := ruleD_get hr
  have hnl : n < D.length := (List.getElem?_eq_some_iff.1 hr).1
  have HS := skip_c D hb a p hp 1 (by omega)
  cases hc0 : b[p]? with
  | none =>
    have hpl : b.length ≤ p := List.getElem?_eq_none_iff.1 hc0
    have e : skipP b p 1 = (p, 1) := if_pos (by omega)
    rw [e] at HS
    have hT : a - 1 + (cnt D b (f + 1) n p : Nat) = a := by rw [cnt_8n hrd hk hc0]; omega
    refine calls_body Tryz.func82 rfl Tryz.call82 Tryz.ntmps82 (by simp) (by simp [ArgsOk]) (by simp [Rz.nkL, Rz.nk]) fun en hsz hks hk0 => ?_; refine enS ?_
    (repeat (first | refine walkS ?_ | (refine ol_call1r (k := 0) ?_ rfl (HS) rfl rfl ⟨0, List.mem_cons_self⟩ ?_; (first | exact trivial | exact rfl); simp only [St.set, List.map_cons, List.map_nil, Nat.reduceAdd, Nat.reduceMul]) | (refine ow_call1d (k := 0) ?_ (fun x hx => by cases hx <;> (rw [hsz]; decide)) rfl (HS) rfl rfl ?_; (first | exact trivial | exact rfl); simp only [St.set, List.map_cons, List.map_nil, Nat.reduceAdd]) | (refine ol_call1d (k := 0) ?_ rfl (HS) rfl rfl ⟨0, List.mem_cons_self⟩ ?_; (first | exact trivial | exact rfl); simp only [St.set, List.map_cons, List.map_nil, Nat.reduceAdd])))
    refine aw_condS rfl (fun hc => ?_) (fun hc => ?_)
    · refine walkS ?_
      (refine aw_ret ?_; (simp only [Fin, Tryz.results82]; refine finS ?_); exact ⟨_, [], .inl ⟨rfl, rfl⟩, _, (chk D b a : List Eng.D).map .d, [], rfl, toZL_d _ (chk D b a), by simp, by rw [rd_8n hrd hk hc0], by rw [hT]; rfl⟩)
    · (first | exact absurd trivial hc | exact absurd rfl hc | (cases hc; done) | omega | exact absurd hc (by decide) | (simp at hc; done))
  | some c =>
    have hpl := get_lt hc0
    have e : skipP b p 1 = (p + 1, 0) := if_neg (by omega)
    rw [e] at HS
    have hle := u8le c
    by_cases h1 : 1 < c.toNat
    · have hT : a - 1 + (cnt D b (f + 1) n p : Nat) = a := by rw [cnt_8f hrd hk hc0 h1]; omega
      refine calls_body Tryz.func82 rfl Tryz.call82 Tryz.ntmps82 (by simp) (by simp [ArgsOk]) (by simp [Rz.nkL, Rz.nk]) fun en hsz hks hk0 => ?_; refine enS ?_
      (repeat (first | refine walkS ?_ | (refine ol_call1r (k := 0) ?_ rfl (HS) rfl rfl ⟨0, List.mem_cons_self⟩ ?_; (first | exact trivial | exact rfl); simp only [St.set, List.map_cons, List.map_nil, Nat.reduceAdd, Nat.reduceMul]) | (refine ow_call1d (k := 0) ?_ (fun x hx => by cases hx <;> (rw [hsz]; decide)) rfl (HS) rfl rfl ?_; (first | exact trivial | exact rfl); simp only [St.set, List.map_cons, List.map_nil, Nat.reduceAdd]) | (refine ol_call1d (k := 0) ?_ rfl (HS) rfl rfl ⟨0, List.mem_cons_self⟩ ?_; (first | exact trivial | exact rfl); simp only [St.set, List.map_cons, List.map_nil, Nat.reduceAdd])))
      refine aw_condS rfl (fun hc => ?_) (fun hc => ?_)
      · omega
      refine walkS ?_
      refine aw_condS rfl (fun hc => ?_) (fun hc => ?_)
      · refine walkS ?_
        (refine aw_ret ?_; (simp only [Fin, Tryz.results82]; refine finS ?_); exact ⟨_, [], .inl ⟨rfl, rfl⟩, _, (chk D b a : List Eng.D).map .d, [], rfl, toZL_d _ (chk D b a), by simp, by rw [rd_8f hrd hk hc0 h1]; rfl, by rw [hT]; rfl⟩)
      · omega
    · have hf := congrArg (·.2) (rd_8s (f := f) hrd hk hc0 h1)
      have hC := cnt_8s (f := f) hrd hk hc0 h1
      rw [show (kid0 r).toNat = kk by omega] at hf hC
      simp only [mkItems_2] at hf
      by_cases h0 : c.toNat = 0
      · rw [h0, List.replicate_zero] at hf hC
        have hT : a - 1 + (cnt D b (f + 1) n p : Nat) = a := by rw [hC]; simp [cntItems]
        refine calls_body Tryz.func82 rfl Tryz.call82 Tryz.ntmps82 (by simp) (by simp [ArgsOk]) (by simp [Rz.nkL, Rz.nk]) fun en hsz hks hk0 => ?_; refine enS ?_
        (repeat (first | refine walkS ?_ | (refine ol_call1r (k := 0) ?_ rfl (HS) rfl rfl ⟨0, List.mem_cons_self⟩ ?_; (first | exact trivial | exact rfl); simp only [St.set, List.map_cons, List.map_nil, Nat.reduceAdd, Nat.reduceMul]) | (refine ow_call1d (k := 0) ?_ (fun x hx => by cases hx <;> (rw [hsz]; decide)) rfl (HS) rfl rfl ?_; (first | exact trivial | exact rfl); simp only [St.set, List.map_cons, List.map_nil, Nat.reduceAdd]) | (refine ol_call1d (k := 0) ?_ rfl (HS) rfl rfl ⟨0, List.mem_cons_self⟩ ?_; (first | exact trivial | exact rfl); simp only [St.set, List.map_cons, List.map_nil, Nat.reduceAdd])))
        refine aw_condS rfl (fun hc => ?_) (fun hc => ?_)
        · refine walkS ?_
          (refine aw_ret ?_; (simp only [Fin, Tryz.results82]; refine finS ?_); exact ⟨_, [], .inl ⟨rfl, rfl⟩, _, (chk D b a : List Eng.D).map .d, [], rfl, toZL_d _ (chk D b a), by simp, by rw [hf]; rfl, by rw [hT]; rfl⟩)
        · omega
      · rw [show c.toNat = 1 by omega, List.replicate_one, rdItems_one2] at hf
        rw [show c.toNat = 1 by omega, List.replicate_one, cntItems_one] at hC
        have hT : a - 1 + (cnt D b (f + 1) n p : Nat) = a + (cnt D b f kk (p + 1) : Nat) := by rw [hC]; omega
        have HV := H kk (p + 1) a (by omega) (by omega) (by omega)
        refine calls_body Tryz.func82 rfl Tryz.call82 Tryz.ntmps82 (by simp) (by simp [ArgsOk]) (by simp [Rz.nkL, Rz.nk]) fun en hsz hks hk0 => ?_; refine enS ?_
        (repeat (first | refine walkS ?_ | (refine ol_call1r (k := 0) ?_ rfl (HS) rfl rfl ⟨0, List.mem_cons_self⟩ ?_; (first | exact trivial | exact rfl); simp only [St.set, List.map_cons, List.map_nil, Nat.reduceAdd, Nat.reduceMul]) | (refine ow_call1d (k := 0) ?_ (fun x hx => by cases hx <;> (rw [hsz]; decide)) rfl (HS) rfl rfl ?_; (first | exact trivial | exact rfl); simp only [St.set, List.map_cons, List.map_nil, Nat.reduceAdd]) | (refine ol_call1d (k := 0) ?_ rfl (HS) rfl rfl ⟨0, List.mem_cons_self⟩ ?_; (first | exact trivial | exact rfl); simp only [St.set, List.map_cons, List.map_nil, Nat.reduceAdd])))
        refine aw_condS rfl (fun hc => ?_) (fun hc => ?_)
        · omega
        refine walkS ?_
        refine aw_condS rfl (fun hc => ?_) (fun hc => ?_)
        · omega
        (repeat (first | refine walkS ?_ | (refine ol_call1r (k := 0) ?_ rfl (HV) rfl rfl ⟨0, List.mem_cons_self⟩ ?_; (first | exact trivial | exact rfl); simp only [St.set, List.map_cons, List.map_nil, Nat.reduceAdd, Nat.reduceMul]) | (refine ow_call1d (k := 0) ?_ (fun x hx => by cases hx <;> (rw [hsz]; decide)) rfl (HV) rfl rfl ?_; (first | exact trivial | exact rfl); simp only [St.set, List.map_cons, List.map_nil, Nat.reduceAdd]) | (refine ol_call1d (k := 0) ?_ rfl (HV) rfl rfl ⟨0, List.mem_cons_self⟩ ?_; (first | exact trivial | exact rfl); simp only [St.set, List.map_cons, List.map_nil, Nat.reduceAdd])))
        (refine aw_ret ?_; (simp only [Fin, Tryz.results82]; refine finS ?_); exact ⟨_, [], .inl ⟨rfl, rfl⟩, _, (chk D b (a + (cnt D b f kk (p + 1) : Nat)) : List Eng.D).map .d, [], rfl, toZL_d _ (chk D b (a + (cnt D b f kk (p + 1) : Nat))), by simp, by rw [hf], by rw [hT]; rfl⟩)
end
end Go.Proofs.YtlcnmoolicfinaaGreatDoor.Eng
