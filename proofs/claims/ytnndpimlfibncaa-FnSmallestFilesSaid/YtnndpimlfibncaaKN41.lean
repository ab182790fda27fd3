/-
  Values of a rule: the program.
-/
import Derived.Test.YtnndpimlfibncaaKN39
set_option linter.unusedSimpArgs false
set_option linter.unusedVariables false
set_option linter.defProp false
set_option maxRecDepth 100000
set_option maxHeartbeats 4000000
namespace Go.Proofs.Ytnndpimlfibncaa.Eng
open Go Go.RowKit

theorem tags_of {D : List RuleD} (h : descP D) {n : Nat} {r : RuleD} (hr : D[n]? = some r) (h7 : r.kind = 7) : ∀ t ∈ r.tags, 0 ≤ t ∧ t ≤ limD D (kid0 r) := by
  have hn : n < D.length := (List.getElem?_eq_some_iff.1 hr).1
  have hrn : ruleAt D n = some r := by simp [ruleAt, hr]
  have hp : ruleP D n r := by
    refine Classical.byContradiction fun hq => ?_
    have := h.2 n hn
    rw [vRule_no hrn hq] at this
    exact Bool.noConfusion this
  obtain ⟨_, _, hkid, hk⟩ := hp
  rw [kl_7 h7] at hk
  simp only [Bool.and_eq_true] at hk
  obtain ⟨h1, h2, h3⟩ := tagsP_of hk.2
  intro t ht
  obtain ⟨j, hj, rfl⟩ := List.getElem_of_mem ht
  have := h3 j hj
  exact this.1
theorem fit_of_own {D : List RuleD} {i : Nat} {r : RuleD} (hV : descP D) (hr : D[i]? = some r) (G : GoodR D i r) {n : Int} {lb lv : Nat} (h : ownV D r n lb lv = true) : fitV D i r n lb lv = true := by
  by_cases h7 : r.kind = 7
  · rw [ownV_7 h7, decide_eq_true_eq] at h
    obtain ⟨a1, a2, a3⟩ := h
    rw [fitV_7 h7, decide_eq_true_eq]
    cases ht : tagIx r.tags n with
    | none => rw [itemK_7n h7 ht] at a3; omega
    | some t =>
      have hlt := tagIx_lt ht
      have e : r.tags[t] = n := by
        unfold tagIx at ht
        rw [List.findIdx?_eq_some_iff_getElem] at ht
        obtain ⟨_, h2, _⟩ := ht
        simpa using h2
      have := tags_of hV hr h7 _ (List.getElem_mem hlt)
      rw [e] at this
      exact ⟨a1, a2, this⟩
  by_cases h1 : r.kind = 1
  · rw [ownV_1 h1, decide_eq_true_eq] at h
    rw [fitV_1 h1, decide_eq_true_eq, limD_good (r := r) (by simp [ruleAt, hr]) ⟨h1, G.k1 h1⟩]
    exact h
  · rw [fitV_o h7 h1]; exact h
theorem own_of_fit {D : List RuleD} {i : Nat} {r : RuleD} (hr : D[i]? = some r) (G : GoodR D i r) {n : Int} {lb lv : Nat} (h : fitV D i r n lb lv = true) (h0 : ownV D r n lb lv = false) : lv = 1 ∧ itemK r n 0 < 0 := by
  by_cases h7 : r.kind = 7
  · rw [fitV_7 h7, decide_eq_true_eq] at h
    rw [ownV_7 h7, decide_eq_false_iff_not] at h0
    omega
  by_cases h1 : r.kind = 1
  · rw [fitV_1 h1, decide_eq_true_eq, limD_good (r := r) (by simp [ruleAt, hr]) ⟨h1, G.k1 h1⟩] at h
    rw [ownV_1 h1, decide_eq_false_iff_not] at h0
    exact absurd h h0
  · rw [fitV_o h7 h1, h0] at h
    cases h

section
variable {M : Nat} {D : List RuleD}
private def tyF := And.intro (And.intro (And.intro (And.intro (And.intro (And.intro tb22 te22) (And.intro te24 te33)) (And.intro (And.intro te60 te61) (And.intro tf26_0 tf37_0))) (And.intro (And.intro (And.intro tf37_1 tf37_2) (And.intro tf63_0 tf63_1)) (And.intro (And.intro tf63_2 tf63_3) (And.intro tf63_4 (And.intro tf63_5 tf63_6))))) (And.intro (And.intro (And.intro (And.intro tf63_7 tk22) (And.intro tk24 tk26)) (And.intro (And.intro tk3 tk33) (And.intro tk37 (And.intro tk4 tk5)))) (And.intro (And.intro (And.intro tk60 tk61) (And.intro tk63 tk85)) (And.intro (And.intro tk9 tp26) (And.intro tp37 (And.intro tp63 tr22)))))) (And.intro (And.intro (And.intro (And.intro (And.intro tr24 tr26) (And.intro tr3 tr33)) (And.intro (And.intro tr37 tr4) (And.intro tr5 tr60))) (And.intro (And.intro (And.intro tr61 tr63) (And.intro tr85 tr9)) (And.intro (And.intro tu22 tu24) (And.intro tu3 (And.intro tu33 tu4))))) (And.intro (And.intro (And.intro (And.intro tu5 tu60) (And.intro tu61 tu85)) (And.intro (And.intro tu9 tz22) (And.intro tz24 (And.intro tz26 tz3)))) (And.intro (And.intro (And.intro tz33 tz37) (And.intro tz4 tz5)) (And.intro (And.intro tz60 tz61) (And.intro tz63 (And.intro tz85 tz9))))))
theorem child_c (hD : DB M D) (hM : M ≤ 1048576) {i : Nat} {r : RuleD} (hi : D[i]? = some r) (v : V) {n : Int} {bs : List UInt8} {vs : List V} (hv : v = .mk n bs vs) (k : Nat) (h5 : r.kind = 5 → 2 ≤ r.kids.length) (h7 : r.kind = 7 → r.kids.length = r.tags.length + 1) (h8 : r.kind = 8 ∨ r.kind = 9 → 1 ≤ r.kids.length) : AC Try.prog 143 [.d (encD D), .d (iD i), .d (.rp (encVc v)), .d (iD k)] none (fun r' _ => r' = .d (iD (itemK r n k))) := by
  subst hv
  have hrb := hD.rule r (List.mem_of_getElem? hi)
  have hrk := hrb.lk
  have hrt := hrb.lt
  have hDl := hD.len
  rw [encVc_mk]
  refine calls_body Try.func143 rfl Try.call143 Try.ntmps143 (by simp) (by simp [ArgsOk]) (by simp [Rz.nkL, Rz.nk]) fun en hsz hks hk0 => ?_; refine enS ?_
  refine walkS ?_
  refine aw_condS rfl (fun n5 => ?_) (fun n5 => ?_)
  · have k1 := kids1 (h5 n5)
    refine walkS ?_
    (refine aw_ret ?_; (simp only [Fin, Try.results143]; refine finS ?_); exact ⟨_, _, .inl ⟨rfl, rfl⟩, List.nodup_nil, by rw [itemK_5 n5]⟩)
  refine walkS ?_
  refine aw_condS rfl (fun n6 => ?_) (fun n6 => ?_)
  · refine walkS ?_
    refine aw_condS rfl (fun hk => ?_) (fun hk => ?_)
    · refine walkS ?_
      (refine aw_ret ?_; (simp only [Fin, Try.results143]; refine finS ?_); exact ⟨_, _, .inl ⟨rfl, rfl⟩, List.nodup_nil, by rw [itemK_6 n6 (by omega)]⟩)
    · refine walkS ?_
      (refine aw_ret ?_; (simp only [Fin, Try.results143]; refine finS ?_); exact ⟨_, _, .inl ⟨rfl, rfl⟩, List.nodup_nil, by rw [itemK_6n n6 (by omega)]⟩)
  refine walkS ?_
  refine aw_condS rfl (fun n7 => ?_) (fun n7 => ?_)
  · have hl := h7 n7
    refine walkS ?_
    refine aw_loopS [2, 8, 9, 19, 49, 50] (fun _ _ => []) (fun _ k => [(51, .d (iD (k : Nat)))]) [] (fun _ _ => []) [] (fun _ _ => []) (fun k => k ≤ r.tags.length ∧ ∀ j (hj : j < r.tags.length), j < k → r.tags[j] ≠ n) (fun k => r.tags.length - k) (0) hks (fun _ => rfl) ⟨Nat.zero_le _, fun _ _ h => absurd h (Nat.not_lt_zero _)⟩ wkS ?_; intro x hx; refine headS ?_
    obtain ⟨hx1, hx2⟩ := hx
    refine walkS ?_
    refine aw_condS rfl (fun hk => ?_) (fun hk => ?_)
    · refine walkS ?_
      refine aw_condS rfl (fun he => ?_) (fun he => ?_)
      · refine walkS ?_
        (refine aw_ret ?_; (simp only [Fin, Try.results143]; refine finS ?_); exact ⟨_, _, .inl ⟨rfl, rfl⟩, List.nodup_nil, by rw [itemK_7 n7 (tagIx_hit (by omega) he (fun j hj h => hx2 j hj h)) (by omega)]⟩)
      · refine walkS ?_
        refine ⟨x + 1, ⟨by omega, upto_succ (fun h => he) hx2⟩, by omega, ?_⟩
        exact wkS
    · refine walkS ?_
      (refine aw_ret ?_; (simp only [Fin, Try.results143]; refine finS ?_); exact ⟨_, _, .inl ⟨rfl, rfl⟩, List.nodup_nil, by rw [itemK_7n n7 (tagIx_none (k := x) (by omega) (fun j hj h => hx2 j hj (by omega)))]⟩)
  refine walkS ?_
  refine aw_condS rfl (fun n8 => ?_) (fun n8 => ?_)
  · refine walkS ?_
    refine aw_condS rfl (fun n8b => ?_) (fun n8b => ?_)
    · have k0 := kids0 (h8 (.inl n8))
      refine walkS ?_
      (refine aw_ret ?_; (simp only [Fin, Try.results143]; refine finS ?_); exact ⟨_, _, .inl ⟨rfl, rfl⟩, List.nodup_nil, by rw [itemK_8 (.inl n8)]⟩)
    · exact absurd n8 n8b
  · refine walkS ?_
    refine aw_condS rfl (fun n9 => ?_) (fun n9 => ?_)
    · have k0 := kids0 (h8 (.inr n9))
      refine walkS ?_
      (refine aw_ret ?_; (simp only [Fin, Try.results143]; refine finS ?_); exact ⟨_, _, .inl ⟨rfl, rfl⟩, List.nodup_nil, by rw [itemK_8 (.inr n9)]⟩)
    · refine walkS ?_
      (refine aw_ret ?_; (simp only [Fin, Try.results143]; refine finS ?_); exact ⟨_, _, .inl ⟨rfl, rfl⟩, List.nodup_nil, by rw [itemK_no (by omega)]⟩)

theorem validI_step (hD : DB M D) (hM : M ≤ 1048576) (hV : descP D) {i : Nat} (hi : i < D.length) {n : Int} {bs : List UInt8} {vs : List V} (hv : VB 1048576 (.mk n bs vs)) (H : ∀ v ∈ vs, ∀ j : Nat, j < D.length → AC Try.prog 116 [.d (encD D), .d (iD j), .d (.rp (encVc v))] none (fun r' _ => r' = .d (bD (validV D j v)))) : AC Try.prog 116 [.d (encD D), .d (iD i), .d (.rp (encVc (.mk n bs vs)))] none (fun r' _ => r' = .d (bD (validV D i (.mk n bs vs)))) := by
  obtain ⟨r, hr⟩ : ∃ r, D[i]? = some r := ⟨_, List.getElem?_eq_getElem hi⟩
  have G : GoodR D i r := good_of hV hr
  have HF := fits_c hD hM hr G hv
  have hl : vs.length ≤ 1048576 := by unfold VB at hv; exact hv.2.1
  have hval : validV D i (.mk n bs vs) = (ownV D r n bs.length vs.length && validVs D r n 0 vs) := by rw [validV, ruleD_get hr]
  obtain ⟨h5, h7, h8⟩ := good_items G
  have HC : ∀ k : Nat, AC Try.prog 143 [.d (encD D), .d (iD i), .d (.rp (encVc (.mk n bs vs))), .d (iD k)] none (fun r' _ => r' = .d (iD (itemK r n k))) := fun k => child_c hD hM hr _ rfl k h5 h7 h8
  rw [encVc_mk, encVs_eq] at HF ⊢
  simp only [encVc_mk, encVs_eq] at HC
  cases hF : fitV D i r n bs.length vs.length with
  | false =>
    have hO : ownV D r n bs.length vs.length = false := by
      cases hO : ownV D r n bs.length vs.length with
      | false => rfl
      | true => rw [fit_of_own hV hr G hO] at hF; cases hF
    rw [hF] at HF
    refine calls_body Try.func116 rfl Try.call116 Try.ntmps116 (by simp) (by simp [ArgsOk]) (by simp [Rz.nkL, Rz.nk]) fun en hsz hks hk0 => ?_; refine enS ?_
    (repeat (first | refine walkS ?_ | (refine callPre ?_; (first | refine callN_funS rfl (HF) ?_)) | (refine callPreL ?_; (first | refine callL_funS rfl (HF) ?_))))
    refine aw_condS rfl (fun hc => ?_) (fun hc => ?_)
    · refine walkS ?_
      (refine aw_ret ?_; (simp only [Fin, Try.results116]; refine finS ?_); exact ⟨_, _, .inl ⟨rfl, rfl⟩, List.nodup_nil, by rw [hval, hO]; rfl⟩)
    · (first | exact absurd trivial hc | exact absurd rfl hc | (cases hc; done) | omega | exact absurd hc (by decide) | (simp at hc; done))
  | true =>
    rw [hF] at HF
    cases hO : ownV D r n bs.length vs.length with
    | false =>
      obtain ⟨e1, e2⟩ := own_of_fit hr G hF hO
      have e3 : decide (itemK r n 0 < 0) = true := decide_eq_true e2
      refine calls_body Try.func116 rfl Try.call116 Try.ntmps116 (by simp) (by simp [ArgsOk]) (by simp [Rz.nkL, Rz.nk]) fun en hsz hks hk0 => ?_; refine enS ?_
      (repeat (first | refine walkS ?_ | (refine callPre ?_; (first | refine callN_funS rfl (HF) ?_)) | (refine callPreL ?_; (first | refine callL_funS rfl (HF) ?_))))
      refine aw_condS rfl (fun hc => ?_) (fun hc => ?_)
      · (first | exact absurd trivial hc | exact absurd rfl hc | (cases hc; done) | omega | exact absurd hc (by decide) | (simp at hc; done))
      refine walkS ?_
      refine aw_loopS [1, 2, 3, 6, 18] (fun _ _ => []) (fun _ k => [(19, .d (iD (k : Nat)))]) [] (fun _ _ => []) [] (fun _ _ => []) (fun k => k = 0) (fun k => vs.length - k) (0) hks (fun _ => rfl) rfl wkS ?_; intro x hx; refine headS ?_
      subst hx
      refine walkS ?_
      refine aw_condS rfl (fun hk => ?_) (fun hk => ?_)
      · (repeat (first | refine ctlS ?_ | (refine ol_go ?_ (fun K1 hK1 => ?_); (first | exact trivial | exact rfl); refine evS ?_; (try simp only [e3]); refine hK1 _ _ ?_; clear hK1 K1) | (refine ow_go ?_ (fun x hx => by cases hx <;> (rw [hsz]; decide)) (fun K1 hK1 => ?_); (first | exact trivial | exact rfl); refine evS ?_; (try simp only [e3]); refine hK1 _ ?_; clear hK1 K1) | refine skipS ?_ | (refine callPre ?_; (first | refine callN_funS rfl (HC 0) ?_)) | (refine callPreL ?_; (first | refine callL_funS rfl (HC 0) ?_))))
        refine aw_condS rfl (fun hc => ?_) (fun hc => ?_)
        · refine walkS ?_
          (refine aw_ret ?_; (simp only [Fin, Try.results116]; refine finS ?_); exact ⟨_, _, .inl ⟨rfl, rfl⟩, List.nodup_nil, by rw [hval, hO]; rfl⟩)
        · (first | exact absurd trivial hc | exact absurd rfl hc | (cases hc; done) | omega | exact absurd hc (by decide) | (simp at hc; done))
      · omega
    | true =>
      have hkid : ∀ k (h : k < vs.length), ∃ j : Nat, itemK r n k = j ∧ j < D.length := fun k h => own_kid G hi hO h
      rw [hO, Bool.true_and] at hval
      refine calls_body Try.func116 rfl Try.call116 Try.ntmps116 (by simp) (by simp [ArgsOk]) (by simp [Rz.nkL, Rz.nk]) fun en hsz hks hk0 => ?_; refine enS ?_
      (repeat (first | refine walkS ?_ | (refine callPre ?_; (first | refine callN_funS rfl (HF) ?_)) | (refine callPreL ?_; (first | refine callL_funS rfl (HF) ?_))))
      refine aw_condS rfl (fun hc => ?_) (fun hc => ?_)
      · (first | exact absurd trivial hc | exact absurd rfl hc | (cases hc; done) | omega | exact absurd hc (by decide) | (simp at hc; done))
      refine walkS ?_
      refine aw_loopS [1, 2, 3, 6, 18] (fun _ _ => []) (fun _ k => [(19, .d (iD (k : Nat)))]) [] (fun _ _ => []) [] (fun _ _ => []) (fun k => k ≤ vs.length ∧ validVs D r n 0 vs = validVs D r n k (vs.drop k)) (fun k => vs.length - k) (0) hks (fun _ => rfl) ⟨Nat.zero_le _, rfl⟩ wkS ?_; intro x hx; refine headS ?_
      obtain ⟨hx1, hx2⟩ := hx
      refine walkS ?_
      refine aw_condS rfl (fun hk => ?_) (fun hk => ?_)
      · obtain ⟨j, hj1, hj2⟩ := hkid x (by omega)
        have HV := H (vs[x]'(by omega)) (List.getElem_mem _) j hj2
        have HCx := HC x
        rw [hj1] at HCx
        have e3 : decide ((j : Int) < 0) = false := decide_eq_false (by omega)
        rw [List.drop_eq_getElem_cons (show x < vs.length by omega), validVs, hj1] at hx2
        cases he : validV D j (vs[x]'(by omega)) with
        | false =>
          rw [he] at hx2 HV
          (repeat (first | refine ctlS ?_ | (refine ol_go ?_ (fun K1 hK1 => ?_); (first | exact trivial | exact rfl); refine evS ?_; (try simp only [e3]); refine hK1 _ _ ?_; clear hK1 K1) | (refine ow_go ?_ (fun x hx => by cases hx <;> (rw [hsz]; decide)) (fun K1 hK1 => ?_); (first | exact trivial | exact rfl); refine evS ?_; (try simp only [e3]); refine hK1 _ ?_; clear hK1 K1) | refine skipS ?_ | (refine callPre ?_; (first | refine callN_funS rfl (HCx) ?_ | refine callN_funS rfl (HV) ?_)) | (refine callPreL ?_; (first | refine callL_funS rfl (HCx) ?_ | refine callL_funS rfl (HV) ?_))))
          refine aw_condS rfl (fun hc => ?_) (fun hc => ?_)
          · refine walkS ?_
            (refine aw_ret ?_; (simp only [Fin, Try.results116]; refine finS ?_); exact ⟨_, _, .inl ⟨rfl, rfl⟩, List.nodup_nil, by rw [hval, hx2]; rfl⟩)
          · (first | exact absurd trivial hc | exact absurd rfl hc | (cases hc; done) | omega | exact absurd hc (by decide) | (simp at hc; done))
        | true =>
          rw [he, Bool.true_and] at hx2
          rw [he] at HV
          (repeat (first | refine ctlS ?_ | (refine ol_go ?_ (fun K1 hK1 => ?_); (first | exact trivial | exact rfl); refine evS ?_; (try simp only [e3]); refine hK1 _ _ ?_; clear hK1 K1) | (refine ow_go ?_ (fun x hx => by cases hx <;> (rw [hsz]; decide)) (fun K1 hK1 => ?_); (first | exact trivial | exact rfl); refine evS ?_; (try simp only [e3]); refine hK1 _ ?_; clear hK1 K1) | refine skipS ?_ | (refine callPre ?_; (first | refine callN_funS rfl (HCx) ?_ | refine callN_funS rfl (HV) ?_)) | (refine callPreL ?_; (first | refine callL_funS rfl (HCx) ?_ | refine callL_funS rfl (HV) ?_))))
          refine aw_condS rfl (fun hc => ?_) (fun hc => ?_)
          · (first | exact absurd trivial hc | exact absurd rfl hc | (cases hc; done) | omega | exact absurd hc (by decide) | (simp at hc; done))
          · refine walkS ?_
            refine ⟨x + 1, ⟨by omega, hx2⟩, by omega, ?_⟩
            exact wkS
      · rw [List.drop_eq_nil_of_le (by omega), validVs] at hx2
        refine walkS ?_
        (refine aw_ret ?_; (simp only [Fin, Try.results116]; refine finS ?_); exact ⟨_, _, .inl ⟨rfl, rfl⟩, List.nodup_nil, by rw [hval, hx2]⟩)
theorem validI_all (hD : DB M D) (hM : M ≤ 1048576) (hV : descP D) : ∀ N : Nat, ∀ {v : V} {i : Nat}, i < D.length → SizeOf.sizeOf v ≤ N → VB 1048576 v → AC Try.prog 116 [.d (encD D), .d (iD i), .d (.rp (encVc v))] none (fun r' _ => r' = .d (bD (validV D i v)))
  | 0, .mk n bs vs, i, _, h, _ => by simp only [V.mk.sizeOf_spec] at h; omega
  | N + 1, .mk n bs vs, i, hi, h, hv => validI_step hD hM hV hi hv fun v hvm j hj => validI_all hD hM hV N hj (by have := item_lt (n := n) (bs := bs) hvm; omega) (by unfold VB at hv; exact hv.2.2.el v hvm)
end
end Go.Proofs.Ytnndpimlfibncaa.Eng
