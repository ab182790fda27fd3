/-
  The checker: choices, options, what is checked.
-/
import Derived.Test.YtcpboonjaceneaaKN12
set_option linter.unusedSimpArgs false
set_option linter.unusedVariables false
namespace Go.Proofs.Ytcpboonjaceneaa.Eng
open Go Go.RowKit

section
variable {M : Nat} {D : List RuleD} {b : List UInt8}

private theorem tyF : ((((((tyElem Try.prog 22 = some 5 ∧ tyElem Try.prog 24 = some 87) ∧ (tyElem Try.prog 84 = some 9 ∧ tyElem Try.prog 85 = some 3)) ∧ ((tyField Try.prog 26 0 = some (0, 24) ∧ tyField Try.prog 65 0 = some (0, 26)) ∧ (tyField Try.prog 65 1 = some (1, 22) ∧ tyField Try.prog 65 2 = some (2, 3)))) ∧ (((tyField Try.prog 67 0 = some (0, 3) ∧ tyField Try.prog 67 1 = some (1, 3)) ∧ (tyField Try.prog 87 0 = some (0, 9) ∧ tyField Try.prog 87 1 = some (1, 3))) ∧ ((tyField Try.prog 87 2 = some (2, 3) ∧ tyField Try.prog 87 3 = some (3, 4)) ∧ (tyField Try.prog 87 4 = some (4, 22) ∧ (tyField Try.prog 87 5 = some (5, 84) ∧ tyField Try.prog 87 6 = some (6, 85)))))) ∧ ((((tyField Try.prog 87 7 = some (7, 85) ∧ tyK Try.prog 22 = some (false, 1)) ∧ (tyK Try.prog 24 = some (false, 1) ∧ tyK Try.prog 26 = some (true, 1))) ∧ ((tyK Try.prog 3 = some (false, 1) ∧ tyK Try.prog 4 = some (false, 1)) ∧ (tyK Try.prog 5 = some (false, 1) ∧ (tyK Try.prog 63 = some (false, 1) ∧ tyK Try.prog 65 = some (true, 3))))) ∧ (((tyK Try.prog 67 = some (true, 2) ∧ tyK Try.prog 84 = some (false, 1)) ∧ (tyK Try.prog 85 = some (false, 1) ∧ tyK Try.prog 87 = some (true, 8))) ∧ ((tyK Try.prog 9 = some (false, 1) ∧ tyPlaces Try.prog 26 = some [(0, 1)]) ∧ (tyPlaces Try.prog 65 = some [(0, 1), (1, 1), (2, 1)] ∧ (tyPlaces Try.prog 67 = some [(0, 1), (1, 1)] ∧ tyPlaces Try.prog 87 = some [(0, 1), (1, 1), (2, 1), (3, 1), (4, 1), (5, 1), (6, 1), (7, 1)])))))) ∧ (((((tyFlat Try.prog 67 = some [0, 0] ∧ tyRow Try.prog 22 = some 1) ∧ (tyRow Try.prog 24 = some 1 ∧ tyRow Try.prog 26 = some 1)) ∧ ((tyRow Try.prog 3 = some 1 ∧ tyRow Try.prog 4 = some 1) ∧ (tyRow Try.prog 5 = some 1 ∧ (tyRow Try.prog 63 = some 1 ∧ tyRow Try.prog 65 = some 3)))) ∧ (((tyRow Try.prog 67 = some 2 ∧ tyRow Try.prog 84 = some 1) ∧ (tyRow Try.prog 85 = some 1 ∧ tyRow Try.prog 87 = some 8)) ∧ ((tyRow Try.prog 9 = some 1 ∧ Try.prog.underlying 22 = some (TypeDesc.slice 5)) ∧ (Try.prog.underlying 24 = some (TypeDesc.slice 87) ∧ (Try.prog.underlying 3 = some (TypeDesc.int IntKind.i64) ∧ Try.prog.underlying 4 = some (TypeDesc.bool)))))) ∧ ((((Try.prog.underlying 5 = some (TypeDesc.int IntKind.u8) ∧ Try.prog.underlying 63 = some (TypeDesc.pointer 65)) ∧ (Try.prog.underlying 84 = some (TypeDesc.slice 9) ∧ Try.prog.underlying 85 = some (TypeDesc.slice 3))) ∧ ((Try.prog.underlying 9 = some (TypeDesc.string) ∧ tyZero Try.prog 22 = some [Value.slice none 0 0]) ∧ (tyZero Try.prog 24 = some [Value.slice none 0 0] ∧ (tyZero Try.prog 26 = some [Value.slice none 0 0] ∧ tyZero Try.prog 3 = some [Value.int IntKind.i64 0])))) ∧ (((tyZero Try.prog 4 = some [Value.bool false] ∧ tyZero Try.prog 5 = some [Value.int IntKind.u8 0]) ∧ (tyZero Try.prog 63 = some [Value.pointer none] ∧ tyZero Try.prog 65 = some [Value.slice none 0 0, Value.slice none 0 0, Value.int IntKind.i64 0])) ∧ ((tyZero Try.prog 67 = some [Value.int IntKind.i64 0, Value.int IntKind.i64 0] ∧ tyZero Try.prog 84 = some [Value.slice none 0 0]) ∧ (tyZero Try.prog 85 = some [Value.slice none 0 0] ∧ (tyZero Try.prog 87 = some [Value.string ByteArray.empty, Value.int IntKind.i64 0, Value.int IntKind.i64 0, Value.bool false, Value.slice none 0 0, Value.slice none 0 0, Value.slice none 0 0, Value.slice none 0 0] ∧ tyZero Try.prog 9 = some [Value.string ByteArray.empty]))))))) := ⟨⟨⟨⟨⟨⟨te22, te24⟩, ⟨te84, te85⟩⟩, ⟨⟨tf26_0, tf65_0⟩, ⟨tf65_1, tf65_2⟩⟩⟩, ⟨⟨⟨tf67_0, tf67_1⟩, ⟨tf87_0, tf87_1⟩⟩, ⟨⟨tf87_2, tf87_3⟩, ⟨tf87_4, ⟨tf87_5, tf87_6⟩⟩⟩⟩⟩, ⟨⟨⟨⟨tf87_7, tk22⟩, ⟨tk24, tk26⟩⟩, ⟨⟨tk3, tk4⟩, ⟨tk5, ⟨tk63, tk65⟩⟩⟩⟩, ⟨⟨⟨tk67, tk84⟩, ⟨tk85, tk87⟩⟩, ⟨⟨tk9, tp26⟩, ⟨tp65, ⟨tp67, tp87⟩⟩⟩⟩⟩⟩, ⟨⟨⟨⟨⟨tq67, tr22⟩, ⟨tr24, tr26⟩⟩, ⟨⟨tr3, tr4⟩, ⟨tr5, ⟨tr63, tr65⟩⟩⟩⟩, ⟨⟨⟨tr67, tr84⟩, ⟨tr85, tr87⟩⟩, ⟨⟨tr9, tu22⟩, ⟨tu24, ⟨tu3, tu4⟩⟩⟩⟩⟩, ⟨⟨⟨⟨tu5, tu63⟩, ⟨tu84, tu85⟩⟩, ⟨⟨tu9, tz22⟩, ⟨tz24, ⟨tz26, tz3⟩⟩⟩⟩, ⟨⟨⟨tz4, tz5⟩, ⟨tz63, tz65⟩⟩, ⟨⟨tz67, tz84⟩, ⟨tz85, ⟨tz87, tz9⟩⟩⟩⟩⟩⟩⟩
set_option maxRecDepth 100000 in
set_option maxHeartbeats 2000000 in
theorem choice_go (hD : DB M D) (hM : M ≤ 1048576) (hb : b.length ≤ 1048576) {f : Nat} (H : CkOK D b f) {n : Nat} {r : RuleD} (hr : D[n]? = some r) (hn : n ≤ f) {j : Nat} {q : RuleD} (hkid : r.kids[0]? = some (j : Int)) (hj : D[j]? = some q) (hq : 1 ≤ q.size ∧ q.size ≤ 4) (p : Nat) (hp : p ≤ b.length) (a : Int)
    {m0 q0 c0 : Nat} (hnum : numP q b p = (m0, q0, c0)) (hq0 : q0 ≤ b.length) {S : Nat × Nat} {T : Int} (h1 : c0 ≠ 0 → S = (q0, c0) ∧ T = a + 1) (h2 : c0 = 0 → (∀ i (hi : i < r.tags.length), r.tags[i] ≠ m0) → S = (p, 3) ∧ T = a + 1)
    (h3 : c0 = 0 → ∀ k (hk : k < r.tags.length), r.tags[k] = m0 → (∀ i (hi : i < r.tags.length), i < k → r.tags[i] ≠ m0) → ∃ kk : Nat, r.kids[k + 1]? = some (kk : Int) ∧ kk < n ∧ S = (rd D b f kk q0).2 ∧ T = a + 1 + (cnt D b f kk q0 : Nat)) :
    AC Try.prog 75 [.ptr 0 0, .d (encR r), .d (iD p)] (some ((chk D b a).map .d)) (fun r' b' => r' = .d (spotD S) ∧ b' = some ((chk D b T).map .d)) := by
  have hrb := hD.rule r (List.mem_of_getElem? hr)
  have hlt := hrb.lt
  have hnl : n < D.length := (List.getElem?_eq_some_iff.1 hr).1
  have HN := number_c hD hM hb a hj hq p hp
  rw [hnum] at HN
  refine calls_body Try.func75 rfl Try.call75 Try.ntmps75 (by simp) (by simp [ArgsOk]) (by simp [Rz.nkL, Rz.nk]) fun en hsz hks hk0 => ?_; simp only [St.init, frOf, Rz.addSL, Rz.addS, Rz.toAL, Rz.toA, Rz.nk, List.zipIdx_cons, List.zipIdx_nil, List.map_cons, List.map_nil, Nat.zero_add, Nat.reduceAdd]
  (repeat (first | refine walkS ?_ | (refine ow_call1d (k := 0) ?_ (fun x hx => by cases hx <;> (rw [hsz]; decide)) rfl (HN) rfl rfl ?_; (first | exact trivial | exact rfl); simp only [St.set, List.map_cons, List.map_nil, Nat.reduceAdd]) | (refine ol_call1d (k := 0) ?_ rfl (HN) rfl rfl ⟨0, List.mem_cons_self⟩ ?_; (first | exact trivial | exact rfl); simp only [St.set, List.map_cons, List.map_nil, Nat.reduceAdd])))
  refine aw_condS rfl (fun hc0 => ?_) (fun hc0 => ?_)
  · obtain ⟨e1, e2⟩ := h1 (by omega)
    refine walkS ?_
    (refine aw_ret ?_; (simp only [Fin, Try.results75]; refine finS ?_); exact ⟨_, [], .inl ⟨rfl, rfl⟩, _, (chk D b (a + 1) : List Eng.D).map .d, [], rfl, toZL_d _ (chk D b (a + 1)), by simp, by rw [e1], by rw [e2]; rfl⟩)
  · have hc0' : c0 = 0 := by omega
    refine walkS ?_
    refine aw_loopS [0, 2, 4, 6, 7, 8, 26, 27] (fun _ _ => []) (fun _ k => [(28, .d (iD (k : Nat)))]) [] (fun _ _ => []) [] (fun _ _ => []) (fun k : Nat => k ≤ r.tags.length ∧ ∀ i (hi : i < r.tags.length), i < k → r.tags[i] ≠ m0) (fun k => r.tags.length - k) (0) hks (fun _ => rfl) ⟨Nat.zero_le _, fun _ _ h => absurd h (Nat.not_lt_zero _)⟩ wkS ?_; intro x hx; simp (decide := true) only [St.head, List.map_cons, List.map_nil, lk, rmv, List.cons_append, List.nil_append, List.append_nil, reduceIte, Nat.reduceAdd]
    obtain ⟨hx1, hx2⟩ := hx
    refine walkS ?_
    refine aw_condS rfl (fun hk => ?_) (fun hk => ?_)
    · refine walkS ?_
      refine aw_condS rfl (fun he => ?_) (fun he => ?_)
      · obtain ⟨kk, g1, g2, g3, g4⟩ := h3 hc0' x (by omega) he (fun i hi h => hx2 i hi h)
        have HV := H kk q0 (a + 1) (by omega) (by omega) hq0
        (repeat (first | refine walkS ?_ | (refine ow_call1d (k := 0) ?_ (fun x hx => by cases hx <;> (rw [hsz]; decide)) rfl (HV) rfl rfl ?_; (first | exact trivial | exact rfl); simp only [St.set, List.map_cons, List.map_nil, Nat.reduceAdd]) | (refine ol_call1d (k := 0) ?_ rfl (HV) rfl rfl ⟨0, List.mem_cons_self⟩ ?_; (first | exact trivial | exact rfl); simp only [St.set, List.map_cons, List.map_nil, Nat.reduceAdd])))
        (refine aw_ret ?_; (simp only [Fin, Try.results75]; refine finS ?_); exact ⟨_, [], .inl ⟨rfl, rfl⟩, _, (chk D b (a + 1 + (cnt D b f kk q0 : Nat)) : List Eng.D).map .d, [], rfl, toZL_d _ (chk D b (a + 1 + (cnt D b f kk q0 : Nat))), by simp, by rw [g3], by rw [g4]; rfl⟩)
      · refine walkS ?_
        refine ⟨x + 1, ⟨by omega, upto_succ (fun h => he) hx2⟩, by omega, ?_⟩
        exact wkS
    · obtain ⟨e1, e2⟩ := h2 hc0' (fun i hi => hx2 i hi (by omega))
      refine walkS ?_
      (refine aw_ret ?_; (simp only [Fin, Try.results75]; refine finS ?_); exact ⟨_, [], .inl ⟨rfl, rfl⟩, _, (chk D b (a + 1) : List Eng.D).map .d, [], rfl, toZL_d _ (chk D b (a + 1)), by simp, by rw [e1]; rfl, by rw [e2]; rfl⟩)

set_option maxRecDepth 100000 in
set_option maxHeartbeats 2000000 in
theorem option_c (hD : DB M D) (hM : M ≤ 1048576) (hb : b.length ≤ 1048576) {f : Nat} (H : CkOK D b f) {n : Nat} {r : RuleD} (hr : D[n]? = some r) (hn : n ≤ f) (G : GoodR D n r) (hk : r.kind = 8) (p : Nat) (hp : p ≤ b.length) (a : Int) :
    AC Try.prog 76 [.ptr 0 0, .d (encR r), .d (iD p)] (some ((chk D b a).map .d)) (fun r' b' => r' = .d (spotD (rd D b (f + 1) n p).2) ∧ b' = some ((chk D b (a - 1 + (cnt D b (f + 1) n p : Nat))).map .d)) := by
  have g1 := G.k8 hk
  obtain ⟨kk, ex, hkk⟩ := kid_nat G (by omega)
  have hkid : r.kids[0]? = some (kk : Int) := by rw [kids0 (by omega), ex]
  have hrd := ruleD_get hr
  have hnl : n < D.length := (List.getElem?_eq_some_iff.1 hr).1
  have HS := skip_c D hb a p hp 1 (by omega)
  cases hc0 : b[p]? with
  | none =>
    have hpl : b.length ≤ p := List.getElem?_eq_none_iff.1 hc0
    have e : skipP b p 1 = (p, 1) := if_pos (by omega)
    rw [e] at HS
    have hT : a - 1 + (cnt D b (f + 1) n p : Nat) = a := by rw [cnt_8n hrd hk hc0]; omega
    refine calls_body Try.func76 rfl Try.call76 Try.ntmps76 (by simp) (by simp [ArgsOk]) (by simp [Rz.nkL, Rz.nk]) fun en hsz hks hk0 => ?_; simp only [St.init, frOf, Rz.addSL, Rz.addS, Rz.toAL, Rz.toA, Rz.nk, List.zipIdx_cons, List.zipIdx_nil, List.map_cons, List.map_nil, Nat.zero_add, Nat.reduceAdd]
    (repeat (first | refine walkS ?_ | (refine ow_call1d (k := 0) ?_ (fun x hx => by cases hx <;> (rw [hsz]; decide)) rfl (HS) rfl rfl ?_; (first | exact trivial | exact rfl); simp only [St.set, List.map_cons, List.map_nil, Nat.reduceAdd]) | (refine ol_call1d (k := 0) ?_ rfl (HS) rfl rfl ⟨0, List.mem_cons_self⟩ ?_; (first | exact trivial | exact rfl); simp only [St.set, List.map_cons, List.map_nil, Nat.reduceAdd])))
    refine aw_condS rfl (fun hc => ?_) (fun hc => ?_)
    · refine walkS ?_
      (refine aw_ret ?_; (simp only [Fin, Try.results76]; refine finS ?_); exact ⟨_, [], .inl ⟨rfl, rfl⟩, _, (chk D b a : List Eng.D).map .d, [], rfl, toZL_d _ (chk D b a), by simp, by rw [rd_8n hrd hk hc0], by rw [hT]; rfl⟩)
    · (first | exact absurd trivial hc | exact absurd rfl hc | (cases hc; done) | omega | exact absurd hc (by decide) | (simp at hc; done))
  | some c =>
    have hpl := get_lt hc0
    have e : skipP b p 1 = (p + 1, 0) := if_neg (by omega)
    rw [e] at HS
    have hle := u8le c
    by_cases h1 : 1 < c.toNat
    · have hT : a - 1 + (cnt D b (f + 1) n p : Nat) = a := by rw [cnt_8f hrd hk hc0 h1]; omega
      refine calls_body Try.func76 rfl Try.call76 Try.ntmps76 (by simp) (by simp [ArgsOk]) (by simp [Rz.nkL, Rz.nk]) fun en hsz hks hk0 => ?_; simp only [St.init, frOf, Rz.addSL, Rz.addS, Rz.toAL, Rz.toA, Rz.nk, List.zipIdx_cons, List.zipIdx_nil, List.map_cons, List.map_nil, Nat.zero_add, Nat.reduceAdd]
      (repeat (first | refine walkS ?_ | (refine ow_call1d (k := 0) ?_ (fun x hx => by cases hx <;> (rw [hsz]; decide)) rfl (HS) rfl rfl ?_; (first | exact trivial | exact rfl); simp only [St.set, List.map_cons, List.map_nil, Nat.reduceAdd]) | (refine ol_call1d (k := 0) ?_ rfl (HS) rfl rfl ⟨0, List.mem_cons_self⟩ ?_; (first | exact trivial | exact rfl); simp only [St.set, List.map_cons, List.map_nil, Nat.reduceAdd])))
      refine aw_condS rfl (fun hc => ?_) (fun hc => ?_)
      · omega
      refine walkS ?_
      refine aw_condS rfl (fun hc => ?_) (fun hc => ?_)
      · refine walkS ?_
        (refine aw_ret ?_; (simp only [Fin, Try.results76]; refine finS ?_); exact ⟨_, [], .inl ⟨rfl, rfl⟩, _, (chk D b a : List Eng.D).map .d, [], rfl, toZL_d _ (chk D b a), by simp, by rw [rd_8f hrd hk hc0 h1]; rfl, by rw [hT]; rfl⟩)
      · omega
    · have hf := congrArg (·.2) (rd_8s (f := f) hrd hk hc0 h1)
      have hC := cnt_8s (f := f) hrd hk hc0 h1
      rw [show (kid0 r).toNat = kk by omega] at hf hC
      simp only [mkItems_2] at hf
      by_cases h0 : c.toNat = 0
      · rw [h0, List.replicate_zero] at hf hC
        have hT : a - 1 + (cnt D b (f + 1) n p : Nat) = a := by rw [hC]; simp [cntItems]
        refine calls_body Try.func76 rfl Try.call76 Try.ntmps76 (by simp) (by simp [ArgsOk]) (by simp [Rz.nkL, Rz.nk]) fun en hsz hks hk0 => ?_; simp only [St.init, frOf, Rz.addSL, Rz.addS, Rz.toAL, Rz.toA, Rz.nk, List.zipIdx_cons, List.zipIdx_nil, List.map_cons, List.map_nil, Nat.zero_add, Nat.reduceAdd]
        (repeat (first | refine walkS ?_ | (refine ow_call1d (k := 0) ?_ (fun x hx => by cases hx <;> (rw [hsz]; decide)) rfl (HS) rfl rfl ?_; (first | exact trivial | exact rfl); simp only [St.set, List.map_cons, List.map_nil, Nat.reduceAdd]) | (refine ol_call1d (k := 0) ?_ rfl (HS) rfl rfl ⟨0, List.mem_cons_self⟩ ?_; (first | exact trivial | exact rfl); simp only [St.set, List.map_cons, List.map_nil, Nat.reduceAdd])))
        refine aw_condS rfl (fun hc => ?_) (fun hc => ?_)
        · refine walkS ?_
          (refine aw_ret ?_; (simp only [Fin, Try.results76]; refine finS ?_); exact ⟨_, [], .inl ⟨rfl, rfl⟩, _, (chk D b a : List Eng.D).map .d, [], rfl, toZL_d _ (chk D b a), by simp, by rw [hf]; rfl, by rw [hT]; rfl⟩)
        · omega
      · rw [show c.toNat = 1 by omega, List.replicate_one, rdItems_one2] at hf
        rw [show c.toNat = 1 by omega, List.replicate_one, cntItems_one] at hC
        have hT : a - 1 + (cnt D b (f + 1) n p : Nat) = a + (cnt D b f kk (p + 1) : Nat) := by rw [hC]; omega
        have HV := H kk (p + 1) a (by omega) (by omega) (by omega)
        refine calls_body Try.func76 rfl Try.call76 Try.ntmps76 (by simp) (by simp [ArgsOk]) (by simp [Rz.nkL, Rz.nk]) fun en hsz hks hk0 => ?_; simp only [St.init, frOf, Rz.addSL, Rz.addS, Rz.toAL, Rz.toA, Rz.nk, List.zipIdx_cons, List.zipIdx_nil, List.map_cons, List.map_nil, Nat.zero_add, Nat.reduceAdd]
        (repeat (first | refine walkS ?_ | (refine ow_call1d (k := 0) ?_ (fun x hx => by cases hx <;> (rw [hsz]; decide)) rfl (HS) rfl rfl ?_; (first | exact trivial | exact rfl); simp only [St.set, List.map_cons, List.map_nil, Nat.reduceAdd]) | (refine ol_call1d (k := 0) ?_ rfl (HS) rfl rfl ⟨0, List.mem_cons_self⟩ ?_; (first | exact trivial | exact rfl); simp only [St.set, List.map_cons, List.map_nil, Nat.reduceAdd])))
        refine aw_condS rfl (fun hc => ?_) (fun hc => ?_)
        · omega
        refine walkS ?_
        refine aw_condS rfl (fun hc => ?_) (fun hc => ?_)
        · omega
        (repeat (first | refine walkS ?_ | (refine ow_call1d (k := 0) ?_ (fun x hx => by cases hx <;> (rw [hsz]; decide)) rfl (HV) rfl rfl ?_; (first | exact trivial | exact rfl); simp only [St.set, List.map_cons, List.map_nil, Nat.reduceAdd]) | (refine ol_call1d (k := 0) ?_ rfl (HV) rfl rfl ⟨0, List.mem_cons_self⟩ ?_; (first | exact trivial | exact rfl); simp only [St.set, List.map_cons, List.map_nil, Nat.reduceAdd])))
        (refine aw_ret ?_; (simp only [Fin, Try.results76]; refine finS ?_); exact ⟨_, [], .inl ⟨rfl, rfl⟩, _, (chk D b (a + (cnt D b f kk (p + 1) : Nat)) : List Eng.D).map .d, [], rfl, toZL_d _ (chk D b (a + (cnt D b f kk (p + 1) : Nat))), by simp, by rw [hf], by rw [hT]; rfl⟩)
end
end Go.Proofs.Ytcpboonjaceneaa.Eng
