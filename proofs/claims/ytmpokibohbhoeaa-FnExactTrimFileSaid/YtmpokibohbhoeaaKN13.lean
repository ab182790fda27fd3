/-
  The checker: choices, options, what is checked.
-/
import Derived.Test.YtmpokibohbhoeaaKN12
set_option linter.unusedSimpArgs false
set_option linter.unusedVariables false
namespace Go.Proofs.Ytmpokibohbhoeaa.Eng
open Go Go.RowKit

section
variable {M : Nat} {D : List RuleD} {b : List UInt8}

private theorem tyF : ((((((bytesT Try.prog 22 = true ∧ tyElem Try.prog 106 = some 9) ∧ (tyElem Try.prog 107 = some 3 ∧ tyElem Try.prog 22 = some 5)) ∧ ((tyElem Try.prog 24 = some 109 ∧ tyField Try.prog 109 0 = some (0, 9)) ∧ (tyField Try.prog 109 1 = some (1, 3) ∧ (tyField Try.prog 109 2 = some (2, 3) ∧ tyField Try.prog 109 3 = some (3, 4))))) ∧ (((tyField Try.prog 109 4 = some (4, 22) ∧ tyField Try.prog 109 5 = some (5, 106)) ∧ (tyField Try.prog 109 6 = some (6, 107) ∧ tyField Try.prog 109 7 = some (7, 107))) ∧ ((tyField Try.prog 26 0 = some (0, 24) ∧ tyField Try.prog 74 0 = some (0, 26)) ∧ (tyField Try.prog 74 1 = some (1, 22) ∧ (tyField Try.prog 74 2 = some (2, 3) ∧ tyField Try.prog 76 0 = some (0, 3)))))) ∧ ((((tyField Try.prog 76 1 = some (1, 3) ∧ tyK Try.prog 106 = some (false, 1)) ∧ (tyK Try.prog 107 = some (false, 1) ∧ tyK Try.prog 109 = some (true, 8))) ∧ ((tyK Try.prog 22 = some (false, 1) ∧ tyK Try.prog 24 = some (false, 1)) ∧ (tyK Try.prog 26 = some (true, 1) ∧ (tyK Try.prog 3 = some (false, 1) ∧ tyK Try.prog 4 = some (false, 1))))) ∧ (((tyK Try.prog 5 = some (false, 1) ∧ tyK Try.prog 72 = some (false, 1)) ∧ (tyK Try.prog 74 = some (true, 3) ∧ tyK Try.prog 76 = some (true, 2))) ∧ ((tyK Try.prog 9 = some (false, 1) ∧ tyPlaces Try.prog 109 = some [(0, 1), (1, 1), (2, 1), (3, 1), (4, 1), (5, 1), (6, 1), (7, 1)]) ∧ (tyPlaces Try.prog 26 = some [(0, 1)] ∧ (tyPlaces Try.prog 74 = some [(0, 1), (1, 1), (2, 1)] ∧ tyPlaces Try.prog 76 = some [(0, 1), (1, 1)])))))) ∧ (((((tyFlat Try.prog 76 = some [0, 0] ∧ tyRow Try.prog 106 = some 1) ∧ (tyRow Try.prog 107 = some 1 ∧ tyRow Try.prog 109 = some 8)) ∧ ((tyRow Try.prog 22 = some 1 ∧ tyRow Try.prog 24 = some 1) ∧ (tyRow Try.prog 26 = some 1 ∧ (tyRow Try.prog 3 = some 1 ∧ tyRow Try.prog 4 = some 1)))) ∧ (((tyRow Try.prog 5 = some 1 ∧ tyRow Try.prog 72 = some 1) ∧ (tyRow Try.prog 74 = some 3 ∧ tyRow Try.prog 76 = some 2)) ∧ ((tyRow Try.prog 9 = some 1 ∧ Try.prog.underlying 106 = some (TypeDesc.slice 9)) ∧ (Try.prog.underlying 107 = some (TypeDesc.slice 3) ∧ (Try.prog.underlying 22 = some (TypeDesc.slice 5) ∧ Try.prog.underlying 24 = some (TypeDesc.slice 109)))))) ∧ ((((Try.prog.underlying 3 = some (TypeDesc.int IntKind.i64) ∧ Try.prog.underlying 4 = some (TypeDesc.bool)) ∧ (Try.prog.underlying 5 = some (TypeDesc.int IntKind.u8) ∧ Try.prog.underlying 72 = some (TypeDesc.pointer 74))) ∧ ((Try.prog.underlying 9 = some (TypeDesc.string) ∧ tyZero Try.prog 106 = some [Value.slice none 0 0]) ∧ (tyZero Try.prog 107 = some [Value.slice none 0 0] ∧ (tyZero Try.prog 109 = some [Value.string ByteArray.empty, Value.int IntKind.i64 0, Value.int IntKind.i64 0, Value.bool false, Value.slice none 0 0, Value.slice none 0 0, Value.slice none 0 0, Value.slice none 0 0] ∧ tyZero Try.prog 22 = some [Value.slice none 0 0])))) ∧ (((tyZero Try.prog 24 = some [Value.slice none 0 0] ∧ tyZero Try.prog 26 = some [Value.slice none 0 0]) ∧ (tyZero Try.prog 3 = some [Value.int IntKind.i64 0] ∧ tyZero Try.prog 4 = some [Value.bool false])) ∧ ((tyZero Try.prog 5 = some [Value.int IntKind.u8 0] ∧ tyZero Try.prog 72 = some [Value.pointer none]) ∧ (tyZero Try.prog 74 = some [Value.slice none 0 0, Value.slice none 0 0, Value.int IntKind.i64 0] ∧ (tyZero Try.prog 76 = some [Value.int IntKind.i64 0, Value.int IntKind.i64 0] ∧ tyZero Try.prog 9 = some [Value.string ByteArray.empty]))))))) := ⟨⟨⟨⟨⟨⟨tb22, te106⟩, ⟨te107, te22⟩⟩, ⟨⟨te24, tf109_0⟩, ⟨tf109_1, ⟨tf109_2, tf109_3⟩⟩⟩⟩, ⟨⟨⟨tf109_4, tf109_5⟩, ⟨tf109_6, tf109_7⟩⟩, ⟨⟨tf26_0, tf74_0⟩, ⟨tf74_1, ⟨tf74_2, tf76_0⟩⟩⟩⟩⟩, ⟨⟨⟨⟨tf76_1, tk106⟩, ⟨tk107, tk109⟩⟩, ⟨⟨tk22, tk24⟩, ⟨tk26, ⟨tk3, tk4⟩⟩⟩⟩, ⟨⟨⟨tk5, tk72⟩, ⟨tk74, tk76⟩⟩, ⟨⟨tk9, tp109⟩, ⟨tp26, ⟨tp74, tp76⟩⟩⟩⟩⟩⟩, ⟨⟨⟨⟨⟨tq76, tr106⟩, ⟨tr107, tr109⟩⟩, ⟨⟨tr22, tr24⟩, ⟨tr26, ⟨tr3, tr4⟩⟩⟩⟩, ⟨⟨⟨tr5, tr72⟩, ⟨tr74, tr76⟩⟩, ⟨⟨tr9, tu106⟩, ⟨tu107, ⟨tu22, tu24⟩⟩⟩⟩⟩, ⟨⟨⟨⟨tu3, tu4⟩, ⟨tu5, tu72⟩⟩, ⟨⟨tu9, tz106⟩, ⟨tz107, ⟨tz109, tz22⟩⟩⟩⟩, ⟨⟨⟨tz24, tz26⟩, ⟨tz3, tz4⟩⟩, ⟨⟨tz5, tz72⟩, ⟨tz74, ⟨tz76, tz9⟩⟩⟩⟩⟩⟩⟩
set_option maxRecDepth 100000 in
set_option maxHeartbeats 2000000 in
theorem choice_go (hD : DB M D) (hM : M ≤ 1048576) (hb : b.length ≤ 1048576) {f : Nat} (H : CkOK D b f) {n : Nat} {r : RuleD} (hr : D[n]? = some r) (hn : n ≤ f) {j : Nat} {q : RuleD} (hkid : r.kids[0]? = some (j : Int)) (hj : D[j]? = some q) (hq : 1 ≤ q.size ∧ q.size ≤ 4) (p : Nat) (hp : p ≤ b.length) (a : Int)
    {m0 q0 c0 : Nat} (hnum : numP q b p = (m0, q0, c0)) (hq0 : q0 ≤ b.length) {S : Nat × Nat} {T : Int} (h1 : c0 ≠ 0 → S = (q0, c0) ∧ T = a + 1) (h2 : c0 = 0 → (∀ i (hi : i < r.tags.length), r.tags[i] ≠ m0) → S = (p, 3) ∧ T = a + 1)
    (h3 : c0 = 0 → ∀ k (hk : k < r.tags.length), r.tags[k] = m0 → (∀ i (hi : i < r.tags.length), i < k → r.tags[i] ≠ m0) → ∃ kk : Nat, r.kids[k + 1]? = some (kk : Int) ∧ kk < n ∧ S = (rd D b f kk q0).2 ∧ T = a + 1 + (cnt D b f kk q0 : Nat)) :
    AC Try.prog 99 [.ptr 0 0, .d (encR r), .d (iD p)] (some ((chk D b a).map .d)) (fun r' b' => r' = .d (spotD S) ∧ b' = some ((chk D b T).map .d)) := by
  have hrb := hD.rule r (List.mem_of_getElem? hr)
  have hlt := hrb.lt
  have hnl : n < D.length := (List.getElem?_eq_some_iff.1 hr).1
  have HN := number_c hD hM hb a hj hq p hp
  rw [hnum] at HN
  refine calls_body Try.func99 rfl Try.call99 Try.ntmps99 (by simp) (by simp [ArgsOk]) (by simp [Rz.nkL, Rz.nk]) fun en hsz hks hk0 => ?_; simp only [St.init, frOf, Rz.addSL, Rz.addS, Rz.toAL, Rz.toA, Rz.nk, List.zipIdx_cons, List.zipIdx_nil, List.map_cons, List.map_nil, Nat.zero_add, Nat.reduceAdd]
  (repeat (first | refine walkS ?_ | (refine ow_call1d (k := 0) ?_ (fun x hx => by cases hx <;> (rw [hsz]; decide)) rfl (HN) rfl rfl ?_; (first | exact trivial | exact rfl); simp only [St.set, List.map_cons, List.map_nil, Nat.reduceAdd]) | (refine ol_call1d (k := 0) ?_ rfl (HN) rfl rfl ⟨0, List.mem_cons_self⟩ ?_; (first | exact trivial | exact rfl); simp only [St.set, List.map_cons, List.map_nil, Nat.reduceAdd])))
  refine aw_condS rfl (fun hc0 => ?_) (fun hc0 => ?_)
  · obtain ⟨e1, e2⟩ := h1 (by omega)
    refine walkS ?_
    (refine aw_ret ?_; (simp only [Fin, Try.results99]; refine finS ?_); exact ⟨_, [], .inl ⟨rfl, rfl⟩, _, (chk D b (a + 1) : List Eng.D).map .d, [], rfl, toZL_d _ (chk D b (a + 1)), by simp, by rw [e1], by rw [e2]; rfl⟩)
  · have hc0' : c0 = 0 := by omega
    refine walkS ?_
    refine aw_loopS [0, 2, 4, 6, 7, 8, 26, 27] (fun _ _ => []) (fun _ k => [(28, .d (iD (k : Nat)))]) [] (fun _ _ => []) [] (fun _ _ => []) (fun k : Nat => k ≤ r.tags.length ∧ ∀ i (hi : i < r.tags.length), i < k → r.tags[i] ≠ m0) (fun k => r.tags.length - k) (0) hks (fun _ => rfl) ⟨Nat.zero_le _, fun _ _ h => absurd h (Nat.not_lt_zero _)⟩ wkS ?_; intro x hx; simp (decide := true) only [St.head, List.map_cons, List.map_nil, lk, rmv, List.cons_append, List.nil_append, List.append_nil, reduceIte, Nat.reduceAdd]
    obtain ⟨hx1, hx2⟩ := hx
    refine walkS ?_
    refine aw_condS rfl (fun hk => ?_) (fun hk => ?_)
    · refine walkS ?_
      refine aw_condS rfl (fun he => ?_) (fun he => ?_)
      · obtain ⟨kk, g1, g2, g3, g4⟩ := h3 hc0' x (by omega) he (fun i hi h => hx2 i hi h)
        have HV := H kk q0 (a + 1) (by omega) (by omega) hq0
        (repeat (first | refine walkS ?_ | (refine ow_call1d (k := 0) ?_ (fun x hx => by cases hx <;> (rw [hsz]; decide)) rfl (HV) rfl rfl ?_; (first | exact trivial | exact rfl); simp only [St.set, List.map_cons, List.map_nil, Nat.reduceAdd]) | (refine ol_call1d (k := 0) ?_ rfl (HV) rfl rfl ⟨0, List.mem_cons_self⟩ ?_; (first | exact trivial | exact rfl); simp only [St.set, List.map_cons, List.map_nil, Nat.reduceAdd])))
        (refine aw_ret ?_; (simp only [Fin, Try.results99]; refine finS ?_); exact ⟨_, [], .inl ⟨rfl, rfl⟩, _, (chk D b (a + 1 + (cnt D b f kk q0 : Nat)) : List Eng.D).map .d, [], rfl, toZL_d _ (chk D b (a + 1 + (cnt D b f kk q0 : Nat))), by simp, by rw [g3], by rw [g4]; rfl⟩)
      · refine walkS ?_
        refine ⟨x + 1, ⟨by omega, upto_succ (fun h => he) hx2⟩, by omega, ?_⟩
        exact wkS
    · obtain ⟨e1, e2⟩ := h2 hc0' (fun i hi => hx2 i hi (by omega))
      refine walkS ?_
      (refine aw_ret ?_; (simp only [Fin, Try.results99]; refine finS ?_); exact ⟨_, [], .inl ⟨rfl, rfl⟩, _, (chk D b (a + 1) : List Eng.D).map .d, [], rfl, toZL_d _ (chk D b (a + 1)), by simp, by rw [e1]; rfl, by rw [e2]; rfl⟩)

set_option maxRecDepth 100000 in
set_option maxHeartbeats 2000000 in
theorem option_c (hD : DB M D) (hM : M ≤ 1048576) (hb : b.length ≤ 1048576) {f : Nat} (H : CkOK D b f) {n : Nat} {r : RuleD} (hr : D[n]? = some r) (hn : n ≤ f) (G : GoodR D n r) (hk : r.kind = 8) (p : Nat) (hp : p ≤ b.length) (a : Int) :
    AC Try.prog 100 [.ptr 0 0, .d (encR r), .d (iD p)] (some ((chk D b a).map .d)) (fun r' b' => r' = .d (spotD (rd D b (f + 1) n p).2) ∧ b' = some ((chk D b (a - 1 + (cnt D b (f + 1) n p : Nat))).map .d)) := by
  have g1 := G.k8 hk
  obtain ⟨kk, ex, hkk⟩ := kid_nat G (by omega)
  have hkid : r.kids[0]? = some (kk : Int) := by rw [kids0 (by omega), ex]
  have hrd := ruleD_get hr
  have hnl : n < D.length := (List.getElem?_eq_some_iff.1 hr).1
  have HS := skip_c D hb a p hp 1 (by omega)
  cases hc0 : b[p]? with
  | none =>
    have hpl : b.length ≤ p := List.getElem?_eq_none_iff.1 hc0
    have e : skipP b p 1 = (p, 1) := if_pos (by omega)
    rw [e] at HS
    have hT : a - 1 + (cnt D b (f + 1) n p : Nat) = a := by rw [cnt_8n hrd hk hc0]; omega
    refine calls_body Try.func100 rfl Try.call100 Try.ntmps100 (by simp) (by simp [ArgsOk]) (by simp [Rz.nkL, Rz.nk]) fun en hsz hks hk0 => ?_; simp only [St.init, frOf, Rz.addSL, Rz.addS, Rz.toAL, Rz.toA, Rz.nk, List.zipIdx_cons, List.zipIdx_nil, List.map_cons, List.map_nil, Nat.zero_add, Nat.reduceAdd]
    (repeat (first | refine walkS ?_ | (refine ow_call1d (k := 0) ?_ (fun x hx => by cases hx <;> (rw [hsz]; decide)) rfl (HS) rfl rfl ?_; (first | exact trivial | exact rfl); simp only [St.set, List.map_cons, List.map_nil, Nat.reduceAdd]) | (refine ol_call1d (k := 0) ?_ rfl (HS) rfl rfl ⟨0, List.mem_cons_self⟩ ?_; (first | exact trivial | exact rfl); simp only [St.set, List.map_cons, List.map_nil, Nat.reduceAdd])))
    refine aw_condS rfl (fun hc => ?_) (fun hc => ?_)
    · refine walkS ?_
      (refine aw_ret ?_; (simp only [Fin, Try.results100]; refine finS ?_); exact ⟨_, [], .inl ⟨rfl, rfl⟩, _, (chk D b a : List Eng.D).map .d, [], rfl, toZL_d _ (chk D b a), by simp, by rw [rd_8n hrd hk hc0], by rw [hT]; rfl⟩)
    · (first | exact absurd trivial hc | exact absurd rfl hc | (cases hc; done) | omega | exact absurd hc (by decide) | (simp at hc; done))
  | some c =>
    have hpl := get_lt hc0
    have e : skipP b p 1 = (p + 1, 0) := if_neg (by omega)
    rw [e] at HS
    have hle := u8le c
    by_cases h1 : 1 < c.toNat
    · have hT : a - 1 + (cnt D b (f + 1) n p : Nat) = a := by rw [cnt_8f hrd hk hc0 h1]; omega
      refine calls_body Try.func100 rfl Try.call100 Try.ntmps100 (by simp) (by simp [ArgsOk]) (by simp [Rz.nkL, Rz.nk]) fun en hsz hks hk0 => ?_; simp only [St.init, frOf, Rz.addSL, Rz.addS, Rz.toAL, Rz.toA, Rz.nk, List.zipIdx_cons, List.zipIdx_nil, List.map_cons, List.map_nil, Nat.zero_add, Nat.reduceAdd]
      (repeat (first | refine walkS ?_ | (refine ow_call1d (k := 0) ?_ (fun x hx => by cases hx <;> (rw [hsz]; decide)) rfl (HS) rfl rfl ?_; (first | exact trivial | exact rfl); simp only [St.set, List.map_cons, List.map_nil, Nat.reduceAdd]) | (refine ol_call1d (k := 0) ?_ rfl (HS) rfl rfl ⟨0, List.mem_cons_self⟩ ?_; (first | exact trivial | exact rfl); simp only [St.set, List.map_cons, List.map_nil, Nat.reduceAdd])))
      refine aw_condS rfl (fun hc => ?_) (fun hc => ?_)
      · omega
      refine walkS ?_
      refine aw_condS rfl (fun hc => ?_) (fun hc => ?_)
      · refine walkS ?_
        (refine aw_ret ?_; (simp only [Fin, Try.results100]; refine finS ?_); exact ⟨_, [], .inl ⟨rfl, rfl⟩, _, (chk D b a : List Eng.D).map .d, [], rfl, toZL_d _ (chk D b a), by simp, by rw [rd_8f hrd hk hc0 h1]; rfl, by rw [hT]; rfl⟩)
      · omega
    · have hf := congrArg (·.2) (rd_8s (f := f) hrd hk hc0 h1)
      have hC := cnt_8s (f := f) hrd hk hc0 h1
      rw [show (kid0 r).toNat = kk by omega] at hf hC
      simp only [mkItems_2] at hf
      by_cases h0 : c.toNat = 0
      · rw [h0, List.replicate_zero] at hf hC
        have hT : a - 1 + (cnt D b (f + 1) n p : Nat) = a := by rw [hC]; simp [cntItems]
        refine calls_body Try.func100 rfl Try.call100 Try.ntmps100 (by simp) (by simp [ArgsOk]) (by simp [Rz.nkL, Rz.nk]) fun en hsz hks hk0 => ?_; simp only [St.init, frOf, Rz.addSL, Rz.addS, Rz.toAL, Rz.toA, Rz.nk, List.zipIdx_cons, List.zipIdx_nil, List.map_cons, List.map_nil, Nat.zero_add, Nat.reduceAdd]
        (repeat (first | refine walkS ?_ | (refine ow_call1d (k := 0) ?_ (fun x hx => by cases hx <;> (rw [hsz]; decide)) rfl (HS) rfl rfl ?_; (first | exact trivial | exact rfl); simp only [St.set, List.map_cons, List.map_nil, Nat.reduceAdd]) | (refine ol_call1d (k := 0) ?_ rfl (HS) rfl rfl ⟨0, List.mem_cons_self⟩ ?_; (first | exact trivial | exact rfl); simp only [St.set, List.map_cons, List.map_nil, Nat.reduceAdd])))
        refine aw_condS rfl (fun hc => ?_) (fun hc => ?_)
        · refine walkS ?_
          (refine aw_ret ?_; (simp only [Fin, Try.results100]; refine finS ?_); exact ⟨_, [], .inl ⟨rfl, rfl⟩, _, (chk D b a : List Eng.D).map .d, [], rfl, toZL_d _ (chk D b a), by simp, by rw [hf]; rfl, by rw [hT]; rfl⟩)
        · omega
      · rw [show c.toNat = 1 by omega, List.replicate_one, rdItems_one2] at hf
        rw [show c.toNat = 1 by omega, List.replicate_one, cntItems_one] at hC
        have hT : a - 1 + (cnt D b (f + 1) n p : Nat) = a + (cnt D b f kk (p + 1) : Nat) := by rw [hC]; omega
        have HV := H kk (p + 1) a (by omega) (by omega) (by omega)
        refine calls_body Try.func100 rfl Try.call100 Try.ntmps100 (by simp) (by simp [ArgsOk]) (by simp [Rz.nkL, Rz.nk]) fun en hsz hks hk0 => ?_; simp only [St.init, frOf, Rz.addSL, Rz.addS, Rz.toAL, Rz.toA, Rz.nk, List.zipIdx_cons, List.zipIdx_nil, List.map_cons, List.map_nil, Nat.zero_add, Nat.reduceAdd]
        (repeat (first | refine walkS ?_ | (refine ow_call1d (k := 0) ?_ (fun x hx => by cases hx <;> (rw [hsz]; decide)) rfl (HS) rfl rfl ?_; (first | exact trivial | exact rfl); simp only [St.set, List.map_cons, List.map_nil, Nat.reduceAdd]) | (refine ol_call1d (k := 0) ?_ rfl (HS) rfl rfl ⟨0, List.mem_cons_self⟩ ?_; (first | exact trivial | exact rfl); simp only [St.set, List.map_cons, List.map_nil, Nat.reduceAdd])))
        refine aw_condS rfl (fun hc => ?_) (fun hc => ?_)
        · omega
        refine walkS ?_
        refine aw_condS rfl (fun hc => ?_) (fun hc => ?_)
        · omega
        (repeat (first | refine walkS ?_ | (refine ow_call1d (k := 0) ?_ (fun x hx => by cases hx <;> (rw [hsz]; decide)) rfl (HV) rfl rfl ?_; (first | exact trivial | exact rfl); simp only [St.set, List.map_cons, List.map_nil, Nat.reduceAdd]) | (refine ol_call1d (k := 0) ?_ rfl (HV) rfl rfl ⟨0, List.mem_cons_self⟩ ?_; (first | exact trivial | exact rfl); simp only [St.set, List.map_cons, List.map_nil, Nat.reduceAdd])))
        (refine aw_ret ?_; (simp only [Fin, Try.results100]; refine finS ?_); exact ⟨_, [], .inl ⟨rfl, rfl⟩, _, (chk D b (a + (cnt D b f kk (p + 1) : Nat)) : List Eng.D).map .d, [], rfl, toZL_d _ (chk D b (a + (cnt D b f kk (p + 1) : Nat))), by simp, by rw [hf], by rw [hT]; rfl⟩)
end
end Go.Proofs.Ytmpokibohbhoeaa.Eng
