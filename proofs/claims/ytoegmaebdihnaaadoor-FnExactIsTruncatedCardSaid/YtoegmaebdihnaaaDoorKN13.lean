/-
  The checker: choices, options, what is checked.
-/
import Derived.Test.YtoegmaebdihnaaaDoorKN12
set_option linter.unusedSimpArgs false
set_option linter.unusedVariables false
namespace Go.Proofs.YtoegmaebdihnaaaDoor.Eng
open Go Go.RowKit

section
variable {M : Nat} {D : List RuleD} {b : List UInt8}

private theorem tyF : ((((((bytesT Tryd.prog 25 = true ∧ tyElem Tryd.prog 25 = some 5) ∧ (tyElem Tryd.prog 28 = some 55 ∧ tyElem Tryd.prog 46 = some 9)) ∧ ((tyElem Tryd.prog 47 = some 3 ∧ tyField Tryd.prog 30 0 = some (0, 28)) ∧ (tyField Tryd.prog 55 0 = some (0, 9) ∧ (tyField Tryd.prog 55 1 = some (1, 3) ∧ tyField Tryd.prog 55 2 = some (2, 3))))) ∧ (((tyField Tryd.prog 55 3 = some (3, 4) ∧ tyField Tryd.prog 55 4 = some (4, 25)) ∧ (tyField Tryd.prog 55 5 = some (5, 46) ∧ tyField Tryd.prog 55 6 = some (6, 47))) ∧ ((tyField Tryd.prog 55 7 = some (7, 47) ∧ tyField Tryd.prog 86 0 = some (0, 3)) ∧ (tyField Tryd.prog 86 1 = some (1, 3) ∧ (tyField Tryd.prog 93 0 = some (0, 30) ∧ tyField Tryd.prog 93 1 = some (1, 25)))))) ∧ ((((tyField Tryd.prog 93 2 = some (2, 3) ∧ tyK Tryd.prog 25 = some (false, 1)) ∧ (tyK Tryd.prog 28 = some (false, 1) ∧ tyK Tryd.prog 3 = some (false, 1))) ∧ ((tyK Tryd.prog 30 = some (true, 1) ∧ tyK Tryd.prog 4 = some (false, 1)) ∧ (tyK Tryd.prog 46 = some (false, 1) ∧ (tyK Tryd.prog 47 = some (false, 1) ∧ tyK Tryd.prog 5 = some (false, 1))))) ∧ (((tyK Tryd.prog 55 = some (true, 8) ∧ tyK Tryd.prog 86 = some (true, 2)) ∧ (tyK Tryd.prog 9 = some (false, 1) ∧ tyK Tryd.prog 91 = some (false, 1))) ∧ ((tyK Tryd.prog 93 = some (true, 3) ∧ tyPlaces Tryd.prog 30 = some [(0, 1)]) ∧ (tyPlaces Tryd.prog 55 = some [(0, 1), (1, 1), (2, 1), (3, 1), (4, 1), (5, 1), (6, 1), (7, 1)] ∧ (tyPlaces Tryd.prog 86 = some [(0, 1), (1, 1)] ∧ tyPlaces Tryd.prog 93 = some [(0, 1), (1, 1), (2, 1)])))))) ∧ (((((tyFlat Tryd.prog 86 = some [0, 0] ∧ tyRow Tryd.prog 25 = some 1) ∧ (tyRow Tryd.prog 28 = some 1 ∧ tyRow Tryd.prog 3 = some 1)) ∧ ((tyRow Tryd.prog 30 = some 1 ∧ tyRow Tryd.prog 4 = some 1) ∧ (tyRow Tryd.prog 46 = some 1 ∧ (tyRow Tryd.prog 47 = some 1 ∧ tyRow Tryd.prog 5 = some 1)))) ∧ (((tyRow Tryd.prog 55 = some 8 ∧ tyRow Tryd.prog 86 = some 2) ∧ (tyRow Tryd.prog 9 = some 1 ∧ tyRow Tryd.prog 91 = some 1)) ∧ ((tyRow Tryd.prog 93 = some 3 ∧ Tryd.prog.underlying 25 = some (TypeDesc.slice 5)) ∧ (Tryd.prog.underlying 28 = some (TypeDesc.slice 55) ∧ (Tryd.prog.underlying 3 = some (TypeDesc.int IntKind.i64) ∧ Tryd.prog.underlying 4 = some (TypeDesc.bool)))))) ∧ ((((Tryd.prog.underlying 46 = some (TypeDesc.slice 9) ∧ Tryd.prog.underlying 47 = some (TypeDesc.slice 3)) ∧ (Tryd.prog.underlying 5 = some (TypeDesc.int IntKind.u8) ∧ Tryd.prog.underlying 9 = some (TypeDesc.string))) ∧ ((Tryd.prog.underlying 91 = some (TypeDesc.pointer 93) ∧ tyZero Tryd.prog 25 = some [Value.slice none 0 0]) ∧ (tyZero Tryd.prog 28 = some [Value.slice none 0 0] ∧ (tyZero Tryd.prog 3 = some [Value.int IntKind.i64 0] ∧ tyZero Tryd.prog 30 = some [Value.slice none 0 0])))) ∧ (((tyZero Tryd.prog 4 = some [Value.bool false] ∧ tyZero Tryd.prog 46 = some [Value.slice none 0 0]) ∧ (tyZero Tryd.prog 47 = some [Value.slice none 0 0] ∧ tyZero Tryd.prog 5 = some [Value.int IntKind.u8 0])) ∧ ((tyZero Tryd.prog 55 = some [Value.string ByteArray.empty, Value.int IntKind.i64 0, Value.int IntKind.i64 0, Value.bool false, Value.slice none 0 0, Value.slice none 0 0, Value.slice none 0 0, Value.slice none 0 0] ∧ tyZero Tryd.prog 86 = some [Value.int IntKind.i64 0, Value.int IntKind.i64 0]) ∧ (tyZero Tryd.prog 9 = some [Value.string ByteArray.empty] ∧ (tyZero Tryd.prog 91 = some [Value.pointer none] ∧ tyZero Tryd.prog 93 = some [Value.slice none 0 0, Value.slice none 0 0, Value.int IntKind.i64 0]))))))) := ⟨⟨⟨⟨⟨⟨tb25, te25⟩, ⟨te28, te46⟩⟩, ⟨⟨te47, tf30_0⟩, ⟨tf55_0, ⟨tf55_1, tf55_2⟩⟩⟩⟩, ⟨⟨⟨tf55_3, tf55_4⟩, ⟨tf55_5, tf55_6⟩⟩, ⟨⟨tf55_7, tf86_0⟩, ⟨tf86_1, ⟨tf93_0, tf93_1⟩⟩⟩⟩⟩, ⟨⟨⟨⟨tf93_2, tk25⟩, ⟨tk28, tk3⟩⟩, ⟨⟨tk30, tk4⟩, ⟨tk46, ⟨tk47, tk5⟩⟩⟩⟩, ⟨⟨⟨tk55, tk86⟩, ⟨tk9, tk91⟩⟩, ⟨⟨tk93, tp30⟩, ⟨tp55, ⟨tp86, tp93⟩⟩⟩⟩⟩⟩, ⟨⟨⟨⟨⟨tq86, tr25⟩, ⟨tr28, tr3⟩⟩, ⟨⟨tr30, tr4⟩, ⟨tr46, ⟨tr47, tr5⟩⟩⟩⟩, ⟨⟨⟨tr55, tr86⟩, ⟨tr9, tr91⟩⟩, ⟨⟨tr93, tu25⟩, ⟨tu28, ⟨tu3, tu4⟩⟩⟩⟩⟩, ⟨⟨⟨⟨tu46, tu47⟩, ⟨tu5, tu9⟩⟩, ⟨⟨tu91, tz25⟩, ⟨tz28, ⟨tz3, tz30⟩⟩⟩⟩, ⟨⟨⟨tz4, tz46⟩, ⟨tz47, tz5⟩⟩, ⟨⟨tz55, tz86⟩, ⟨tz9, ⟨tz91, tz93⟩⟩⟩⟩⟩⟩⟩
set_option maxRecDepth 100000 in
set_option maxHeartbeats 2000000 in
theorem choice_go (hD : DB M D) (hM : M ≤ 1048576) (hb : b.length ≤ 1048576) {f : Nat} (H : CkOK D b f) {n : Nat} {r : RuleD} (hr : D[n]? = some r) (hn : n ≤ f) {j : Nat} {q : RuleD} (hkid : r.kids[0]? = some (j : Int)) (hj : D[j]? = some q) (hq : 1 ≤ q.size ∧ q.size ≤ 4) (p : Nat) (hp : p ≤ b.length) (a : Int)
    {m0 q0 c0 : Nat} (hnum : numP q b p = (m0, q0, c0)) (hq0 : q0 ≤ b.length) {S : Nat × Nat} {T : Int} (h1 : c0 ≠ 0 → S = (q0, c0) ∧ T = a + 1) (h2 : c0 = 0 → (∀ i (hi : i < r.tags.length), r.tags[i] ≠ m0) → S = (p, 3) ∧ T = a + 1)
    (h3 : c0 = 0 → ∀ k (hk : k < r.tags.length), r.tags[k] = m0 → (∀ i (hi : i < r.tags.length), i < k → r.tags[i] ≠ m0) → ∃ kk : Nat, r.kids[k + 1]? = some (kk : Int) ∧ kk < n ∧ S = (rd D b f kk q0).2 ∧ T = a + 1 + (cnt D b f kk q0 : Nat)) :
    AC Tryd.prog 55 [.ptr 0 0, .d (encR r), .d (iD p)] (some ((chk D b a).map .d)) (fun r' b' => r' = .d (spotD S) ∧ b' = some ((chk D b T).map .d)) := by
  have hrb := hD.rule r (List.mem_of_getElem? hr)
  have hlt := hrb.lt
  have hnl : n < D.length := (List.getElem?_eq_some_iff.1 hr).1
  have HN := number_c hD hM hb a hj hq p hp
  rw [hnum] at HN
  refine calls_body Tryd.func55 rfl Tryd.call55 Tryd.ntmps55 (by simp) (by simp [ArgsOk]) (by simp [Rz.nkL, Rz.nk]) fun en hsz hks hk0 => ?_; simp only [St.init, frOf, Rz.addSL, Rz.addS, Rz.toAL, Rz.toA, Rz.nk, List.zipIdx_cons, List.zipIdx_nil, List.map_cons, List.map_nil, Nat.zero_add, Nat.reduceAdd]
  (repeat (first | refine walkS ?_ | (refine ow_call1d (k := 0) ?_ (fun x hx => by cases hx <;> (rw [hsz]; decide)) rfl (HN) rfl rfl ?_; (first | exact trivial | exact rfl); simp only [St.set, List.map_cons, List.map_nil, Nat.reduceAdd]) | (refine ol_call1d (k := 0) ?_ rfl (HN) rfl rfl ⟨0, List.mem_cons_self⟩ ?_; (first | exact trivial | exact rfl); simp only [St.set, List.map_cons, List.map_nil, Nat.reduceAdd])))
  refine aw_condS rfl (fun hc0 => ?_) (fun hc0 => ?_)
  · obtain ⟨e1, e2⟩ := h1 (by omega)
    refine walkS ?_
    (refine aw_ret ?_; (simp only [Fin, Tryd.results55]; refine finS ?_); exact ⟨_, [], .inl ⟨rfl, rfl⟩, _, (chk D b (a + 1) : List Eng.D).map .d, [], rfl, toZL_d _ (chk D b (a + 1)), by simp, by rw [e1], by rw [e2]; rfl⟩)
  · have hc0' : c0 = 0 := by omega
    refine walkS ?_
    refine aw_loopS [0, 2, 4, 6, 7, 8, 26, 27] (fun _ _ => []) (fun _ k => [(28, .d (iD (k : Nat)))]) [] (fun _ _ => []) [] (fun _ _ => []) (fun k : Nat => k ≤ r.tags.length ∧ ∀ i (hi : i < r.tags.length), i < k → r.tags[i] ≠ m0) (fun k => r.tags.length - k) (0) hks (fun _ => rfl) ⟨Nat.zero_le _, fun _ _ h => absurd h (Nat.not_lt_zero _)⟩ wkS ?_; intro x hx; simp (decide := true) only [St.head, List.map_cons, List.map_nil, lk, rmv, List.cons_append, List.nil_append, List.append_nil, reduceIte, Nat.reduceAdd]
    obtain ⟨hx1, hx2⟩ := hx
    refine walkS ?_
    refine aw_condS rfl (fun hk => ?_) (fun hk => ?_)
    · refine walkS ?_
      refine aw_condS rfl (fun he => ?_) (fun he => ?_)
      · obtain ⟨kk, g1, g2, g3, g4⟩ := h3 hc0' x (by omega) he (fun i hi h => hx2 i hi h)
        have HV := H kk q0 (a + 1) (by omega) (by omega) hq0
        (repeat (first | refine walkS ?_ | (refine ow_call1d (k := 0) ?_ (fun x hx => by cases hx <;> (rw [hsz]; decide)) rfl (HV) rfl rfl ?_; (first | exact trivial | exact rfl); simp only [St.set, List.map_cons, List.map_nil, Nat.reduceAdd]) | (refine ol_call1d (k := 0) ?_ rfl (HV) rfl rfl ⟨0, List.mem_cons_self⟩ ?_; (first | exact trivial | exact rfl); simp only [St.set, List.map_cons, List.map_nil, Nat.reduceAdd])))
        (refine aw_ret ?_; (simp only [Fin, Tryd.results55]; refine finS ?_); exact ⟨_, [], .inl ⟨rfl, rfl⟩, _, (chk D b (a + 1 + (cnt D b f kk q0 : Nat)) : List Eng.D).map .d, [], rfl, toZL_d _ (chk D b (a + 1 + (cnt D b f kk q0 : Nat))), by simp, by rw [g3], by rw [g4]; rfl⟩)
      · refine walkS ?_
        refine ⟨x + 1, ⟨by omega, upto_succ (fun h => he) hx2⟩, by omega, ?_⟩
        exact wkS
    · obtain ⟨e1, e2⟩ := h2 hc0' (fun i hi => hx2 i hi (by omega))
      refine walkS ?_
      (refine aw_ret ?_; (simp only [Fin, Tryd.results55]; refine finS ?_); exact ⟨_, [], .inl ⟨rfl, rfl⟩, _, (chk D b (a + 1) : List Eng.D).map .d, [], rfl, toZL_d _ (chk D b (a + 1)), by simp, by rw [e1]; rfl, by rw [e2]; rfl⟩)

set_option maxRecDepth 100000 in
set_option maxHeartbeats 2000000 in
theorem option_c (hD : DB M D) (hM : M ≤ 1048576) (hb : b.length ≤ 1048576) {f : Nat} (H : CkOK D b f) {n : Nat} {r : RuleD} (hr : D[n]? = some r) (hn : n ≤ f) (G : GoodR D n r) (hk : r.kind = 8) (p : Nat) (hp : p ≤ b.length) (a : Int) :
    AC Tryd.prog 56 [.ptr 0 0, .d (encR r), .d (iD p)] (some ((chk D b a).map .d)) (fun r' b' => r' = .d (spotD (rd D b (f + 1) n p).2) ∧ b' = some ((chk D b (a - 1 + (cnt D b (f + 1) n p : Nat))).map .d)) := by
  have g1 := G.k8 hk
  obtain ⟨kk, ex, hkk⟩ := kid_nat G (by omega)
  have hkid : r.kids[0]? = some (kk : Int) := by rw [kids0 (by omega), ex]
  have hrd := ruleD_get hr
  have hnl : n < D.length := (List.getElem?_eq_some_iff.1 hr).1
  have HS := skip_c D hb a p hp 1 (by omega)
  cases hc0 : b[p]? with
  | none =>
    have hpl : b.length ≤ p := List.getElem?_eq_none_iff.1 hc0
    have e : skipP b p 1 = (p, 1) := if_pos (by omega)
    rw [e] at HS
    have hT : a - 1 + (cnt D b (f + 1) n p : Nat) = a := by rw [cnt_8n hrd hk hc0]; omega
    refine calls_body Tryd.func56 rfl Tryd.call56 Tryd.ntmps56 (by simp) (by simp [ArgsOk]) (by simp [Rz.nkL, Rz.nk]) fun en hsz hks hk0 => ?_; simp only [St.init, frOf, Rz.addSL, Rz.addS, Rz.toAL, Rz.toA, Rz.nk, List.zipIdx_cons, List.zipIdx_nil, List.map_cons, List.map_nil, Nat.zero_add, Nat.reduceAdd]
    (repeat (first | refine walkS ?_ | (refine ow_call1d (k := 0) ?_ (fun x hx => by cases hx <;> (rw [hsz]; decide)) rfl (HS) rfl rfl ?_; (first | exact trivial | exact rfl); simp only [St.set, List.map_cons, List.map_nil, Nat.reduceAdd]) | (refine ol_call1d (k := 0) ?_ rfl (HS) rfl rfl ⟨0, List.mem_cons_self⟩ ?_; (first | exact trivial | exact rfl); simp only [St.set, List.map_cons, List.map_nil, Nat.reduceAdd])))
    refine aw_condS rfl (fun hc => ?_) (fun hc => ?_)
    · refine walkS ?_
      (refine aw_ret ?_; (simp only [Fin, Tryd.results56]; refine finS ?_); exact ⟨_, [], .inl ⟨rfl, rfl⟩, _, (chk D b a : List Eng.D).map .d, [], rfl, toZL_d _ (chk D b a), by simp, by rw [rd_8n hrd hk hc0], by rw [hT]; rfl⟩)
    · (first | exact absurd trivial hc | exact absurd rfl hc | (cases hc; done) | omega | exact absurd hc (by decide) | (simp at hc; done))
  | some c =>
    have hpl := get_lt hc0
    have e : skipP b p 1 = (p + 1, 0) := if_neg (by omega)
    rw [e] at HS
    have hle := u8le c
    by_cases h1 : 1 < c.toNat
    · have hT : a - 1 + (cnt D b (f + 1) n p : Nat) = a := by rw [cnt_8f hrd hk hc0 h1]; omega
      refine calls_body Tryd.func56 rfl Tryd.call56 Tryd.ntmps56 (by simp) (by simp [ArgsOk]) (by simp [Rz.nkL, Rz.nk]) fun en hsz hks hk0 => ?_; simp only [St.init, frOf, Rz.addSL, Rz.addS, Rz.toAL, Rz.toA, Rz.nk, List.zipIdx_cons, List.zipIdx_nil, List.map_cons, List.map_nil, Nat.zero_add, Nat.reduceAdd]
      (repeat (first | refine walkS ?_ | (refine ow_call1d (k := 0) ?_ (fun x hx => by cases hx <;> (rw [hsz]; decide)) rfl (HS) rfl rfl ?_; (first | exact trivial | exact rfl); simp only [St.set, List.map_cons, List.map_nil, Nat.reduceAdd]) | (refine ol_call1d (k := 0) ?_ rfl (HS) rfl rfl ⟨0, List.mem_cons_self⟩ ?_; (first | exact trivial | exact rfl); simp only [St.set, List.map_cons, List.map_nil, Nat.reduceAdd])))
      refine aw_condS rfl (fun hc => ?_) (fun hc => ?_)
      · omega
      refine walkS ?_
      refine aw_condS rfl (fun hc => ?_) (fun hc => ?_)
      · refine walkS ?_
        (refine aw_ret ?_; (simp only [Fin, Tryd.results56]; refine finS ?_); exact ⟨_, [], .inl ⟨rfl, rfl⟩, _, (chk D b a : List Eng.D).map .d, [], rfl, toZL_d _ (chk D b a), by simp, by rw [rd_8f hrd hk hc0 h1]; rfl, by rw [hT]; rfl⟩)
      · omega
    · have hf := congrArg (·.2) (rd_8s (f := f) hrd hk hc0 h1)
      have hC := cnt_8s (f := f) hrd hk hc0 h1
      rw [show (kid0 r).toNat = kk by omega] at hf hC
      simp only [mkItems_2] at hf
      by_cases h0 : c.toNat = 0
      · rw [h0, List.replicate_zero] at hf hC
        have hT : a - 1 + (cnt D b (f + 1) n p : Nat) = a := by rw [hC]; simp [cntItems]
        refine calls_body Tryd.func56 rfl Tryd.call56 Tryd.ntmps56 (by simp) (by simp [ArgsOk]) (by simp [Rz.nkL, Rz.nk]) fun en hsz hks hk0 => ?_; simp only [St.init, frOf, Rz.addSL, Rz.addS, Rz.toAL, Rz.toA, Rz.nk, List.zipIdx_cons, List.zipIdx_nil, List.map_cons, List.map_nil, Nat.zero_add, Nat.reduceAdd]
        (repeat (first | refine walkS ?_ | (refine ow_call1d (k := 0) ?_ (fun x hx => by cases hx <;> (rw [hsz]; decide)) rfl (HS) rfl rfl ?_; (first | exact trivial | exact rfl); simp only [St.set, List.map_cons, List.map_nil, Nat.reduceAdd]) | (refine ol_call1d (k := 0) ?_ rfl (HS) rfl rfl ⟨0, List.mem_cons_self⟩ ?_; (first | exact trivial | exact rfl); simp only [St.set, List.map_cons, List.map_nil, Nat.reduceAdd])))
        refine aw_condS rfl (fun hc => ?_) (fun hc => ?_)
        · refine walkS ?_
          (refine aw_ret ?_; (simp only [Fin, Tryd.results56]; refine finS ?_); exact ⟨_, [], .inl ⟨rfl, rfl⟩, _, (chk D b a : List Eng.D).map .d, [], rfl, toZL_d _ (chk D b a), by simp, by rw [hf]; rfl, by rw [hT]; rfl⟩)
        · omega
      · rw [show c.toNat = 1 by omega, List.replicate_one, rdItems_one2] at hf
        rw [show c.toNat = 1 by omega, List.replicate_one, cntItems_one] at hC
        have hT : a - 1 + (cnt D b (f + 1) n p : Nat) = a + (cnt D b f kk (p + 1) : Nat) := by rw [hC]; omega
        have HV := H kk (p + 1) a (by omega) (by omega) (by omega)
        refine calls_body Tryd.func56 rfl Tryd.call56 Tryd.ntmps56 (by simp) (by simp [ArgsOk]) (by simp [Rz.nkL, Rz.nk]) fun en hsz hks hk0 => ?_; simp only [St.init, frOf, Rz.addSL, Rz.addS, Rz.toAL, Rz.toA, Rz.nk, List.zipIdx_cons, List.zipIdx_nil, List.map_cons, List.map_nil, Nat.zero_add, Nat.reduceAdd]
        (repeat (first | refine walkS ?_ | (refine ow_call1d (k := 0) ?_ (fun x hx => by cases hx <;> (rw [hsz]; decide)) rfl (HS) rfl rfl ?_; (first | exact trivial | exact rfl); simp only [St.set, List.map_cons, List.map_nil, Nat.reduceAdd]) | (refine ol_call1d (k := 0) ?_ rfl (HS) rfl rfl ⟨0, List.mem_cons_self⟩ ?_; (first | exact trivial | exact rfl); simp only [St.set, List.map_cons, List.map_nil, Nat.reduceAdd])))
        refine aw_condS rfl (fun hc => ?_) (fun hc => ?_)
        · omega
        refine walkS ?_
        refine aw_condS rfl (fun hc => ?_) (fun hc => ?_)
        · omega
        (repeat (first | refine walkS ?_ | (refine ow_call1d (k := 0) ?_ (fun x hx => by cases hx <;> (rw [hsz]; decide)) rfl (HV) rfl rfl ?_; (first | exact trivial | exact rfl); simp only [St.set, List.map_cons, List.map_nil, Nat.reduceAdd]) | (refine ol_call1d (k := 0) ?_ rfl (HV) rfl rfl ⟨0, List.mem_cons_self⟩ ?_; (first | exact trivial | exact rfl); simp only [St.set, List.map_cons, List.map_nil, Nat.reduceAdd])))
        (refine aw_ret ?_; (simp only [Fin, Tryd.results56]; refine finS ?_); exact ⟨_, [], .inl ⟨rfl, rfl⟩, _, (chk D b (a + (cnt D b f kk (p + 1) : Nat)) : List Eng.D).map .d, [], rfl, toZL_d _ (chk D b (a + (cnt D b f kk (p + 1) : Nat))), by simp, by rw [hf], by rw [hT]; rfl⟩)
end
end Go.Proofs.YtoegmaebdihnaaaDoor.Eng
