/-
  Checking, the program's side.
-/
import Derived.Test.YtcpboonjaceneaaKN15
import Derived.Test.YtcpboonjaceneaaKN10
set_option linter.unusedSimpArgs false
set_option linter.unusedVariables false
namespace Go.Proofs.Ytcpboonjaceneaa.Eng
open Go Go.RowKit

section
variable {M : Nat} {D : List RuleD} {b : List UInt8}
theorem wrap0 : IntKind.i64.wrap 0 = 0 := by decide

private theorem tyF : ((((((tyElem Try.prog 22 = some 5 ∧ tyElem Try.prog 24 = some 87) ∧ (tyElem Try.prog 84 = some 9 ∧ tyElem Try.prog 85 = some 3)) ∧ ((tyField Try.prog 26 0 = some (0, 24) ∧ tyField Try.prog 65 0 = some (0, 26)) ∧ (tyField Try.prog 65 1 = some (1, 22) ∧ tyField Try.prog 65 2 = some (2, 3)))) ∧ (((tyField Try.prog 67 0 = some (0, 3) ∧ tyField Try.prog 67 1 = some (1, 3)) ∧ (tyField Try.prog 87 0 = some (0, 9) ∧ tyField Try.prog 87 1 = some (1, 3))) ∧ ((tyField Try.prog 87 2 = some (2, 3) ∧ tyField Try.prog 87 3 = some (3, 4)) ∧ (tyField Try.prog 87 4 = some (4, 22) ∧ (tyField Try.prog 87 5 = some (5, 84) ∧ tyField Try.prog 87 6 = some (6, 85)))))) ∧ ((((tyField Try.prog 87 7 = some (7, 85) ∧ tyK Try.prog 22 = some (false, 1)) ∧ (tyK Try.prog 24 = some (false, 1) ∧ tyK Try.prog 26 = some (true, 1))) ∧ ((tyK Try.prog 3 = some (false, 1) ∧ tyK Try.prog 4 = some (false, 1)) ∧ (tyK Try.prog 5 = some (false, 1) ∧ (tyK Try.prog 63 = some (false, 1) ∧ tyK Try.prog 65 = some (true, 3))))) ∧ (((tyK Try.prog 67 = some (true, 2) ∧ tyK Try.prog 84 = some (false, 1)) ∧ (tyK Try.prog 85 = some (false, 1) ∧ tyK Try.prog 87 = some (true, 8))) ∧ ((tyK Try.prog 9 = some (false, 1) ∧ tyPlaces Try.prog 26 = some [(0, 1)]) ∧ (tyPlaces Try.prog 65 = some [(0, 1), (1, 1), (2, 1)] ∧ (tyPlaces Try.prog 67 = some [(0, 1), (1, 1)] ∧ tyPlaces Try.prog 87 = some [(0, 1), (1, 1), (2, 1), (3, 1), (4, 1), (5, 1), (6, 1), (7, 1)])))))) ∧ (((((tyFlat Try.prog 67 = some [0, 0] ∧ tyRow Try.prog 22 = some 1) ∧ (tyRow Try.prog 24 = some 1 ∧ tyRow Try.prog 26 = some 1)) ∧ ((tyRow Try.prog 3 = some 1 ∧ tyRow Try.prog 4 = some 1) ∧ (tyRow Try.prog 5 = some 1 ∧ (tyRow Try.prog 63 = some 1 ∧ tyRow Try.prog 65 = some 3)))) ∧ (((tyRow Try.prog 67 = some 2 ∧ tyRow Try.prog 84 = some 1) ∧ (tyRow Try.prog 85 = some 1 ∧ tyRow Try.prog 87 = some 8)) ∧ ((tyRow Try.prog 9 = some 1 ∧ Try.prog.underlying 22 = some (TypeDesc.slice 5)) ∧ (Try.prog.underlying 24 = some (TypeDesc.slice 87) ∧ (Try.prog.underlying 3 = some (TypeDesc.int IntKind.i64) ∧ Try.prog.underlying 4 = some (TypeDesc.bool)))))) ∧ ((((Try.prog.underlying 5 = some (TypeDesc.int IntKind.u8) ∧ Try.prog.underlying 63 = some (TypeDesc.pointer 65)) ∧ (Try.prog.underlying 84 = some (TypeDesc.slice 9) ∧ Try.prog.underlying 85 = some (TypeDesc.slice 3))) ∧ ((Try.prog.underlying 9 = some (TypeDesc.string) ∧ tyZero Try.prog 22 = some [Value.slice none 0 0]) ∧ (tyZero Try.prog 24 = some [Value.slice none 0 0] ∧ (tyZero Try.prog 26 = some [Value.slice none 0 0] ∧ tyZero Try.prog 3 = some [Value.int IntKind.i64 0])))) ∧ (((tyZero Try.prog 4 = some [Value.bool false] ∧ tyZero Try.prog 5 = some [Value.int IntKind.u8 0]) ∧ (tyZero Try.prog 63 = some [Value.pointer none] ∧ tyZero Try.prog 65 = some [Value.slice none 0 0, Value.slice none 0 0, Value.int IntKind.i64 0])) ∧ ((tyZero Try.prog 67 = some [Value.int IntKind.i64 0, Value.int IntKind.i64 0] ∧ tyZero Try.prog 84 = some [Value.slice none 0 0]) ∧ (tyZero Try.prog 85 = some [Value.slice none 0 0] ∧ (tyZero Try.prog 87 = some [Value.string ByteArray.empty, Value.int IntKind.i64 0, Value.int IntKind.i64 0, Value.bool false, Value.slice none 0 0, Value.slice none 0 0, Value.slice none 0 0, Value.slice none 0 0] ∧ tyZero Try.prog 9 = some [Value.string ByteArray.empty]))))))) := ⟨⟨⟨⟨⟨⟨te22, te24⟩, ⟨te84, te85⟩⟩, ⟨⟨tf26_0, tf65_0⟩, ⟨tf65_1, tf65_2⟩⟩⟩, ⟨⟨⟨tf67_0, tf67_1⟩, ⟨tf87_0, tf87_1⟩⟩, ⟨⟨tf87_2, tf87_3⟩, ⟨tf87_4, ⟨tf87_5, tf87_6⟩⟩⟩⟩⟩, ⟨⟨⟨⟨tf87_7, tk22⟩, ⟨tk24, tk26⟩⟩, ⟨⟨tk3, tk4⟩, ⟨tk5, ⟨tk63, tk65⟩⟩⟩⟩, ⟨⟨⟨tk67, tk84⟩, ⟨tk85, tk87⟩⟩, ⟨⟨tk9, tp26⟩, ⟨tp65, ⟨tp67, tp87⟩⟩⟩⟩⟩⟩, ⟨⟨⟨⟨⟨tq67, tr22⟩, ⟨tr24, tr26⟩⟩, ⟨⟨tr3, tr4⟩, ⟨tr5, ⟨tr63, tr65⟩⟩⟩⟩, ⟨⟨⟨tr67, tr84⟩, ⟨tr85, tr87⟩⟩, ⟨⟨tr9, tu22⟩, ⟨tu24, ⟨tu3, tu4⟩⟩⟩⟩⟩, ⟨⟨⟨⟨tu5, tu63⟩, ⟨tu84, tu85⟩⟩, ⟨⟨tu9, tz22⟩, ⟨tz24, ⟨tz26, tz3⟩⟩⟩⟩, ⟨⟨⟨tz4, tz5⟩, ⟨tz63, tz65⟩⟩, ⟨⟨tz67, tz84⟩, ⟨tz85, ⟨tz87, tz9⟩⟩⟩⟩⟩⟩⟩
set_option maxRecDepth 100000 in
set_option maxHeartbeats 2000000 in
theorem checkValueI_c (hD : DB M D) (hM : M ≤ 1048576) (hb : b.length ≤ 1048576) (i p : Int) : AC Try.prog 22 [.d (encD D), .d (iD i), .d (encB b), .d (iD p)] none (fun r' _ => r' = chR (readV D b i p)) := by
  have no : ¬ (vKnown D i = true ∧ (0 ≤ p ∧ p ≤ b.length) ∧ b.length ≤ 400) → readV D b i p = (V0, 0, 8) := fun h => if_neg h
  by_cases hv : vKnown D i = true
  · by_cases hp0 : p < 0
    · have e1 : decide (p < 0) = true := decide_eq_true hp0
      refine calls_body Try.func22 rfl Try.call22 Try.ntmps22 (by simp) (by simp [ArgsOk]) (by simp [Rz.nkL, Rz.nk]) fun en hsz hks hk0 => ?_; simp only [St.init, frOf, Rz.addSL, Rz.addS, Rz.toAL, Rz.toA, Rz.nk, List.zipIdx_cons, List.zipIdx_nil, List.map_cons, List.map_nil, Nat.zero_add, Nat.reduceAdd]
      (repeat (first | refine aw_seq ?_ | refine aw_region ?_ | refine aw_block ?_ | (refine aw_exit ?_; (try simp (decide := true) only [reduceIte])) | (refine aw_skip ?_; try dsimp only) | (refine aw_any (by kernel_rfl) (by kernel_rfl) (by simp only [hsz]; kernel_rfl) ?_) | (refine ow_nil ?_; try dsimp only) | (refine ol_go ?_ (fun K1 hK1 => ?_); (first | exact trivial | exact rfl); refine evS ?_; (try simp only [e1]); refine hK1 _ _ ?_; clear hK1 K1) | (refine ol_skip rfl rfl ?_ ?_; (focus (intro hne; cases hne; done)); simp only [St.set]) | (refine ol_nil ⟨by kernel_rfl, ?_⟩; try dsimp only) | (refine ow_go ?_ (fun x hx => by cases hx <;> (rw [hsz]; decide)) (fun K1 hK1 => ?_); (first | exact trivial | exact rfl); refine evS ?_; (try simp only [e1]); refine hK1 _ ?_; clear hK1 K1) | (refine ow_skip rfl rfl ?_ (fun x hx => by cases hx <;> (rw [hsz]; decide)) ?_; (focus (intro hne; cases hne; done)); simp only [St.set]) | (refine callPre ?_; (first | refine callN_funS rfl ((known_c hD hM i).eqv (r1 := .d (bD true)) (by rw [hv])) ?_)) | (refine callPreL ?_; (first | refine callL_funS rfl ((known_c hD hM i).eqv (r1 := .d (bD true)) (by rw [hv])) ?_))))
      refine aw_condS rfl (fun hc => ?_) (fun hc => ?_)
      · refine walkS ?_
        (refine aw_ret ?_; (simp only [Fin, Try.results22]; refine finS ?_); exact ⟨_, _, .inl ⟨rfl, rfl⟩, List.nodup_nil, by rw [no (fun h => by omega)]; rfl⟩)
      · (first | exact absurd trivial hc | exact absurd rfl hc | (cases hc; done) | omega | exact absurd hc (by decide) | (simp at hc; done))
    · have e1 : decide (p < 0) = false := decide_eq_false hp0
      by_cases hp1 : (b.length : Int) < p
      · have e2 : decide ((b.length : Int) < p) = true := decide_eq_true hp1
        refine calls_body Try.func22 rfl Try.call22 Try.ntmps22 (by simp) (by simp [ArgsOk]) (by simp [Rz.nkL, Rz.nk]) fun en hsz hks hk0 => ?_; simp only [St.init, frOf, Rz.addSL, Rz.addS, Rz.toAL, Rz.toA, Rz.nk, List.zipIdx_cons, List.zipIdx_nil, List.map_cons, List.map_nil, Nat.zero_add, Nat.reduceAdd]
        (repeat (first | refine aw_seq ?_ | refine aw_region ?_ | refine aw_block ?_ | (refine aw_exit ?_; (try simp (decide := true) only [reduceIte])) | (refine aw_skip ?_; try dsimp only) | (refine aw_any (by kernel_rfl) (by kernel_rfl) (by simp only [hsz]; kernel_rfl) ?_) | (refine ow_nil ?_; try dsimp only) | (refine ol_go ?_ (fun K1 hK1 => ?_); (first | exact trivial | exact rfl); refine evS ?_; (try simp only [e1, e2]); refine hK1 _ _ ?_; clear hK1 K1) | (refine ol_skip rfl rfl ?_ ?_; (focus (intro hne; cases hne; done)); simp only [St.set]) | (refine ol_nil ⟨by kernel_rfl, ?_⟩; try dsimp only) | (refine ow_go ?_ (fun x hx => by cases hx <;> (rw [hsz]; decide)) (fun K1 hK1 => ?_); (first | exact trivial | exact rfl); refine evS ?_; (try simp only [e1, e2]); refine hK1 _ ?_; clear hK1 K1) | (refine ow_skip rfl rfl ?_ (fun x hx => by cases hx <;> (rw [hsz]; decide)) ?_; (focus (intro hne; cases hne; done)); simp only [St.set]) | (refine callPre ?_; (first | refine callN_funS rfl ((known_c hD hM i).eqv (r1 := .d (bD true)) (by rw [hv])) ?_)) | (refine callPreL ?_; (first | refine callL_funS rfl ((known_c hD hM i).eqv (r1 := .d (bD true)) (by rw [hv])) ?_))))
        refine aw_condS rfl (fun hc => ?_) (fun hc => ?_)
        · refine walkS ?_
          (refine aw_ret ?_; (simp only [Fin, Try.results22]; refine finS ?_); exact ⟨_, _, .inl ⟨rfl, rfl⟩, List.nodup_nil, by rw [no (fun h => by omega)]; rfl⟩)
        · (first | exact absurd trivial hc | exact absurd rfl hc | (cases hc; done) | omega | exact absurd hc (by decide) | (simp at hc; done))
      · have e2 : decide ((b.length : Int) < p) = false := decide_eq_false hp1
        refine calls_body Try.func22 rfl Try.call22 Try.ntmps22 (by simp) (by simp [ArgsOk]) (by simp [Rz.nkL, Rz.nk]) fun en hsz hks hk0 => ?_; simp only [St.init, frOf, Rz.addSL, Rz.addS, Rz.toAL, Rz.toA, Rz.nk, List.zipIdx_cons, List.zipIdx_nil, List.map_cons, List.map_nil, Nat.zero_add, Nat.reduceAdd]
        (repeat (first | refine aw_seq ?_ | refine aw_region ?_ | refine aw_block ?_ | (refine aw_exit ?_; (try simp (decide := true) only [reduceIte])) | (refine aw_skip ?_; try dsimp only) | (refine aw_any (by kernel_rfl) (by kernel_rfl) (by simp only [hsz]; kernel_rfl) ?_) | (refine ow_nil ?_; try dsimp only) | (refine ol_go ?_ (fun K1 hK1 => ?_); (first | exact trivial | exact rfl); refine evS ?_; (try simp only [e1, e2]); refine hK1 _ _ ?_; clear hK1 K1) | (refine ol_skip rfl rfl ?_ ?_; (focus (intro hne; cases hne; done)); simp only [St.set]) | (refine ol_nil ⟨by kernel_rfl, ?_⟩; try dsimp only) | (refine ow_go ?_ (fun x hx => by cases hx <;> (rw [hsz]; decide)) (fun K1 hK1 => ?_); (first | exact trivial | exact rfl); refine evS ?_; (try simp only [e1, e2]); refine hK1 _ ?_; clear hK1 K1) | (refine ow_skip rfl rfl ?_ (fun x hx => by cases hx <;> (rw [hsz]; decide)) ?_; (focus (intro hne; cases hne; done)); simp only [St.set]) | (refine callPre ?_; (first | refine callN_funS rfl ((known_c hD hM i).eqv (r1 := .d (bD true)) (by rw [hv])) ?_)) | (refine callPreL ?_; (first | refine callL_funS rfl ((known_c hD hM i).eqv (r1 := .d (bD true)) (by rw [hv])) ?_))))
        refine aw_condS rfl (fun hc => ?_) (fun hc => ?_)
        · refine walkS ?_
          (refine aw_ret ?_; (simp only [Fin, Try.results22]; refine finS ?_); exact ⟨_, _, .inl ⟨rfl, rfl⟩, List.nodup_nil, by rw [no (fun h => by omega)]; rfl⟩)
        · have hyes : readV D b i p = rd D b D.length i.toNat p.toNat := if_pos ⟨hv, by omega, by omega⟩
          obtain ⟨v1, v2, v3⟩ := vKnown_spec hv
          have HV := value_all hD hM hb v1 D.length i.toNat p.toNat 0 (by omega) (by omega) (by omega)
          rw [Int.toNat_of_nonneg v2, Int.toNat_of_nonneg (by omega), ← hyes] at HV
          simp only [chk, wrap0] at HV
          (repeat (first | refine walkS ?_ | (refine ow_call1d (k := 48) ?_ (fun x hx => by cases hx <;> (rw [hsz]; decide)) rfl (HV) rfl rfl ?_; (first | exact trivial | exact rfl); simp only [St.set, List.map_cons, List.map_nil, Nat.reduceAdd]) | (refine ol_call1d (k := 48) ?_ rfl (HV) rfl rfl ⟨0, List.mem_cons_self⟩ ?_; (first | exact trivial | exact rfl); simp only [St.set, List.map_cons, List.map_nil, Nat.reduceAdd])))
          (refine aw_ret ?_; (simp only [Fin, Try.results22]; refine finS ?_); exact ⟨_, _, .inl ⟨rfl, rfl⟩, List.nodup_nil, rfl⟩)
  · have hv' : vKnown D i = false := by simpa using hv
    refine calls_body Try.func22 rfl Try.call22 Try.ntmps22 (by simp) (by simp [ArgsOk]) (by simp [Rz.nkL, Rz.nk]) fun en hsz hks hk0 => ?_; simp only [St.init, frOf, Rz.addSL, Rz.addS, Rz.toAL, Rz.toA, Rz.nk, List.zipIdx_cons, List.zipIdx_nil, List.map_cons, List.map_nil, Nat.zero_add, Nat.reduceAdd]
    (repeat (first | refine walkS ?_ | (refine callPre ?_; (first | refine callN_funS rfl ((known_c hD hM i).eqv (r1 := .d (bD false)) (by rw [hv'])) ?_)) | (refine callPreL ?_; (first | refine callL_funS rfl ((known_c hD hM i).eqv (r1 := .d (bD false)) (by rw [hv'])) ?_))))
    refine aw_condS rfl (fun hc => ?_) (fun hc => ?_)
    · refine walkS ?_
      (refine aw_ret ?_; (simp only [Fin, Try.results22]; refine finS ?_); exact ⟨_, _, .inl ⟨rfl, rfl⟩, List.nodup_nil, by rw [no (fun h => hv h.1)]; rfl⟩)
    · (first | exact absurd trivial hc | exact absurd rfl hc | (cases hc; done) | omega | exact absurd hc (by decide) | (simp at hc; done))

set_option maxRecDepth 100000 in
theorem rootI_c (hD : DB M D) (hM : M ≤ 1048576) : AC Try.prog 50 [.d (encD D)] none (fun r' _ => r' = .d (iD ((D.length : Int) - 1))) := by
  have hl := hD.len
  refine calls_body Try.func50 rfl Try.call50 Try.ntmps50 (by simp) (by simp [ArgsOk]) (by simp [Rz.nkL, Rz.nk]) fun en hsz hks hk0 => ?_; simp only [St.init, frOf, Rz.addSL, Rz.addS, Rz.toAL, Rz.toA, Rz.nk, List.zipIdx_cons, List.zipIdx_nil, List.map_cons, List.map_nil, Nat.zero_add, Nat.reduceAdd]
  refine walkS ?_
  (refine aw_ret ?_; (simp only [Fin, Try.results50]; refine finS ?_); exact ⟨_, _, .inl ⟨rfl, rfl⟩, List.nodup_nil, rfl⟩)
end
end Go.Proofs.Ytcpboonjaceneaa.Eng
