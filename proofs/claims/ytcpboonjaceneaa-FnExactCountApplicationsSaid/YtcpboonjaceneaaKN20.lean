/-
  Counting what is applied: files, both sides; the longest beginning, the program's side.
-/
import Derived.Test.YtcpboonjaceneaaKN18
import Derived.Test.YtcpboonjaceneaaKN19
set_option linter.unusedSimpArgs false
set_option linter.unusedVariables false
namespace Go.Proofs.Ytcpboonjaceneaa.Eng
open Go Go.RowKit

/-- How many rules are applied while a file is read, as a machine counts. -/
noncomputable def cntF (D : List RuleD) (b : List UInt8) : Int := if vDesc D = true ∧ b.length ≤ 400 then IntKind.i64.wrap (cnt D b D.length (D.length - 1) 0) else 0
theorem vDesc_spec {D : List RuleD} (h : vDesc D = true) : descP D ∧ 1 ≤ D.length := by
  have h1 := descP_of h
  exact ⟨h1, h1.1.1⟩

section
variable {M : Nat} {D : List RuleD} {b : List UInt8}
private theorem tyF : ((((((tyElem Try.prog 22 = some 5 ∧ tyElem Try.prog 24 = some 87) ∧ (tyElem Try.prog 84 = some 9 ∧ tyElem Try.prog 85 = some 3)) ∧ ((tyField Try.prog 26 0 = some (0, 24) ∧ tyField Try.prog 65 0 = some (0, 26)) ∧ (tyField Try.prog 65 1 = some (1, 22) ∧ tyField Try.prog 65 2 = some (2, 3)))) ∧ (((tyField Try.prog 87 0 = some (0, 9) ∧ tyField Try.prog 87 1 = some (1, 3)) ∧ (tyField Try.prog 87 2 = some (2, 3) ∧ tyField Try.prog 87 3 = some (3, 4))) ∧ ((tyField Try.prog 87 4 = some (4, 22) ∧ tyField Try.prog 87 5 = some (5, 84)) ∧ (tyField Try.prog 87 6 = some (6, 85) ∧ tyField Try.prog 87 7 = some (7, 85))))) ∧ ((((tyK Try.prog 22 = some (false, 1) ∧ tyK Try.prog 24 = some (false, 1)) ∧ (tyK Try.prog 26 = some (true, 1) ∧ tyK Try.prog 3 = some (false, 1))) ∧ ((tyK Try.prog 4 = some (false, 1) ∧ tyK Try.prog 5 = some (false, 1)) ∧ (tyK Try.prog 63 = some (false, 1) ∧ tyK Try.prog 65 = some (true, 3)))) ∧ (((tyK Try.prog 84 = some (false, 1) ∧ tyK Try.prog 85 = some (false, 1)) ∧ (tyK Try.prog 87 = some (true, 8) ∧ tyK Try.prog 9 = some (false, 1))) ∧ ((tyPlaces Try.prog 26 = some [(0, 1)] ∧ tyPlaces Try.prog 65 = some [(0, 1), (1, 1), (2, 1)]) ∧ (tyPlaces Try.prog 87 = some [(0, 1), (1, 1), (2, 1), (3, 1), (4, 1), (5, 1), (6, 1), (7, 1)] ∧ tyRow Try.prog 22 = some 1))))) ∧ (((((tyRow Try.prog 24 = some 1 ∧ tyRow Try.prog 26 = some 1) ∧ (tyRow Try.prog 3 = some 1 ∧ tyRow Try.prog 4 = some 1)) ∧ ((tyRow Try.prog 5 = some 1 ∧ tyRow Try.prog 63 = some 1) ∧ (tyRow Try.prog 65 = some 3 ∧ tyRow Try.prog 84 = some 1))) ∧ (((tyRow Try.prog 85 = some 1 ∧ tyRow Try.prog 87 = some 8) ∧ (tyRow Try.prog 9 = some 1 ∧ Try.prog.underlying 22 = some (TypeDesc.slice 5))) ∧ ((Try.prog.underlying 24 = some (TypeDesc.slice 87) ∧ Try.prog.underlying 3 = some (TypeDesc.int IntKind.i64)) ∧ (Try.prog.underlying 4 = some (TypeDesc.bool) ∧ Try.prog.underlying 5 = some (TypeDesc.int IntKind.u8))))) ∧ ((((Try.prog.underlying 63 = some (TypeDesc.pointer 65) ∧ Try.prog.underlying 84 = some (TypeDesc.slice 9)) ∧ (Try.prog.underlying 85 = some (TypeDesc.slice 3) ∧ Try.prog.underlying 9 = some (TypeDesc.string))) ∧ ((tyZero Try.prog 22 = some [Value.slice none 0 0] ∧ tyZero Try.prog 24 = some [Value.slice none 0 0]) ∧ (tyZero Try.prog 26 = some [Value.slice none 0 0] ∧ tyZero Try.prog 3 = some [Value.int IntKind.i64 0]))) ∧ (((tyZero Try.prog 4 = some [Value.bool false] ∧ tyZero Try.prog 5 = some [Value.int IntKind.u8 0]) ∧ (tyZero Try.prog 63 = some [Value.pointer none] ∧ tyZero Try.prog 65 = some [Value.slice none 0 0, Value.slice none 0 0, Value.int IntKind.i64 0])) ∧ ((tyZero Try.prog 84 = some [Value.slice none 0 0] ∧ tyZero Try.prog 85 = some [Value.slice none 0 0]) ∧ (tyZero Try.prog 87 = some [Value.string ByteArray.empty, Value.int IntKind.i64 0, Value.int IntKind.i64 0, Value.bool false, Value.slice none 0 0, Value.slice none 0 0, Value.slice none 0 0, Value.slice none 0 0] ∧ tyZero Try.prog 9 = some [Value.string ByteArray.empty])))))) := ⟨⟨⟨⟨⟨⟨te22, te24⟩, ⟨te84, te85⟩⟩, ⟨⟨tf26_0, tf65_0⟩, ⟨tf65_1, tf65_2⟩⟩⟩, ⟨⟨⟨tf87_0, tf87_1⟩, ⟨tf87_2, tf87_3⟩⟩, ⟨⟨tf87_4, tf87_5⟩, ⟨tf87_6, tf87_7⟩⟩⟩⟩, ⟨⟨⟨⟨tk22, tk24⟩, ⟨tk26, tk3⟩⟩, ⟨⟨tk4, tk5⟩, ⟨tk63, tk65⟩⟩⟩, ⟨⟨⟨tk84, tk85⟩, ⟨tk87, tk9⟩⟩, ⟨⟨tp26, tp65⟩, ⟨tp87, tr22⟩⟩⟩⟩⟩, ⟨⟨⟨⟨⟨tr24, tr26⟩, ⟨tr3, tr4⟩⟩, ⟨⟨tr5, tr63⟩, ⟨tr65, tr84⟩⟩⟩, ⟨⟨⟨tr85, tr87⟩, ⟨tr9, tu22⟩⟩, ⟨⟨tu24, tu3⟩, ⟨tu4, tu5⟩⟩⟩⟩, ⟨⟨⟨⟨tu63, tu84⟩, ⟨tu85, tu9⟩⟩, ⟨⟨tz22, tz24⟩, ⟨tz26, tz3⟩⟩⟩, ⟨⟨⟨tz4, tz5⟩, ⟨tz63, tz65⟩⟩, ⟨⟨tz84, tz85⟩, ⟨tz87, tz9⟩⟩⟩⟩⟩⟩
set_option maxRecDepth 100000 in
set_option maxHeartbeats 2000000 in
theorem countS_c (hD : DB M D) (hM : M ≤ 1048576) (hb : b.length ≤ 1048576) : AC Try.prog 29 [.d (encD D), .d (encB b)] none (fun r' _ => r' = .d (iD (cntF D b))) := by
  by_cases hv : vDesc D = true
  · by_cases hl : 400 < b.length
    · have e1 : decide ((400 : Int) < (b.length : Int)) = true := by simp; omega
      refine calls_body Try.func29 rfl Try.call29 Try.ntmps29 (by simp) (by simp [ArgsOk]) (by simp [Rz.nkL, Rz.nk]) fun en hsz hks hk0 => ?_; simp only [St.init, frOf, Rz.addSL, Rz.addS, Rz.toAL, Rz.toA, Rz.nk, List.zipIdx_cons, List.zipIdx_nil, List.map_cons, List.map_nil, Nat.zero_add, Nat.reduceAdd]
      (repeat (first | refine aw_seq ?_ | refine aw_region ?_ | refine aw_block ?_ | (refine aw_exit ?_; (try simp (decide := true) only [reduceIte])) | (refine aw_skip ?_; try dsimp only) | (refine aw_any (by kernel_rfl) (by kernel_rfl) (by simp only [hsz]; kernel_rfl) ?_) | (refine ow_nil ?_; try dsimp only) | (refine ol_go ?_ (fun K1 hK1 => ?_); (first | exact trivial | exact rfl); refine evS ?_; (try simp only [e1]); refine hK1 _ _ ?_; clear hK1 K1) | (refine ol_skip rfl rfl ?_ ?_; (focus (intro hne; cases hne; done)); simp only [St.set]) | (refine ol_nil ⟨by kernel_rfl, ?_⟩; try dsimp only) | (refine ow_go ?_ (fun x hx => by cases hx <;> (rw [hsz]; decide)) (fun K1 hK1 => ?_); (first | exact trivial | exact rfl); refine evS ?_; (try simp only [e1]); refine hK1 _ ?_; clear hK1 K1) | (refine ow_skip rfl rfl ?_ (fun x hx => by cases hx <;> (rw [hsz]; decide)) ?_; (focus (intro hne; cases hne; done)); simp only [St.set]) | (refine callPre ?_; (first | refine callN_funS rfl ((validS_c hD hM).eqv (r1 := .d (bD true)) (by rw [hv])) ?_)) | (refine callPreL ?_; (first | refine callL_funS rfl ((validS_c hD hM).eqv (r1 := .d (bD true)) (by rw [hv])) ?_))))
      refine aw_condS rfl (fun hc => ?_) (fun hc => ?_)
      · refine walkS ?_
        (refine aw_ret ?_; (simp only [Fin, Try.results29]; refine finS ?_); exact ⟨_, _, .inl ⟨rfl, rfl⟩, List.nodup_nil, by rw [cntF, if_neg (by omega)]⟩)
      · (first | exact absurd trivial hc | exact absurd rfl hc | (cases hc; done) | omega | exact absurd hc (by decide) | (simp at hc; done))
    · have e1 : decide ((400 : Int) < (b.length : Int)) = false := by simp; omega
      obtain ⟨v1, v2⟩ := vDesc_spec hv
      have HL := l14Count_all hD hM hb v1 D.length (D.length - 1) 0 (by omega) (by omega) (by omega)
      have HS := (lc_spec (D := D) (b := b) D.length (D.length - 1) 0 (by omega)).1
      rw [show ((D.length - 1 : Nat) : Int) = (D.length : Int) - 1 by omega] at HL
      refine calls_body Try.func29 rfl Try.call29 Try.ntmps29 (by simp) (by simp [ArgsOk]) (by simp [Rz.nkL, Rz.nk]) fun en hsz hks hk0 => ?_; simp only [St.init, frOf, Rz.addSL, Rz.addS, Rz.toAL, Rz.toA, Rz.nk, List.zipIdx_cons, List.zipIdx_nil, List.map_cons, List.map_nil, Nat.zero_add, Nat.reduceAdd]
      (repeat (first | refine aw_seq ?_ | refine aw_region ?_ | refine aw_block ?_ | (refine aw_exit ?_; (try simp (decide := true) only [reduceIte])) | (refine aw_skip ?_; try dsimp only) | (refine aw_any (by kernel_rfl) (by kernel_rfl) (by simp only [hsz]; kernel_rfl) ?_) | (refine ow_nil ?_; try dsimp only) | (refine ol_go ?_ (fun K1 hK1 => ?_); (first | exact trivial | exact rfl); refine evS ?_; (try simp only [e1]); refine hK1 _ _ ?_; clear hK1 K1) | (refine ol_skip rfl rfl ?_ ?_; (focus (intro hne; cases hne; done)); simp only [St.set]) | (refine ol_nil ⟨by kernel_rfl, ?_⟩; try dsimp only) | (refine ow_go ?_ (fun x hx => by cases hx <;> (rw [hsz]; decide)) (fun K1 hK1 => ?_); (first | exact trivial | exact rfl); refine evS ?_; (try simp only [e1]); refine hK1 _ ?_; clear hK1 K1) | (refine ow_skip rfl rfl ?_ (fun x hx => by cases hx <;> (rw [hsz]; decide)) ?_; (focus (intro hne; cases hne; done)); simp only [St.set]) | (refine callPre ?_; (first | refine callN_funS rfl ((validS_c hD hM).eqv (r1 := .d (bD true)) (by rw [hv])) ?_ | refine callN_funS rfl (rootS_c hD hM) ?_ | refine callN_funS rfl (HL) ?_)) | (refine callPreL ?_; (first | refine callL_funS rfl ((validS_c hD hM).eqv (r1 := .d (bD true)) (by rw [hv])) ?_ | refine callL_funS rfl (rootS_c hD hM) ?_ | refine callL_funS rfl (HL) ?_))))
      refine aw_condS rfl (fun hc => ?_) (fun hc => ?_)
      · (first | exact absurd trivial hc | exact absurd rfl hc | (cases hc; done) | omega | exact absurd hc (by decide) | (simp at hc; done))
      · (repeat (first | refine walkS ?_ | (refine callPre ?_; (first | refine callN_funS rfl (rootS_c hD hM) ?_ | refine callN_funS rfl (HL) ?_)) | (refine callPreL ?_; (first | refine callL_funS rfl (rootS_c hD hM) ?_ | refine callL_funS rfl (HL) ?_))))
        (refine aw_ret ?_; (simp only [Fin, Try.results29]; refine finS ?_); exact ⟨_, _, .inl ⟨rfl, rfl⟩, List.nodup_nil, by rw [cntF, if_pos ⟨hv, by omega⟩, ← HS]⟩)
  · have hv' : vDesc D = false := by simpa using hv
    refine calls_body Try.func29 rfl Try.call29 Try.ntmps29 (by simp) (by simp [ArgsOk]) (by simp [Rz.nkL, Rz.nk]) fun en hsz hks hk0 => ?_; simp only [St.init, frOf, Rz.addSL, Rz.addS, Rz.toAL, Rz.toA, Rz.nk, List.zipIdx_cons, List.zipIdx_nil, List.map_cons, List.map_nil, Nat.zero_add, Nat.reduceAdd]
    (repeat (first | refine walkS ?_ | (refine callPre ?_; (first | refine callN_funS rfl ((validS_c hD hM).eqv (r1 := .d (bD false)) (by rw [hv'])) ?_)) | (refine callPreL ?_; (first | refine callL_funS rfl ((validS_c hD hM).eqv (r1 := .d (bD false)) (by rw [hv'])) ?_))))
    refine aw_condS rfl (fun hc => ?_) (fun hc => ?_)
    · refine walkS ?_
      (refine aw_ret ?_; (simp only [Fin, Try.results29]; refine finS ?_); exact ⟨_, _, .inl ⟨rfl, rfl⟩, List.nodup_nil, by rw [cntF, if_neg (fun h => hv h.1)]⟩)
    · (first | exact absurd trivial hc | exact absurd rfl hc | (cases hc; done) | omega | exact absurd hc (by decide) | (simp at hc; done))

set_option maxRecDepth 100000 in
set_option maxHeartbeats 2000000 in
theorem countI_c (hD : DB M D) (hM : M ≤ 1048576) (hb : b.length ≤ 1048576) : AC Try.prog 15 [.d (encD D), .d (encB b)] none (fun r' _ => r' = .d (iD (cntF D b))) := by
  by_cases hv : vDesc D = true
  · by_cases hl : 400 < b.length
    · have e1 : decide ((400 : Int) < (b.length : Int)) = true := by simp; omega
      refine calls_body Try.func15 rfl Try.call15 Try.ntmps15 (by simp) (by simp [ArgsOk]) (by simp [Rz.nkL, Rz.nk]) fun en hsz hks hk0 => ?_; simp only [St.init, frOf, Rz.addSL, Rz.addS, Rz.toAL, Rz.toA, Rz.nk, List.zipIdx_cons, List.zipIdx_nil, List.map_cons, List.map_nil, Nat.zero_add, Nat.reduceAdd]
      (repeat (first | refine aw_seq ?_ | refine aw_region ?_ | refine aw_block ?_ | (refine aw_exit ?_; (try simp (decide := true) only [reduceIte])) | (refine aw_skip ?_; try dsimp only) | (refine aw_any (by kernel_rfl) (by kernel_rfl) (by simp only [hsz]; kernel_rfl) ?_) | (refine ow_nil ?_; try dsimp only) | (refine ol_go ?_ (fun K1 hK1 => ?_); (first | exact trivial | exact rfl); refine evS ?_; (try simp only [e1]); refine hK1 _ _ ?_; clear hK1 K1) | (refine ol_skip rfl rfl ?_ ?_; (focus (intro hne; cases hne; done)); simp only [St.set]) | (refine ol_nil ⟨by kernel_rfl, ?_⟩; try dsimp only) | (refine ow_go ?_ (fun x hx => by cases hx <;> (rw [hsz]; decide)) (fun K1 hK1 => ?_); (first | exact trivial | exact rfl); refine evS ?_; (try simp only [e1]); refine hK1 _ ?_; clear hK1 K1) | (refine ow_skip rfl rfl ?_ (fun x hx => by cases hx <;> (rw [hsz]; decide)) ?_; (focus (intro hne; cases hne; done)); simp only [St.set]) | (refine callPre ?_; (first | refine callN_funS rfl ((validI_c hD hM).eqv (r1 := .d (bD true)) (by rw [hv])) ?_)) | (refine callPreL ?_; (first | refine callL_funS rfl ((validI_c hD hM).eqv (r1 := .d (bD true)) (by rw [hv])) ?_))))
      refine aw_condS rfl (fun hc => ?_) (fun hc => ?_)
      · refine walkS ?_
        (refine aw_ret ?_; (simp only [Fin, Try.results15]; refine finS ?_); exact ⟨_, _, .inl ⟨rfl, rfl⟩, List.nodup_nil, by rw [cntF, if_neg (by omega)]⟩)
      · (first | exact absurd trivial hc | exact absurd rfl hc | (cases hc; done) | omega | exact absurd hc (by decide) | (simp at hc; done))
    · have e1 : decide ((400 : Int) < (b.length : Int)) = false := by simp; omega
      obtain ⟨v1, v2⟩ := vDesc_spec hv
      have HV := value_all hD hM hb v1 D.length (D.length - 1) 0 0 (by omega) (by omega) (by omega)
      rw [show ((D.length - 1 : Nat) : Int) = (D.length : Int) - 1 by omega] at HV
      simp only [chk, wrap0] at HV
      refine calls_body Try.func15 rfl Try.call15 Try.ntmps15 (by simp) (by simp [ArgsOk]) (by simp [Rz.nkL, Rz.nk]) fun en hsz hks hk0 => ?_; simp only [St.init, frOf, Rz.addSL, Rz.addS, Rz.toAL, Rz.toA, Rz.nk, List.zipIdx_cons, List.zipIdx_nil, List.map_cons, List.map_nil, Nat.zero_add, Nat.reduceAdd]
      (repeat (first | refine aw_seq ?_ | refine aw_region ?_ | refine aw_block ?_ | (refine aw_exit ?_; (try simp (decide := true) only [reduceIte])) | (refine aw_skip ?_; try dsimp only) | (refine aw_any (by kernel_rfl) (by kernel_rfl) (by simp only [hsz]; kernel_rfl) ?_) | (refine ow_nil ?_; try dsimp only) | (refine ol_go ?_ (fun K1 hK1 => ?_); (first | exact trivial | exact rfl); refine evS ?_; (try simp only [e1]); refine hK1 _ _ ?_; clear hK1 K1) | (refine ol_skip rfl rfl ?_ ?_; (focus (intro hne; cases hne; done)); simp only [St.set]) | (refine ol_nil ⟨by kernel_rfl, ?_⟩; try dsimp only) | (refine ow_go ?_ (fun x hx => by cases hx <;> (rw [hsz]; decide)) (fun K1 hK1 => ?_); (first | exact trivial | exact rfl); refine evS ?_; (try simp only [e1]); refine hK1 _ ?_; clear hK1 K1) | (refine ow_skip rfl rfl ?_ (fun x hx => by cases hx <;> (rw [hsz]; decide)) ?_; (focus (intro hne; cases hne; done)); simp only [St.set]) | (refine callPre ?_; (first | refine callN_funS rfl ((validI_c hD hM).eqv (r1 := .d (bD true)) (by rw [hv])) ?_)) | (refine callPreL ?_; (first | refine callL_funS rfl ((validI_c hD hM).eqv (r1 := .d (bD true)) (by rw [hv])) ?_))))
      refine aw_condS rfl (fun hc => ?_) (fun hc => ?_)
      · (first | exact absurd trivial hc | exact absurd rfl hc | (cases hc; done) | omega | exact absurd hc (by decide) | (simp at hc; done))
      · (repeat (first | refine walkS ?_ | (refine ow_call1d (k := 48) ?_ (fun x hx => by cases hx <;> (rw [hsz]; decide)) rfl (HV) rfl rfl ?_; (first | exact trivial | exact rfl); simp only [St.set, List.map_cons, List.map_nil, Nat.reduceAdd]) | (refine ol_call1d (k := 48) ?_ rfl (HV) rfl rfl ⟨0, List.mem_cons_self⟩ ?_; (first | exact trivial | exact rfl); simp only [St.set, List.map_cons, List.map_nil, Nat.reduceAdd]) | (refine callPre ?_; (first | refine callN_funS rfl (rootI_c hD hM) ?_)) | (refine callPreL ?_; (first | refine callL_funS rfl (rootI_c hD hM) ?_))))
        (refine aw_ret ?_; (simp only [Fin, Try.results15]; refine finS ?_); exact ⟨_, _, .inl ⟨rfl, rfl⟩, List.nodup_nil, by rw [cntF, if_pos ⟨hv, by omega⟩]; simp⟩)
  · have hv' : vDesc D = false := by simpa using hv
    refine calls_body Try.func15 rfl Try.call15 Try.ntmps15 (by simp) (by simp [ArgsOk]) (by simp [Rz.nkL, Rz.nk]) fun en hsz hks hk0 => ?_; simp only [St.init, frOf, Rz.addSL, Rz.addS, Rz.toAL, Rz.toA, Rz.nk, List.zipIdx_cons, List.zipIdx_nil, List.map_cons, List.map_nil, Nat.zero_add, Nat.reduceAdd]
    (repeat (first | refine walkS ?_ | (refine callPre ?_; (first | refine callN_funS rfl ((validI_c hD hM).eqv (r1 := .d (bD false)) (by rw [hv'])) ?_)) | (refine callPreL ?_; (first | refine callL_funS rfl ((validI_c hD hM).eqv (r1 := .d (bD false)) (by rw [hv'])) ?_))))
    refine aw_condS rfl (fun hc => ?_) (fun hc => ?_)
    · refine walkS ?_
      (refine aw_ret ?_; (simp only [Fin, Try.results15]; refine finS ?_); exact ⟨_, _, .inl ⟨rfl, rfl⟩, List.nodup_nil, by rw [cntF, if_neg (fun h => hv h.1)]⟩)
    · (first | exact absurd trivial hc | exact absurd rfl hc | (cases hc; done) | omega | exact absurd hc (by decide) | (simp at hc; done))

theorem validP_long {D : List RuleD} {b : List UInt8} (h : 400 < b.length) : validP D b = false := by
  have e : readV D b ((D.length : Int) - 1) 0 = (V0, 0, 8) := if_neg fun h' => by omega
  unfold validP readF
  rw [e]
  simp
theorem longP_cut {D : List RuleD} {b : List UInt8} : ∀ n : Nat, n ≤ b.length → 400 ≤ n → longP D b n = longP D b 400
  | 0, _, h => by omega
  | n + 1, h1, h2 => by
    by_cases hn : n + 1 = 400
    · rw [hn]
    · rw [longP, if_neg (by rw [validP_long (by simp; omega)]; simp)]
      exact longP_cut n (by omega) (by omega)
theorem longP_min (D : List RuleD) (b : List UInt8) : longP D b b.length = longP D b (minF b.length 400).toNat := by
  unfold minF
  split
  · rw [longP_cut b.length (Nat.le_refl _) (by omega)]; rfl
  · simp
set_option maxRecDepth 100000 in
theorem longPI_c (hD : DB M D) (hM : M ≤ 1048576) (hb : b.length ≤ 1048576) : AC Try.prog 31 [.d (encD D), .d (encB b)] none (fun r' _ => r' = .d (iD (longP D b b.length))) := by
  have hm : 0 ≤ minF b.length 400 ∧ minF b.length 400 ≤ b.length := by unfold minF; split <;> omega
  have hlp := longP_min D b
  generalize hmm : minF b.length 400 = m at hm hlp
  refine calls_body Try.func31 rfl Try.call31 Try.ntmps31 (by simp) (by simp [ArgsOk]) (by simp [Rz.nkL, Rz.nk]) fun en hsz hks hk0 => ?_; simp only [St.init, frOf, Rz.addSL, Rz.addS, Rz.toAL, Rz.toA, Rz.nk, List.zipIdx_cons, List.zipIdx_nil, List.map_cons, List.map_nil, Nat.zero_add, Nat.reduceAdd]
  (repeat (first | refine walkS ?_ | (refine callPre ?_; (first | refine callN_funS rfl ((minI_c (b.length : Int) 400).eqv (r1 := .d (iD m)) (by rw [hmm])) ?_)) | (refine callPreL ?_; (first | refine callL_funS rfl ((minI_c (b.length : Int) 400).eqv (r1 := .d (iD m)) (by rw [hmm])) ?_))))
  refine aw_loopS [1, 2, 4] (fun _ _ => []) (fun _ k => [(5, .d (iD (k : Int)))]) [] (fun _ _ => []) [] (fun _ _ => []) (fun k : Int => -1 ≤ k ∧ k ≤ b.length ∧ ((k = -1 ∧ longP D b b.length = -1) ∨ (0 ≤ k ∧ longP D b b.length = longP D b k.toNat))) (fun k => (k + 1).toNat) (m) hks (fun _ => rfl) ⟨by omega, by omega, .inr ⟨by omega, hlp⟩⟩ wkS ?_; intro x hx; simp (decide := true) only [St.head, List.map_cons, List.map_nil, lk, rmv, List.cons_append, List.nil_append, List.append_nil, reduceIte, Nat.reduceAdd]
  obtain ⟨hx1, hx2, hx3⟩ := hx
  refine walkS ?_
  refine aw_condS rfl (fun hk => ?_) (fun hk => ?_)
  · have hx4 : longP D b b.length = longP D b x.toNat := by
      rcases hx3 with h | h
      · omega
      · exact h.2
    have HV := validPI_c (b := List.take (x.toNat - 0) (List.drop 0 b)) hD hM (by simp; omega)
    rw [List.drop_zero, Nat.sub_zero] at HV
    cases hv : validP D (List.take x.toNat b) with
    | true =>
      (repeat (first | refine aw_seq ?_ | refine aw_region ?_ | refine aw_block ?_ | (refine aw_exit ?_; (try simp (decide := true) only [reduceIte])) | (refine aw_skip ?_; try dsimp only) | (refine aw_any (by kernel_rfl) (by kernel_rfl) (by simp only [hsz]; kernel_rfl) ?_) | (refine ow_nil ?_; try dsimp only) | (refine ol_go ?_ (fun K1 hK1 => ?_); (first | exact trivial | exact rfl); refine evS ?_; (try simp only [List.drop_zero, Nat.sub_zero]); refine hK1 _ _ ?_; clear hK1 K1) | (refine ol_skip rfl rfl ?_ ?_; (focus (intro hne; cases hne; done)); simp only [St.set]) | (refine ol_nil ⟨by kernel_rfl, ?_⟩; try dsimp only) | (refine ow_go ?_ (fun x hx => by cases hx <;> (rw [hsz]; decide)) (fun K1 hK1 => ?_); (first | exact trivial | exact rfl); refine evS ?_; (try simp only [List.drop_zero, Nat.sub_zero]); refine hK1 _ ?_; clear hK1 K1) | (refine ow_skip rfl rfl ?_ (fun x hx => by cases hx <;> (rw [hsz]; decide)) ?_; (focus (intro hne; cases hne; done)); simp only [St.set]) | (refine callPre ?_; (first | refine callN_funS rfl (HV.eqv (r1 := .d (bD true)) (by rw [hv])) ?_)) | (refine callPreL ?_; (first | refine callL_funS rfl (HV.eqv (r1 := .d (bD true)) (by rw [hv])) ?_))))
      refine aw_condS rfl (fun hc => ?_) (fun hc => ?_)
      · refine walkS ?_
        (refine aw_ret ?_; (simp only [Fin, Try.results31]; refine finS ?_); exact ⟨_, _, .inl ⟨rfl, rfl⟩, List.nodup_nil, by rw [hx4, longP_hit hv, Int.toNat_of_nonneg hk]⟩)
      · cases hc
    | false =>
      have hm := longP_miss hv
      (repeat (first | refine aw_seq ?_ | refine aw_region ?_ | refine aw_block ?_ | (refine aw_exit ?_; (try simp (decide := true) only [reduceIte])) | (refine aw_skip ?_; try dsimp only) | (refine aw_any (by kernel_rfl) (by kernel_rfl) (by simp only [hsz]; kernel_rfl) ?_) | (refine ow_nil ?_; try dsimp only) | (refine ol_go ?_ (fun K1 hK1 => ?_); (first | exact trivial | exact rfl); refine evS ?_; (try simp only [List.drop_zero, Nat.sub_zero]); refine hK1 _ _ ?_; clear hK1 K1) | (refine ol_skip rfl rfl ?_ ?_; (focus (intro hne; cases hne; done)); simp only [St.set]) | (refine ol_nil ⟨by kernel_rfl, ?_⟩; try dsimp only) | (refine ow_go ?_ (fun x hx => by cases hx <;> (rw [hsz]; decide)) (fun K1 hK1 => ?_); (first | exact trivial | exact rfl); refine evS ?_; (try simp only [List.drop_zero, Nat.sub_zero]); refine hK1 _ ?_; clear hK1 K1) | (refine ow_skip rfl rfl ?_ (fun x hx => by cases hx <;> (rw [hsz]; decide)) ?_; (focus (intro hne; cases hne; done)); simp only [St.set]) | (refine callPre ?_; (first | refine callN_funS rfl (HV.eqv (r1 := .d (bD false)) (by rw [hv])) ?_)) | (refine callPreL ?_; (first | refine callL_funS rfl (HV.eqv (r1 := .d (bD false)) (by rw [hv])) ?_))))
      refine aw_condS rfl (fun hc => ?_) (fun hc => ?_)
      · cases hc
      · refine walkS ?_
        refine ⟨x - 1, ⟨by omega, by omega, ?_⟩, by omega, ?_⟩
        · rw [hx4, hm]
          by_cases h0 : x.toNat = 0
          · left; rw [if_pos h0]; omega
          · right; rw [if_neg h0, show (x - 1).toNat = x.toNat - 1 by omega]; exact ⟨by omega, rfl⟩
        exact wkS
  · refine walkS ?_
    (refine aw_ret ?_; (simp only [Fin, Try.results31]; refine finS ?_); exact ⟨_, _, .inl ⟨rfl, rfl⟩, List.nodup_nil, by
      rcases hx3 with h | h
      · rw [h.2]
      · omega⟩)
end
end Go.Proofs.Ytcpboonjaceneaa.Eng
