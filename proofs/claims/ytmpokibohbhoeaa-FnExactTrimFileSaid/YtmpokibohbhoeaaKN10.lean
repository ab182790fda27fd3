/-
  The reference: checking.
-/
import Derived.Test.YtmpokibohbhoeaaKN9
set_option linter.unusedSimpArgs false
set_option linter.unusedVariables false
namespace Go.Proofs.Ytmpokibohbhoeaa.Eng
open Go Go.RowKit

noncomputable def validP (D : List RuleD) (b : List UInt8) : Bool := (readF D b).2.2 == 0 || (readF D b).2.2 == 1
/-- The greatest length of a beginning, at most n, that may be one of a file. -/
noncomputable def longP (D : List RuleD) (b : List UInt8) : Nat → Int
  | 0 => if validP D [] = true then 0 else -1
  | n + 1 => if validP D (b.take (n + 1)) = true then ((n + 1 : Nat) : Int) else longP D b n

theorem longP_hit {D : List RuleD} {b : List UInt8} {n : Nat} (h : validP D (b.take n) = true) : longP D b n = n := by
  cases n with
  | zero => rw [List.take_zero] at h; unfold longP; rw [if_pos h]; rfl
  | succ n => unfold longP; rw [if_pos h]
theorem longP_miss {D : List RuleD} {b : List UInt8} {n : Nat} (h : validP D (b.take n) = false) : longP D b n = if n = 0 then -1 else longP D b (n - 1) := by
  cases n with
  | zero => rw [List.take_zero] at h; unfold longP; rw [h]; simp
  | succ n => rw [longP, h]; simp

section
variable {M : Nat} {D : List RuleD} {b : List UInt8}


private theorem tyF : ((((((bytesT Try.prog 22 = true ∧ tyElem Try.prog 106 = some 9) ∧ (tyElem Try.prog 107 = some 3 ∧ tyElem Try.prog 22 = some 5)) ∧ ((tyElem Try.prog 24 = some 109 ∧ tyElem Try.prog 42 = some 44) ∧ (tyField Try.prog 109 0 = some (0, 9) ∧ tyField Try.prog 109 1 = some (1, 3)))) ∧ (((tyField Try.prog 109 2 = some (2, 3) ∧ tyField Try.prog 109 3 = some (3, 4)) ∧ (tyField Try.prog 109 4 = some (4, 22) ∧ tyField Try.prog 109 5 = some (5, 106))) ∧ ((tyField Try.prog 109 6 = some (6, 107) ∧ tyField Try.prog 109 7 = some (7, 107)) ∧ (tyField Try.prog 26 0 = some (0, 24) ∧ tyField Try.prog 44 0 = some (0, 3))))) ∧ ((((tyField Try.prog 44 1 = some (1, 22) ∧ tyField Try.prog 44 2 = some (2, 42)) ∧ (tyK Try.prog 106 = some (false, 1) ∧ tyK Try.prog 107 = some (false, 1))) ∧ ((tyK Try.prog 109 = some (true, 8) ∧ tyK Try.prog 22 = some (false, 1)) ∧ (tyK Try.prog 24 = some (false, 1) ∧ tyK Try.prog 26 = some (true, 1)))) ∧ (((tyK Try.prog 3 = some (false, 1) ∧ tyK Try.prog 4 = some (false, 1)) ∧ (tyK Try.prog 42 = some (false, 1) ∧ tyK Try.prog 44 = some (true, 3))) ∧ ((tyK Try.prog 5 = some (false, 1) ∧ tyK Try.prog 9 = some (false, 1)) ∧ (tyPlaces Try.prog 109 = some [(0, 1), (1, 1), (2, 1), (3, 1), (4, 1), (5, 1), (6, 1), (7, 1)] ∧ (tyPlaces Try.prog 26 = some [(0, 1)] ∧ tyPlaces Try.prog 44 = some [(0, 1), (1, 1), (2, 1)])))))) ∧ (((((tyRow Try.prog 106 = some 1 ∧ tyRow Try.prog 107 = some 1) ∧ (tyRow Try.prog 109 = some 8 ∧ tyRow Try.prog 22 = some 1)) ∧ ((tyRow Try.prog 24 = some 1 ∧ tyRow Try.prog 26 = some 1) ∧ (tyRow Try.prog 3 = some 1 ∧ tyRow Try.prog 4 = some 1))) ∧ (((tyRow Try.prog 42 = some 1 ∧ tyRow Try.prog 44 = some 3) ∧ (tyRow Try.prog 5 = some 1 ∧ tyRow Try.prog 9 = some 1)) ∧ ((Try.prog.underlying 106 = some (TypeDesc.slice 9) ∧ Try.prog.underlying 107 = some (TypeDesc.slice 3)) ∧ (Try.prog.underlying 22 = some (TypeDesc.slice 5) ∧ Try.prog.underlying 24 = some (TypeDesc.slice 109))))) ∧ ((((Try.prog.underlying 3 = some (TypeDesc.int IntKind.i64) ∧ Try.prog.underlying 4 = some (TypeDesc.bool)) ∧ (Try.prog.underlying 42 = some (TypeDesc.slice 44) ∧ Try.prog.underlying 5 = some (TypeDesc.int IntKind.u8))) ∧ ((Try.prog.underlying 9 = some (TypeDesc.string) ∧ tyZero Try.prog 106 = some [Value.slice none 0 0]) ∧ (tyZero Try.prog 107 = some [Value.slice none 0 0] ∧ tyZero Try.prog 109 = some [Value.string ByteArray.empty, Value.int IntKind.i64 0, Value.int IntKind.i64 0, Value.bool false, Value.slice none 0 0, Value.slice none 0 0, Value.slice none 0 0, Value.slice none 0 0]))) ∧ (((tyZero Try.prog 22 = some [Value.slice none 0 0] ∧ tyZero Try.prog 24 = some [Value.slice none 0 0]) ∧ (tyZero Try.prog 26 = some [Value.slice none 0 0] ∧ tyZero Try.prog 3 = some [Value.int IntKind.i64 0])) ∧ ((tyZero Try.prog 4 = some [Value.bool false] ∧ tyZero Try.prog 42 = some [Value.slice none 0 0]) ∧ (tyZero Try.prog 44 = some [Value.int IntKind.i64 0, Value.slice none 0 0, Value.slice none 0 0] ∧ (tyZero Try.prog 5 = some [Value.int IntKind.u8 0] ∧ tyZero Try.prog 9 = some [Value.string ByteArray.empty]))))))) := ⟨⟨⟨⟨⟨⟨tb22, te106⟩, ⟨te107, te22⟩⟩, ⟨⟨te24, te42⟩, ⟨tf109_0, tf109_1⟩⟩⟩, ⟨⟨⟨tf109_2, tf109_3⟩, ⟨tf109_4, tf109_5⟩⟩, ⟨⟨tf109_6, tf109_7⟩, ⟨tf26_0, tf44_0⟩⟩⟩⟩, ⟨⟨⟨⟨tf44_1, tf44_2⟩, ⟨tk106, tk107⟩⟩, ⟨⟨tk109, tk22⟩, ⟨tk24, tk26⟩⟩⟩, ⟨⟨⟨tk3, tk4⟩, ⟨tk42, tk44⟩⟩, ⟨⟨tk5, tk9⟩, ⟨tp109, ⟨tp26, tp44⟩⟩⟩⟩⟩⟩, ⟨⟨⟨⟨⟨tr106, tr107⟩, ⟨tr109, tr22⟩⟩, ⟨⟨tr24, tr26⟩, ⟨tr3, tr4⟩⟩⟩, ⟨⟨⟨tr42, tr44⟩, ⟨tr5, tr9⟩⟩, ⟨⟨tu106, tu107⟩, ⟨tu22, tu24⟩⟩⟩⟩, ⟨⟨⟨⟨tu3, tu4⟩, ⟨tu42, tu5⟩⟩, ⟨⟨tu9, tz106⟩, ⟨tz107, tz109⟩⟩⟩, ⟨⟨⟨tz22, tz24⟩, ⟨tz26, tz3⟩⟩, ⟨⟨tz4, tz42⟩, ⟨tz44, ⟨tz5, tz9⟩⟩⟩⟩⟩⟩⟩
set_option maxRecDepth 100000 in
theorem checkFileS_c (hD : DB M D) (hM : M ≤ 1048576) (hb : b.length ≤ 1048576) : AC Try.prog 68 [.d (encD D), .d (encB b)] none (fun r' _ => r' = chR (readF D b)) := by
  refine calls_body Try.func68 rfl Try.call68 Try.ntmps68 (by simp) (by simp [ArgsOk]) (by simp [Rz.nkL, Rz.nk]) fun en hsz hks hk0 => ?_; simp only [St.init, frOf, Rz.addSL, Rz.addS, Rz.toAL, Rz.toA, Rz.nk, List.zipIdx_cons, List.zipIdx_nil, List.map_cons, List.map_nil, Nat.zero_add, Nat.reduceAdd]
  (repeat (first | refine walkS ?_ | (refine callPre ?_; (first | refine callN_funS rfl (readFile_c hD hM hb) ?_)) | (refine callPreL ?_; (first | refine callL_funS rfl (readFile_c hD hM hb) ?_))))
  (refine aw_ret ?_; (simp only [Fin, Try.results68]; refine finS ?_); exact ⟨_, _, .inl ⟨rfl, rfl⟩, List.nodup_nil, rfl⟩)

set_option maxRecDepth 100000 in
theorem validPS_c (hD : DB M D) (hM : M ≤ 1048576) (hb : b.length ≤ 1048576) : AC Try.prog 86 [.d (encD D), .d (encB b)] none (fun r' _ => r' = .d (bD (validP D b))) := by
  have HC := checkFileS_c hD hM hb
  have hv : validP D b = ((readF D b).2.2 == 0 || (readF D b).2.2 == 1) := rfl
  generalize readF D b = x at HC hv
  obtain ⟨v, q, c⟩ := x
  simp only at hv
  refine calls_body Try.func86 rfl Try.call86 Try.ntmps86 (by simp) (by simp [ArgsOk]) (by simp [Rz.nkL, Rz.nk]) fun en hsz hks hk0 => ?_; simp only [St.init, frOf, Rz.addSL, Rz.addS, Rz.toAL, Rz.toA, Rz.nk, List.zipIdx_cons, List.zipIdx_nil, List.map_cons, List.map_nil, Nat.zero_add, Nat.reduceAdd]
  (repeat (first | refine walkS ?_ | (refine callPre ?_; (first | refine callN_funS rfl (HC) ?_)) | (refine callPreL ?_; (first | refine callL_funS rfl (HC) ?_))))
  (refine ow_gd rfl rfl (fun x hx => by cases hx <;> (rw [hsz]; decide)) (fun hg K1 hK1 => ?_) (fun hg => ?_); ((try simp only [hg]); refine evS ?_;  refine hK1 _ ?_; clear hK1 K1); rotate_left; (simp only [Bool.not_true, Bool.not_false] at hg; simp only [St.set, hg]); rotate_left)
  · have hg' : (c : Int) ≠ 0 := by simpa using hg
    refine walkS ?_
    (refine aw_ret ?_; (simp only [Fin, Try.results86]; refine finS ?_); exact ⟨_, _, .inl ⟨rfl, rfl⟩, List.nodup_nil, by
      rw [hv]
      congr 3
      have e : (c == 0) = false := by simp; omega
      rw [e, Bool.false_or, Bool.eq_iff_iff]
      simp only [beq_iff_eq]
      omega⟩)
  · have hg' : (c : Int) = 0 := by simpa using hg
    refine walkS ?_
    (refine aw_ret ?_; (simp only [Fin, Try.results86]; refine finS ?_); exact ⟨_, _, .inl ⟨rfl, rfl⟩, List.nodup_nil, by
      rw [hv]
      congr 3
      have e : (c == 0) = true := by simp; omega
      rw [e, Bool.true_or]⟩)

set_option maxRecDepth 100000 in
theorem longPS_c (hD : DB M D) (hM : M ≤ 1048576) (hb : b.length ≤ 1048576) : AC Try.prog 48 [.d (encD D), .d (encB b)] none (fun r' _ => r' = .d (iD (longP D b b.length))) := by
  refine calls_body Try.func48 rfl Try.call48 Try.ntmps48 (by simp) (by simp [ArgsOk]) (by simp [Rz.nkL, Rz.nk]) fun en hsz hks hk0 => ?_; simp only [St.init, frOf, Rz.addSL, Rz.addS, Rz.toAL, Rz.toA, Rz.nk, List.zipIdx_cons, List.zipIdx_nil, List.map_cons, List.map_nil, Nat.zero_add, Nat.reduceAdd]
  refine walkS ?_
  refine aw_loopS [1, 2, 4] (fun _ _ => []) (fun _ k => [(5, .d (iD (k : Int)))]) [] (fun _ _ => []) [] (fun _ _ => []) (fun k : Int => -1 ≤ k ∧ k ≤ b.length ∧ ((k = -1 ∧ longP D b b.length = -1) ∨ (0 ≤ k ∧ longP D b b.length = longP D b k.toNat))) (fun k => (k + 1).toNat) ((b.length : Int)) hks (fun _ => rfl) ⟨by omega, by omega, .inr ⟨by omega, by simp⟩⟩ wkS ?_; intro x hx; simp (decide := true) only [St.head, List.map_cons, List.map_nil, lk, rmv, List.cons_append, List.nil_append, List.append_nil, reduceIte, Nat.reduceAdd]
  obtain ⟨hx1, hx2, hx3⟩ := hx
  refine walkS ?_
  refine aw_condS rfl (fun hk => ?_) (fun hk => ?_)
  · have hx4 : longP D b b.length = longP D b x.toNat := by
      rcases hx3 with h | h
      · omega
      · exact h.2
    have HV := validPS_c (b := List.take (x.toNat - 0) (List.drop 0 b)) hD hM (by simp; omega)
    rw [List.drop_zero, Nat.sub_zero] at HV
    cases hv : validP D (List.take x.toNat b) with
    | true =>
      (repeat (first | refine aw_seq ?_ | refine aw_region ?_ | refine aw_block ?_ | (refine aw_exit ?_; (try simp (decide := true) only [reduceIte])) | (refine aw_skip ?_; try dsimp only) | (refine aw_any (by kernel_rfl) (by kernel_rfl) (by simp only [hsz]; kernel_rfl) ?_) | (refine ow_nil ?_; try dsimp only) | (refine ol_go ?_ (fun K1 hK1 => ?_); (first | exact trivial | exact rfl); refine evS ?_; (try simp only [List.drop_zero, Nat.sub_zero]); refine hK1 _ _ ?_; clear hK1 K1) | (refine ol_skip rfl rfl ?_ ?_; (focus (intro hne; cases hne; done)); simp only [St.set]) | (refine ol_nil ⟨by kernel_rfl, ?_⟩; try dsimp only) | (refine ow_go ?_ (fun x hx => by cases hx <;> (rw [hsz]; decide)) (fun K1 hK1 => ?_); (first | exact trivial | exact rfl); refine evS ?_; (try simp only [List.drop_zero, Nat.sub_zero]); refine hK1 _ ?_; clear hK1 K1) | (refine ow_skip rfl rfl ?_ (fun x hx => by cases hx <;> (rw [hsz]; decide)) ?_; (focus (intro hne; cases hne; done)); simp only [St.set]) | (refine callPre ?_; (first | refine callN_funS rfl (HV.eqv (r1 := .d (bD true)) (by rw [hv])) ?_)) | (refine callPreL ?_; (first | refine callL_funS rfl (HV.eqv (r1 := .d (bD true)) (by rw [hv])) ?_))))
      refine aw_condS rfl (fun hc => ?_) (fun hc => ?_)
      · refine walkS ?_
        (refine aw_ret ?_; (simp only [Fin, Try.results48]; refine finS ?_); exact ⟨_, _, .inl ⟨rfl, rfl⟩, List.nodup_nil, by rw [hx4, longP_hit hv, Int.toNat_of_nonneg hk]⟩)
      · cases hc
    | false =>
      have hm := longP_miss hv
      (repeat (first | refine aw_seq ?_ | refine aw_region ?_ | refine aw_block ?_ | (refine aw_exit ?_; (try simp (decide := true) only [reduceIte])) | (refine aw_skip ?_; try dsimp only) | (refine aw_any (by kernel_rfl) (by kernel_rfl) (by simp only [hsz]; kernel_rfl) ?_) | (refine ow_nil ?_; try dsimp only) | (refine ol_go ?_ (fun K1 hK1 => ?_); (first | exact trivial | exact rfl); refine evS ?_; (try simp only [List.drop_zero, Nat.sub_zero]); refine hK1 _ _ ?_; clear hK1 K1) | (refine ol_skip rfl rfl ?_ ?_; (focus (intro hne; cases hne; done)); simp only [St.set]) | (refine ol_nil ⟨by kernel_rfl, ?_⟩; try dsimp only) | (refine ow_go ?_ (fun x hx => by cases hx <;> (rw [hsz]; decide)) (fun K1 hK1 => ?_); (first | exact trivial | exact rfl); refine evS ?_; (try simp only [List.drop_zero, Nat.sub_zero]); refine hK1 _ ?_; clear hK1 K1) | (refine ow_skip rfl rfl ?_ (fun x hx => by cases hx <;> (rw [hsz]; decide)) ?_; (focus (intro hne; cases hne; done)); simp only [St.set]) | (refine callPre ?_; (first | refine callN_funS rfl (HV.eqv (r1 := .d (bD false)) (by rw [hv])) ?_)) | (refine callPreL ?_; (first | refine callL_funS rfl (HV.eqv (r1 := .d (bD false)) (by rw [hv])) ?_))))
      refine aw_condS rfl (fun hc => ?_) (fun hc => ?_)
      · cases hc
      · refine walkS ?_
        refine ⟨x - 1, ⟨by omega, by omega, ?_⟩, by omega, ?_⟩
        · rw [hx4, hm]
          by_cases h0 : x.toNat = 0
          · left; rw [if_pos h0]; omega
          · right; rw [if_neg h0, show (x - 1).toNat = x.toNat - 1 by omega]; exact ⟨by omega, rfl⟩
        exact wkS
  · refine walkS ?_
    (refine aw_ret ?_; (simp only [Fin, Try.results48]; refine finS ?_); exact ⟨_, _, .inl ⟨rfl, rfl⟩, List.nodup_nil, by
      rcases hx3 with h | h
      · rw [h.2]
      · omega⟩)
end
end Go.Proofs.Ytmpokibohbhoeaa.Eng
