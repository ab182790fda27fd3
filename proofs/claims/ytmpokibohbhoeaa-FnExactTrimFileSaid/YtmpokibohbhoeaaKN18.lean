/-
  Checking files, the program's side: CheckFile, ValidPrefix, LongestValidPrefix.
-/
import Derived.Test.YtmpokibohbhoeaaKN16
import Derived.Test.YtmpokibohbhoeaaKN17
set_option linter.unusedSimpArgs false
set_option linter.unusedVariables false
namespace Go.Proofs.Ytmpokibohbhoeaa.Eng
open Go Go.RowKit

theorem readV_le (D : List RuleD) (b : List UInt8) (i p : Int) : (readV D b i p).2.1 ≤ b.length := by
  unfold readV
  split
  · rename_i h
    exact (rd_in D b D.length i.toNat p.toNat (by omega)).2
  · exact Nat.zero_le _

section
variable {M : Nat} {D : List RuleD} {b : List UInt8}
private theorem tyF : (((((bytesT Try.prog 22 = true ∧ (tyElem Try.prog 106 = some 9 ∧ tyElem Try.prog 107 = some 3)) ∧ ((tyElem Try.prog 22 = some 5 ∧ tyElem Try.prog 24 = some 109) ∧ (tyField Try.prog 109 0 = some (0, 9) ∧ tyField Try.prog 109 1 = some (1, 3)))) ∧ (((tyField Try.prog 109 2 = some (2, 3) ∧ tyField Try.prog 109 3 = some (3, 4)) ∧ (tyField Try.prog 109 4 = some (4, 22) ∧ tyField Try.prog 109 5 = some (5, 106))) ∧ ((tyField Try.prog 109 6 = some (6, 107) ∧ tyField Try.prog 109 7 = some (7, 107)) ∧ (tyField Try.prog 26 0 = some (0, 24) ∧ tyField Try.prog 76 0 = some (0, 3))))) ∧ (((tyField Try.prog 76 1 = some (1, 3) ∧ (tyK Try.prog 106 = some (false, 1) ∧ tyK Try.prog 107 = some (false, 1))) ∧ ((tyK Try.prog 109 = some (true, 8) ∧ tyK Try.prog 22 = some (false, 1)) ∧ (tyK Try.prog 24 = some (false, 1) ∧ tyK Try.prog 26 = some (true, 1)))) ∧ (((tyK Try.prog 3 = some (false, 1) ∧ tyK Try.prog 4 = some (false, 1)) ∧ (tyK Try.prog 5 = some (false, 1) ∧ tyK Try.prog 76 = some (true, 2))) ∧ ((tyK Try.prog 9 = some (false, 1) ∧ tyPlaces Try.prog 109 = some [(0, 1), (1, 1), (2, 1), (3, 1), (4, 1), (5, 1), (6, 1), (7, 1)]) ∧ (tyPlaces Try.prog 26 = some [(0, 1)] ∧ tyPlaces Try.prog 76 = some [(0, 1), (1, 1)]))))) ∧ ((((tyFlat Try.prog 76 = some [0, 0] ∧ (tyRow Try.prog 106 = some 1 ∧ tyRow Try.prog 107 = some 1)) ∧ ((tyRow Try.prog 109 = some 8 ∧ tyRow Try.prog 22 = some 1) ∧ (tyRow Try.prog 24 = some 1 ∧ tyRow Try.prog 26 = some 1))) ∧ (((tyRow Try.prog 3 = some 1 ∧ tyRow Try.prog 4 = some 1) ∧ (tyRow Try.prog 5 = some 1 ∧ tyRow Try.prog 76 = some 2)) ∧ ((tyRow Try.prog 9 = some 1 ∧ Try.prog.underlying 106 = some (TypeDesc.slice 9)) ∧ (Try.prog.underlying 107 = some (TypeDesc.slice 3) ∧ Try.prog.underlying 22 = some (TypeDesc.slice 5))))) ∧ ((((Try.prog.underlying 24 = some (TypeDesc.slice 109) ∧ Try.prog.underlying 3 = some (TypeDesc.int IntKind.i64)) ∧ (Try.prog.underlying 4 = some (TypeDesc.bool) ∧ Try.prog.underlying 5 = some (TypeDesc.int IntKind.u8))) ∧ ((Try.prog.underlying 9 = some (TypeDesc.string) ∧ tyZero Try.prog 106 = some [Value.slice none 0 0]) ∧ (tyZero Try.prog 107 = some [Value.slice none 0 0] ∧ tyZero Try.prog 109 = some [Value.string ByteArray.empty, Value.int IntKind.i64 0, Value.int IntKind.i64 0, Value.bool false, Value.slice none 0 0, Value.slice none 0 0, Value.slice none 0 0, Value.slice none 0 0]))) ∧ (((tyZero Try.prog 22 = some [Value.slice none 0 0] ∧ tyZero Try.prog 24 = some [Value.slice none 0 0]) ∧ (tyZero Try.prog 26 = some [Value.slice none 0 0] ∧ tyZero Try.prog 3 = some [Value.int IntKind.i64 0])) ∧ ((tyZero Try.prog 4 = some [Value.bool false] ∧ tyZero Try.prog 5 = some [Value.int IntKind.u8 0]) ∧ (tyZero Try.prog 76 = some [Value.int IntKind.i64 0, Value.int IntKind.i64 0] ∧ tyZero Try.prog 9 = some [Value.string ByteArray.empty])))))) := ⟨⟨⟨⟨⟨tb22, ⟨te106, te107⟩⟩, ⟨⟨te22, te24⟩, ⟨tf109_0, tf109_1⟩⟩⟩, ⟨⟨⟨tf109_2, tf109_3⟩, ⟨tf109_4, tf109_5⟩⟩, ⟨⟨tf109_6, tf109_7⟩, ⟨tf26_0, tf76_0⟩⟩⟩⟩, ⟨⟨⟨tf76_1, ⟨tk106, tk107⟩⟩, ⟨⟨tk109, tk22⟩, ⟨tk24, tk26⟩⟩⟩, ⟨⟨⟨tk3, tk4⟩, ⟨tk5, tk76⟩⟩, ⟨⟨tk9, tp109⟩, ⟨tp26, tp76⟩⟩⟩⟩⟩, ⟨⟨⟨⟨tq76, ⟨tr106, tr107⟩⟩, ⟨⟨tr109, tr22⟩, ⟨tr24, tr26⟩⟩⟩, ⟨⟨⟨tr3, tr4⟩, ⟨tr5, tr76⟩⟩, ⟨⟨tr9, tu106⟩, ⟨tu107, tu22⟩⟩⟩⟩, ⟨⟨⟨⟨tu24, tu3⟩, ⟨tu4, tu5⟩⟩, ⟨⟨tu9, tz106⟩, ⟨tz107, tz109⟩⟩⟩, ⟨⟨⟨tz22, tz24⟩, ⟨tz26, tz3⟩⟩, ⟨⟨tz4, tz5⟩, ⟨tz76, tz9⟩⟩⟩⟩⟩⟩
set_option maxRecDepth 100000 in
set_option maxHeartbeats 1000000 in
theorem checkFileI_c (hD : DB M D) (hM : M ≤ 1048576) (hb : b.length ≤ 1048576) : AC Try.prog 38 [.d (encD D), .d (encB b)] none (fun r' _ => r' = chR (readF D b)) := by
  have HC := checkValueI_c hD hM hb ((D.length : Int) - 1) 0
  have hF : readF D b = if (readV D b ((D.length : Int) - 1) 0).2.2 = 0 ∧ (readV D b ((D.length : Int) - 1) 0).2.1 < b.length then (V0, (readV D b ((D.length : Int) - 1) 0).2.1, 7) else readV D b ((D.length : Int) - 1) 0 := rfl
  have hle := readV_le D b ((D.length : Int) - 1) 0
  generalize readV D b ((D.length : Int) - 1) 0 = z at HC hF hle
  obtain ⟨v, q, c⟩ := z
  simp only at hF hle
  refine calls_body Try.func38 rfl Try.call38 Try.ntmps38 (by simp) (by simp [ArgsOk]) (by simp [Rz.nkL, Rz.nk]) fun en hsz hks hk0 => ?_; simp only [St.init, frOf, Rz.addSL, Rz.addS, Rz.toAL, Rz.toA, Rz.nk, List.zipIdx_cons, List.zipIdx_nil, List.map_cons, List.map_nil, Nat.zero_add, Nat.reduceAdd]
  (repeat (first | refine walkS ?_ | (refine callPre ?_; (first | refine callN_funS rfl (rootI_c hD hM) ?_ | refine callN_funS rfl (HC) ?_)) | (refine callPreL ?_; (first | refine callL_funS rfl (rootI_c hD hM) ?_ | refine callL_funS rfl (HC) ?_))))
  (refine ow_gd rfl rfl (fun x hx => by cases hx <;> (rw [hsz]; decide)) (fun hg K1 hK1 => ?_) (fun hg => ?_); ((try simp only [hg]); refine evS ?_;  refine hK1 _ ?_; clear hK1 K1); rotate_left; (simp only [Bool.not_true, Bool.not_false] at hg; simp only [St.set, hg]); rotate_left)
  · refine walkS ?_
    refine aw_condS rfl (fun h1 => ?_) (fun h1 => ?_)
    · simp at hg
      refine walkS ?_
      (refine aw_ret ?_; (simp only [Fin, Try.results38]; refine finS ?_); exact ⟨_, _, .inl ⟨rfl, rfl⟩, List.nodup_nil, by rw [hF, if_pos ⟨by omega, by omega⟩]; rfl⟩)
    · simp at hg
      refine walkS ?_
      (refine aw_ret ?_; (simp only [Fin, Try.results38]; refine finS ?_); exact ⟨_, _, .inl ⟨rfl, rfl⟩, List.nodup_nil, by rw [hF, if_neg (by omega)]⟩)
  · refine walkS ?_
    refine aw_condS rfl (fun h1 => ?_) (fun h1 => ?_)
    · (first | exact absurd trivial h1 | exact absurd rfl h1 | (cases h1; done) | omega | exact absurd h1 (by decide) | (simp at h1; done))
    · simp at hg
      refine walkS ?_
      (refine aw_ret ?_; (simp only [Fin, Try.results38]; refine finS ?_); exact ⟨_, _, .inl ⟨rfl, rfl⟩, List.nodup_nil, by rw [hF, if_neg (by omega)]⟩)

set_option maxRecDepth 100000 in
theorem validPI_c (hD : DB M D) (hM : M ≤ 1048576) (hb : b.length ≤ 1048576) : AC Try.prog 49 [.d (encD D), .d (encB b)] none (fun r' _ => r' = .d (bD (validP D b))) := by
  have HC := checkFileI_c hD hM hb
  have hv : validP D b = ((readF D b).2.2 == 0 || (readF D b).2.2 == 1) := rfl
  generalize readF D b = x at HC hv
  obtain ⟨v, q, c⟩ := x
  simp only at hv
  refine calls_body Try.func49 rfl Try.call49 Try.ntmps49 (by simp) (by simp [ArgsOk]) (by simp [Rz.nkL, Rz.nk]) fun en hsz hks hk0 => ?_; simp only [St.init, frOf, Rz.addSL, Rz.addS, Rz.toAL, Rz.toA, Rz.nk, List.zipIdx_cons, List.zipIdx_nil, List.map_cons, List.map_nil, Nat.zero_add, Nat.reduceAdd]
  (repeat (first | refine walkS ?_ | (refine callPre ?_; (first | refine callN_funS rfl (HC) ?_)) | (refine callPreL ?_; (first | refine callL_funS rfl (HC) ?_))))
  (refine ow_gd rfl rfl (fun x hx => by cases hx <;> (rw [hsz]; decide)) (fun hg K1 hK1 => ?_) (fun hg => ?_); ((try simp only [hg]); refine evS ?_;  refine hK1 _ ?_; clear hK1 K1); rotate_left; (simp only [Bool.not_true, Bool.not_false] at hg; simp only [St.set, hg]); rotate_left)
  · have hg' : (c : Int) ≠ 0 := by simpa using hg
    refine walkS ?_
    (refine aw_ret ?_; (simp only [Fin, Try.results49]; refine finS ?_); exact ⟨_, _, .inl ⟨rfl, rfl⟩, List.nodup_nil, by
      rw [hv]
      congr 3
      have e : (c == 0) = false := by simp; omega
      rw [e, Bool.false_or, Bool.eq_iff_iff]
      simp only [beq_iff_eq]
      omega⟩)
  · have hg' : (c : Int) = 0 := by simpa using hg
    refine walkS ?_
    (refine aw_ret ?_; (simp only [Fin, Try.results49]; refine finS ?_); exact ⟨_, _, .inl ⟨rfl, rfl⟩, List.nodup_nil, by
      rw [hv]
      congr 3
      have e : (c == 0) = true := by simp; omega
      rw [e, Bool.true_or]⟩)
end
end Go.Proofs.Ytmpokibohbhoeaa.Eng
