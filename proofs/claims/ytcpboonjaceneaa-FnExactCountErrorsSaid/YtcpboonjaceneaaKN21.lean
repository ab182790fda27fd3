/-
  Counting errors, both sides.
-/
import Derived.Test.YtcpboonjaceneaaKN18
import Derived.Test.YtcpboonjaceneaaKL9
set_option linter.unusedSimpArgs false
set_option linter.unusedVariables false
namespace Go.Proofs.Ytcpboonjaceneaa.Eng
open Go Go.RowKit

/-- How many of the files have a code. -/
noncomputable def errN (D : List RuleD) (c : Int) : List (List UInt8) → Nat → Nat
  | [], n => n
  | b :: l, n => errN D c l (if ((readF D b).2.2 : Int) = c then n + 1 else n)

section
variable {M : Nat} {D : List RuleD}
private theorem tyF : (((((tyElem Try.prog 22 = some 5 ∧ (tyElem Try.prog 24 = some 87 ∧ tyElem Try.prog 46 = some 22)) ∧ ((tyElem Try.prog 84 = some 9 ∧ tyElem Try.prog 85 = some 3) ∧ (tyField Try.prog 26 0 = some (0, 24) ∧ tyField Try.prog 87 0 = some (0, 9)))) ∧ ((tyField Try.prog 87 1 = some (1, 3) ∧ (tyField Try.prog 87 2 = some (2, 3) ∧ tyField Try.prog 87 3 = some (3, 4))) ∧ ((tyField Try.prog 87 4 = some (4, 22) ∧ tyField Try.prog 87 5 = some (5, 84)) ∧ (tyField Try.prog 87 6 = some (6, 85) ∧ tyField Try.prog 87 7 = some (7, 85))))) ∧ (((tyK Try.prog 22 = some (false, 1) ∧ (tyK Try.prog 24 = some (false, 1) ∧ tyK Try.prog 26 = some (true, 1))) ∧ ((tyK Try.prog 3 = some (false, 1) ∧ tyK Try.prog 4 = some (false, 1)) ∧ (tyK Try.prog 46 = some (false, 1) ∧ tyK Try.prog 5 = some (false, 1)))) ∧ (((tyK Try.prog 84 = some (false, 1) ∧ tyK Try.prog 85 = some (false, 1)) ∧ (tyK Try.prog 87 = some (true, 8) ∧ tyK Try.prog 9 = some (false, 1))) ∧ ((tyPlaces Try.prog 26 = some [(0, 1)] ∧ tyPlaces Try.prog 87 = some [(0, 1), (1, 1), (2, 1), (3, 1), (4, 1), (5, 1), (6, 1), (7, 1)]) ∧ (tyRow Try.prog 22 = some 1 ∧ tyRow Try.prog 24 = some 1))))) ∧ ((((tyRow Try.prog 26 = some 1 ∧ (tyRow Try.prog 3 = some 1 ∧ tyRow Try.prog 4 = some 1)) ∧ ((tyRow Try.prog 46 = some 1 ∧ tyRow Try.prog 5 = some 1) ∧ (tyRow Try.prog 84 = some 1 ∧ tyRow Try.prog 85 = some 1))) ∧ ((tyRow Try.prog 87 = some 8 ∧ (tyRow Try.prog 9 = some 1 ∧ Try.prog.underlying 22 = some (TypeDesc.slice 5))) ∧ ((Try.prog.underlying 24 = some (TypeDesc.slice 87) ∧ Try.prog.underlying 3 = some (TypeDesc.int IntKind.i64)) ∧ (Try.prog.underlying 4 = some (TypeDesc.bool) ∧ Try.prog.underlying 46 = some (TypeDesc.slice 22))))) ∧ (((Try.prog.underlying 5 = some (TypeDesc.int IntKind.u8) ∧ (Try.prog.underlying 84 = some (TypeDesc.slice 9) ∧ Try.prog.underlying 85 = some (TypeDesc.slice 3))) ∧ ((Try.prog.underlying 9 = some (TypeDesc.string) ∧ tyZero Try.prog 22 = some [Value.slice none 0 0]) ∧ (tyZero Try.prog 24 = some [Value.slice none 0 0] ∧ tyZero Try.prog 26 = some [Value.slice none 0 0]))) ∧ (((tyZero Try.prog 3 = some [Value.int IntKind.i64 0] ∧ tyZero Try.prog 4 = some [Value.bool false]) ∧ (tyZero Try.prog 46 = some [Value.slice none 0 0] ∧ tyZero Try.prog 5 = some [Value.int IntKind.u8 0])) ∧ ((tyZero Try.prog 84 = some [Value.slice none 0 0] ∧ tyZero Try.prog 85 = some [Value.slice none 0 0]) ∧ (tyZero Try.prog 87 = some [Value.string ByteArray.empty, Value.int IntKind.i64 0, Value.int IntKind.i64 0, Value.bool false, Value.slice none 0 0, Value.slice none 0 0, Value.slice none 0 0, Value.slice none 0 0] ∧ tyZero Try.prog 9 = some [Value.string ByteArray.empty])))))) := ⟨⟨⟨⟨⟨te22, ⟨te24, te46⟩⟩, ⟨⟨te84, te85⟩, ⟨tf26_0, tf87_0⟩⟩⟩, ⟨⟨tf87_1, ⟨tf87_2, tf87_3⟩⟩, ⟨⟨tf87_4, tf87_5⟩, ⟨tf87_6, tf87_7⟩⟩⟩⟩, ⟨⟨⟨tk22, ⟨tk24, tk26⟩⟩, ⟨⟨tk3, tk4⟩, ⟨tk46, tk5⟩⟩⟩, ⟨⟨⟨tk84, tk85⟩, ⟨tk87, tk9⟩⟩, ⟨⟨tp26, tp87⟩, ⟨tr22, tr24⟩⟩⟩⟩⟩, ⟨⟨⟨⟨tr26, ⟨tr3, tr4⟩⟩, ⟨⟨tr46, tr5⟩, ⟨tr84, tr85⟩⟩⟩, ⟨⟨tr87, ⟨tr9, tu22⟩⟩, ⟨⟨tu24, tu3⟩, ⟨tu4, tu46⟩⟩⟩⟩, ⟨⟨⟨tu5, ⟨tu84, tu85⟩⟩, ⟨⟨tu9, tz22⟩, ⟨tz24, tz26⟩⟩⟩, ⟨⟨⟨tz3, tz4⟩, ⟨tz46, tz5⟩⟩, ⟨⟨tz84, tz85⟩, ⟨tz87, tz9⟩⟩⟩⟩⟩⟩
set_option maxRecDepth 100000 in
set_option maxHeartbeats 2000000 in
theorem errS_c (hD : DB M D) (hM : M ≤ 1048576) {l : List (List UInt8)} (hl : BsB 1048576 l) (c : Int) : AC Try.prog 33 [.d (encD D), .d (encBs l), .d (iD c)] none (fun r' _ => r' = .d (iD (errN D c l 0))) := by
  have hl1 := hl.len
  refine calls_body Try.func33 rfl Try.call33 Try.ntmps33 (by simp) (by simp [ArgsOk]) (by simp [Rz.nkL, Rz.nk]) fun en hsz hks hk0 => ?_; simp only [St.init, frOf, Rz.addSL, Rz.addS, Rz.toAL, Rz.toA, Rz.nk, List.zipIdx_cons, List.zipIdx_nil, List.map_cons, List.map_nil, Nat.zero_add, Nat.reduceAdd]
  refine walkS ?_
  refine aw_loopS [1, 2, 3, 6] (fun _ _ => []) (fun _ y => [(8, .d (iD (y.1 : Nat))), (7, .d (iD (y.2 : Nat)))]) [] (fun _ _ => []) [] (fun _ _ => []) (fun y : Nat × Nat => y.1 ≤ l.length ∧ y.2 ≤ y.1 ∧ errN D c l 0 = errN D c (l.drop y.1) y.2) (fun y => l.length - y.1) ((0, 0)) hks (fun _ => rfl) ⟨Nat.zero_le _, Nat.le_refl _, rfl⟩ wkS ?_; intro x hx; simp (decide := true) only [St.head, List.map_cons, List.map_nil, lk, rmv, List.cons_append, List.nil_append, List.append_nil, reduceIte, Nat.reduceAdd]
  obtain ⟨k, n⟩ := x
  simp only at hx ⊢
  obtain ⟨hx1, hx2, hx3⟩ := hx
  refine walkS ?_
  refine aw_condS rfl (fun hk => ?_) (fun hk => ?_)
  · have hd : l.drop k = l[k]'(by omega) :: l.drop (k + 1) := List.drop_eq_getElem_cons (by omega)
    have hrx := hl.el (l[k]'(by omega)) (List.getElem_mem _)
    rw [hd, errN] at hx3
    (repeat (first | refine walkS ?_ | (refine callPre ?_; (first | refine callN_funS rfl (checkFileS_c hD hM hrx) ?_)) | (refine callPreL ?_; (first | refine callL_funS rfl (checkFileS_c hD hM hrx) ?_))))
    refine aw_condS rfl (fun he => ?_) (fun he => ?_)
    · rw [if_pos he] at hx3
      refine walkS ?_
      refine ⟨(k + 1, n + 1), ⟨by simp only; omega, by simp only; omega, hx3⟩, by simp only; omega, ?_⟩
      exact wkS
    · rw [if_neg he] at hx3
      refine walkS ?_
      refine ⟨(k + 1, n), ⟨by simp only; omega, by simp only; omega, hx3⟩, by simp only; omega, ?_⟩
      exact wkS
  · rw [List.drop_eq_nil_of_le (by omega), errN] at hx3
    refine walkS ?_
    (refine aw_ret ?_; (simp only [Fin, Try.results33]; refine finS ?_); exact ⟨_, _, .inl ⟨rfl, rfl⟩, List.nodup_nil, by rw [hx3]⟩)
set_option maxRecDepth 100000 in
set_option maxHeartbeats 2000000 in
theorem errI_c (hD : DB M D) (hM : M ≤ 1048576) {l : List (List UInt8)} (hl : BsB 1048576 l) (c : Int) : AC Try.prog 35 [.d (encD D), .d (encBs l), .d (iD c)] none (fun r' _ => r' = .d (iD (errN D c l 0))) := by
  have hl1 := hl.len
  refine calls_body Try.func35 rfl Try.call35 Try.ntmps35 (by simp) (by simp [ArgsOk]) (by simp [Rz.nkL, Rz.nk]) fun en hsz hks hk0 => ?_; simp only [St.init, frOf, Rz.addSL, Rz.addS, Rz.toAL, Rz.toA, Rz.nk, List.zipIdx_cons, List.zipIdx_nil, List.map_cons, List.map_nil, Nat.zero_add, Nat.reduceAdd]
  refine walkS ?_
  refine aw_loopS [2, 3, 6, 12, 13] (fun _ _ => []) (fun _ y => [(14, .d (iD (y.1 : Nat))), (7, .d (iD (y.2 : Nat)))]) [] (fun _ _ => []) [] (fun _ _ => []) (fun y : Nat × Nat => y.1 ≤ l.length ∧ y.2 ≤ y.1 ∧ errN D c l 0 = errN D c (l.drop y.1) y.2) (fun y => l.length - y.1) ((0, 0)) hks (fun _ => rfl) ⟨Nat.zero_le _, Nat.le_refl _, rfl⟩ wkS ?_; intro x hx; simp (decide := true) only [St.head, List.map_cons, List.map_nil, lk, rmv, List.cons_append, List.nil_append, List.append_nil, reduceIte, Nat.reduceAdd]
  obtain ⟨k, n⟩ := x
  simp only at hx ⊢
  obtain ⟨hx1, hx2, hx3⟩ := hx
  refine walkS ?_
  refine aw_condS rfl (fun hk => ?_) (fun hk => ?_)
  · have hd : l.drop k = l[k]'(by omega) :: l.drop (k + 1) := List.drop_eq_getElem_cons (by omega)
    have hrx := hl.el (l[k]'(by omega)) (List.getElem_mem _)
    rw [hd, errN] at hx3
    (repeat (first | refine walkS ?_ | (refine callPre ?_; (first | refine callN_funS rfl (checkFileI_c hD hM hrx) ?_)) | (refine callPreL ?_; (first | refine callL_funS rfl (checkFileI_c hD hM hrx) ?_))))
    refine aw_condS rfl (fun he => ?_) (fun he => ?_)
    · rw [if_pos he] at hx3
      refine walkS ?_
      refine ⟨(k + 1, n + 1), ⟨by simp only; omega, by simp only; omega, hx3⟩, by simp only; omega, ?_⟩
      exact wkS
    · rw [if_neg he] at hx3
      refine walkS ?_
      refine ⟨(k + 1, n), ⟨by simp only; omega, by simp only; omega, hx3⟩, by simp only; omega, ?_⟩
      exact wkS
  · rw [List.drop_eq_nil_of_le (by omega), errN] at hx3
    refine walkS ?_
    (refine aw_ret ?_; (simp only [Fin, Try.results35]; refine finS ?_); exact ⟨_, _, .inl ⟨rfl, rfl⟩, List.nodup_nil, by rw [hx3]⟩)
end
end Go.Proofs.Ytcpboonjaceneaa.Eng
