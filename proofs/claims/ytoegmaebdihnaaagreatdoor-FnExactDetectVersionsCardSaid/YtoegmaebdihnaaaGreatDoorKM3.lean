/-
  What the laws read again: rows of bytes, of numbers.
-/
import Derived.Test.YtoegmaebdihnaaaGreatDoorKM1
import Derived.Test.YtoegmaebdihnaaaGreatDoorKL
set_option linter.unusedSimpArgs false
set_option linter.unusedVariables false
namespace Go.Proofs.YtoegmaebdihnaaaGreatDoor.Eng
open Go Go.RowKit

theorem mkB_get {k : Int} {n j : Nat} (h : j < (mkB k n).length) : ((mkB k n)[j].toNat : Int) = IntKind.u8.wrap (k + j) ∨ k < 0 := by
  by_cases h0 : 0 ≤ k
  · left
    rw [mkB_at h0]
    simp [mkB]
  · right; omega
private theorem tyF : ((((bytesT Tryz.prog 25 = true ∧ tyElem Tryz.prog 25 = some 5) ∧ (tyElem Tryz.prog 54 = some 3 ∧ tyK Tryz.prog 25 = some (false, 1))) ∧ ((tyK Tryz.prog 3 = some (false, 1) ∧ tyK Tryz.prog 5 = some (false, 1)) ∧ (tyK Tryz.prog 54 = some (false, 1) ∧ (tyRow Tryz.prog 25 = some 1 ∧ tyRow Tryz.prog 3 = some 1)))) ∧ (((tyRow Tryz.prog 5 = some 1 ∧ tyRow Tryz.prog 54 = some 1) ∧ (Tryz.prog.underlying 25 = some (TypeDesc.slice 5) ∧ (Tryz.prog.underlying 3 = some (TypeDesc.int IntKind.i64) ∧ Tryz.prog.underlying 5 = some (TypeDesc.int IntKind.u8)))) ∧ ((Tryz.prog.underlying 54 = some (TypeDesc.slice 3) ∧ tyZero Tryz.prog 25 = some [Value.slice none 0 0]) ∧ (tyZero Tryz.prog 3 = some [Value.int IntKind.i64 0] ∧ (tyZero Tryz.prog 5 = some [Value.int IntKind.u8 0] ∧ tyZero Tryz.prog 54 = some [Value.slice none 0 0]))))) := ⟨⟨⟨⟨tb25, te25⟩, ⟨te54, tk25⟩⟩, ⟨⟨tk3, tk5⟩, ⟨tk54, ⟨tr25, tr3⟩⟩⟩⟩, ⟨⟨⟨tr5, tr54⟩, ⟨tu25, ⟨tu3, tu5⟩⟩⟩, ⟨⟨tu54, tz25⟩, ⟨tz3, ⟨tz5, tz54⟩⟩⟩⟩⟩
set_option maxRecDepth 100000 in
set_option maxHeartbeats 1000000 in
theorem heldB_n {k n : Nat} (hk : k + n ≤ 4611686018427387904) : AC Tryz.prog 46 [.d (encB (mkB k n)), .d (iD (k : Nat))] none (fun r' _ => r' = .d (iD ((k + n : Nat) : Int))) := by
  have hlen := mkB_len k n
  refine calls_body Tryz.func46 rfl Tryz.call46 Tryz.ntmps46 (by simp) (by simp [ArgsOk]) (by simp [Rz.nkL, Rz.nk]) fun en hsz hks hk0 => ?_; simp only [St.init, frOf, Rz.addSL, Rz.addS, Rz.toAL, Rz.toA, Rz.nk, List.zipIdx_cons, List.zipIdx_nil, List.map_cons, List.map_nil, Nat.zero_add, Nat.reduceAdd]
  refine walkS ?_
  refine aw_loopS [0, 4] (fun _ _ => []) (fun _ j => [(1, .d (iD ((k + j : Nat) : Int))), (5, .d (iD (j : Nat)))]) [] (fun _ _ => []) [] (fun _ _ => []) (fun j => j ≤ n) (fun j => n - j) (0) hks (fun _ => rfl) (Nat.zero_le _) wkS ?_; intro x hx; simp (decide := true) only [St.head, List.map_cons, List.map_nil, lk, rmv, List.cons_append, List.nil_append, List.append_nil, reduceIte, Nat.reduceAdd]
  refine walkS ?_
  refine aw_condS rfl (fun hc => ?_) (fun hc => ?_)
  · rw [hlen] at hc
    have hj : x < (mkB k n).length := by omega
    have hg : ((mkB k n)[x].toNat : Int) = IntKind.u8.wrap ((k + x : Nat) : Int) := by
      have := (mkB_get hj).resolve_right (by omega)
      rw [this]
      congr 1
      try omega
    (repeat (first | refine aw_seq ?_ | refine aw_region ?_ | refine aw_block ?_ | (refine aw_exit ?_; (try simp (decide := true) only [reduceIte])) | (refine aw_skip ?_; try dsimp only) | (refine aw_any (by kernel_rfl) (by kernel_rfl) (by simp only [hsz]; kernel_rfl) ?_) | (refine ow_nil ?_; try dsimp only) | (refine ol_go ?_ (fun K1 hK1 => ?_); (first | exact trivial | exact rfl); refine evS ?_; (try simp only [hg]); refine hK1 _ _ ?_; clear hK1 K1) | (refine ol_skip rfl rfl ?_ ?_; (focus (intro hne; cases hne; done)); simp only [St.set]) | (refine ol_nil ⟨by kernel_rfl, ?_⟩; try dsimp only) | (refine ow_go ?_ (fun x hx => by cases hx <;> (rw [hsz]; decide)) (fun K1 hK1 => ?_); (first | exact trivial | exact rfl); refine evS ?_; (try simp only [hg]); refine hK1 _ ?_; clear hK1 K1) | (refine ow_skip rfl rfl ?_ (fun x hx => by cases hx <;> (rw [hsz]; decide)) ?_; (focus (intro hne; cases hne; done)); simp only [St.set])))
    refine aw_condS rfl (fun h1 => ?_) (fun h1 => ?_)
    · simp at h1
    · refine walkS ?_
      refine ⟨x + 1, by omega, by omega, ?_⟩
      (try rw [show ((k + x : Nat) : Int) + 1 = ((k + (x + 1) : Nat) : Int) by omega])
      exact wkS
  · rw [hlen] at hc
    obtain rfl : x = n := by have : x ≤ n := hx; omega
    refine walkS ?_
    (refine aw_ret ?_; (simp only [Fin, Tryz.results46]; refine finS ?_); exact ⟨_, _, .inl ⟨rfl, rfl⟩, List.nodup_nil, rfl⟩)
set_option maxRecDepth 100000 in
set_option maxHeartbeats 1000000 in
theorem heldI_n {k n : Nat} (hk : k + n ≤ 4611686018427387904) : AC Tryz.prog 42 [.d (encI (mkI k n)), .d (iD (k : Nat))] none (fun r' _ => r' = .d (iD ((k + n : Nat) : Int))) := by
  have hlen := mkI_len k n
  refine calls_body Tryz.func42 rfl Tryz.call42 Tryz.ntmps42 (by simp) (by simp [ArgsOk]) (by simp [Rz.nkL, Rz.nk]) fun en hsz hks hk0 => ?_; simp only [St.init, frOf, Rz.addSL, Rz.addS, Rz.toAL, Rz.toA, Rz.nk, List.zipIdx_cons, List.zipIdx_nil, List.map_cons, List.map_nil, Nat.zero_add, Nat.reduceAdd]
  refine walkS ?_
  refine aw_loopS [0, 4] (fun _ _ => []) (fun _ j => [(1, .d (iD ((k + j : Nat) : Int))), (5, .d (iD (j : Nat)))]) [] (fun _ _ => []) [] (fun _ _ => []) (fun j => j ≤ n) (fun j => n - j) (0) hks (fun _ => rfl) (Nat.zero_le _) wkS ?_; intro x hx; simp (decide := true) only [St.head, List.map_cons, List.map_nil, lk, rmv, List.cons_append, List.nil_append, List.append_nil, reduceIte, Nat.reduceAdd]
  refine walkS ?_
  refine aw_condS rfl (fun hc => ?_) (fun hc => ?_)
  · rw [hlen] at hc
    have hj : x < (mkI k n).length := by omega
    have hg : (mkI k n)[x] = ((k + x : Nat) : Int) := by simp [mkI]
    (repeat (first | refine aw_seq ?_ | refine aw_region ?_ | refine aw_block ?_ | (refine aw_exit ?_; (try simp (decide := true) only [reduceIte])) | (refine aw_skip ?_; try dsimp only) | (refine aw_any (by kernel_rfl) (by kernel_rfl) (by simp only [hsz]; kernel_rfl) ?_) | (refine ow_nil ?_; try dsimp only) | (refine ol_go ?_ (fun K1 hK1 => ?_); (first | exact trivial | exact rfl); refine evS ?_; (try simp only [hg]); refine hK1 _ _ ?_; clear hK1 K1) | (refine ol_skip rfl rfl ?_ ?_; (focus (intro hne; cases hne; done)); simp only [St.set]) | (refine ol_nil ⟨by kernel_rfl, ?_⟩; try dsimp only) | (refine ow_go ?_ (fun x hx => by cases hx <;> (rw [hsz]; decide)) (fun K1 hK1 => ?_); (first | exact trivial | exact rfl); refine evS ?_; (try simp only [hg]); refine hK1 _ ?_; clear hK1 K1) | (refine ow_skip rfl rfl ?_ (fun x hx => by cases hx <;> (rw [hsz]; decide)) ?_; (focus (intro hne; cases hne; done)); simp only [St.set])))
    refine aw_condS rfl (fun h1 => ?_) (fun h1 => ?_)
    · simp at h1
    · refine walkS ?_
      refine ⟨x + 1, by omega, by omega, ?_⟩
      (try rw [show ((k + x : Nat) : Int) + 1 = ((k + (x + 1) : Nat) : Int) by omega])
      exact wkS
  · rw [hlen] at hc
    obtain rfl : x = n := by have : x ≤ n := hx; omega
    refine walkS ?_
    (refine aw_ret ?_; (simp only [Fin, Tryz.results42]; refine finS ?_); exact ⟨_, _, .inl ⟨rfl, rfl⟩, List.nodup_nil, rfl⟩)
theorem heldI_c {k : Int} {n : Nat} (h0 : 0 ≤ k) (hk : k + n ≤ 4611686018427387904) : AC Tryz.prog 42 [.d (encI (mkI k n)), .d (iD k)] none (fun r' _ => r' = .d (iD (k + (n : Int)))) := by
  obtain ⟨m, rfl⟩ := Int.eq_ofNat_of_zero_le h0
  exact heldI_n (by omega)
theorem heldB_c {k : Int} {n : Nat} (h0 : 0 ≤ k) (hk : k + n ≤ 4611686018427387904) : AC Tryz.prog 46 [.d (encB (mkB k n)), .d (iD k)] none (fun r' _ => r' = .d (iD (k + (n : Int)))) := by
  obtain ⟨m, rfl⟩ := Int.eq_ofNat_of_zero_le h0
  exact heldB_n (by omega)
end Go.Proofs.YtoegmaebdihnaaaGreatDoor.Eng
