/-
  What the laws read again: rows of bytes, of numbers.
-/
import Derived.Test.YtmpokibohbhoeaaKM1
import Derived.Test.YtmpokibohbhoeaaKL
set_option linter.unusedSimpArgs false
set_option linter.unusedVariables false
set_option linter.defProp false
namespace Go.Proofs.Ytmpokibohbhoeaa.Eng
open Go Go.RowKit

theorem mkB_get {k : Int} {n j : Nat} (h : j < (mkB k n).length) : ((mkB k n)[j].toNat : Int) = IntKind.u8.wrap (k + j) ∨ k < 0 := by
  by_cases h0 : 0 ≤ k
  · left
    rw [mkB_at h0]
    simp [mkB]
  · right; omega
private def tyF := And.intro (And.intro (And.intro tb22 (And.intro te22 tk22)) (And.intro (And.intro tk3 tk5) (And.intro tr22 tr3))) (And.intro (And.intro tr5 (And.intro tu22 tu3)) (And.intro (And.intro tu5 tz22) (And.intro tz3 tz5)))
set_option maxRecDepth 100000 in
set_option maxHeartbeats 1000000 in
theorem heldB_n {k n : Nat} (hk : k + n ≤ 4611686018427387904) : AC Try.prog 32 [.d (encB (mkB k n)), .d (iD (k : Nat))] none (fun r' _ => r' = .d (iD ((k + n : Nat) : Int))) := by
  have hlen := mkB_len k n
  refine calls_body Try.func32 rfl Try.call32 Try.ntmps32 (by simp) (by simp [ArgsOk]) (by simp [Rz.nkL, Rz.nk]) fun en hsz hks hk0 => ?_; simp only [St.init, frOf, Rz.addSL, Rz.addS, Rz.toAL, Rz.toA, Rz.nk, List.zipIdx_cons, List.zipIdx_nil, List.map_cons, List.map_nil, Nat.zero_add, Nat.reduceAdd]
  refine walkS ?_
  refine aw_loopS [0, 4] (fun _ _ => []) (fun _ j => [(1, .d (iD ((k + j : Nat) : Int))), (5, .d (iD (j : Nat)))]) [] (fun _ _ => []) [] (fun _ _ => []) (fun j => j ≤ n) (fun j => n - j) (0) hks (fun _ => rfl) (Nat.zero_le _) wkS ?_; intro x hx; simp (decide := true) only [St.head, List.map_cons, List.map_nil, lk, rmv, List.cons_append, List.nil_append, List.append_nil, reduceIte, Nat.reduceAdd]
  refine walkS ?_
  refine aw_condS rfl (fun hc => ?_) (fun hc => ?_)
  · rw [hlen] at hc
    have hj : x < (mkB k n).length := by omega
    have hg : ((mkB k n)[x].toNat : Int) = IntKind.u8.wrap ((k + x : Nat) : Int) := by
      have := (mkB_get hj).resolve_right (by omega)
      rw [this]
      congr 1
      try omega
    (repeat (first | refine ctlS ?_ | (refine ol_go ?_ (fun K1 hK1 => ?_); (first | exact trivial | exact rfl); refine evS ?_; (try simp only [hg]); refine hK1 _ _ ?_; clear hK1 K1) | (refine ow_go ?_ (fun x hx => by cases hx <;> (rw [hsz]; decide)) (fun K1 hK1 => ?_); (first | exact trivial | exact rfl); refine evS ?_; (try simp only [hg]); refine hK1 _ ?_; clear hK1 K1) | refine skipS ?_))
    refine aw_condS rfl (fun h1 => ?_) (fun h1 => ?_)
    · simp at h1
    · refine walkS ?_
      refine ⟨x + 1, by omega, by omega, ?_⟩
      (try rw [show ((k + x : Nat) : Int) + 1 = ((k + (x + 1) : Nat) : Int) by omega])
      exact wkS
  · rw [hlen] at hc
    obtain rfl : x = n := by have : x ≤ n := hx; omega
    refine walkS ?_
    (refine aw_ret ?_; (simp only [Fin, Try.results32]; refine finS ?_); exact ⟨_, _, .inl ⟨rfl, rfl⟩, List.nodup_nil, rfl⟩)

theorem heldB_c {k : Int} {n : Nat} (h0 : 0 ≤ k) (hk : k + n ≤ 4611686018427387904) : AC Try.prog 32 [.d (encB (mkB k n)), .d (iD k)] none (fun r' _ => r' = .d (iD (k + (n : Int)))) := by
  obtain ⟨m, rfl⟩ := Int.eq_ofNat_of_zero_le h0
  exact heldB_n (by omega)
end Go.Proofs.Ytmpokibohbhoeaa.Eng
