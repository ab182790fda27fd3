/-
  Terminated bytes written: the program.
-/
import Derived.Test.YtnndpimlfibncaaKN45
set_option linter.unusedSimpArgs false
set_option linter.unusedVariables false
set_option linter.defProp false
set_option maxRecDepth 100000
set_option maxHeartbeats 4000000
namespace Go.Proofs.Ytnndpimlfibncaa.Eng
open Go Go.RowKit

theorem escB_step {t c : UInt8} {l : List UInt8} : escB t (c :: l) = (if c = t ∨ c = 92 then [92, c] else [c]) ++ escB t l := by
  rw [escB]
  split <;> rfl
theorem k92 : D.v (Value.int IntKind.u8 92) = uD 92 := rfl
private def tyF := And.intro (And.intro (And.intro tb22 (And.intro te22 tk22)) (And.intro (And.intro tk3 tk5) (And.intro tr22 tr3))) (And.intro (And.intro tr5 (And.intro tu22 tu3)) (And.intro (And.intro tu5 tz22) (And.intro tz3 tz5)))
theorem escI_c {l : List UInt8} (hl : l.length ≤ 1048576) (t : UInt8) : AC Try.prog 119 [.d (encB l), .d (uD t)] none (fun r' _ => r' = .d (encB (escB t l))) := by
  refine calls_body Try.func119 rfl Try.call119 Try.ntmps119 (by simp) (by simp [ArgsOk]) (by simp [Rz.nkL, Rz.nk]) fun en hsz hks hk0 => ?_; refine enS ?_
  (repeat (first | refine walkS ?_ | (refine ow_make ?_ (fun x hx => by cases hx <;> (rw [hsz]; decide)) rfl rfl ?_ te22 tr5 tz5 ?_; (first | exact trivial | exact rfl); omega; simp only [St.set, List.map_cons, List.map_nil, Nat.reduceAdd])))
  (refine ow_make0 (n := l.length + 1) ?_ (fun x hx => by cases hx <;> (rw [hsz]; decide)) rfl rfl rfl ?_ te22 tr5 ?_; (first | exact trivial | exact rfl); omega; simp only [St.set, List.map_cons, List.map_nil, Nat.reduceAdd])
  (repeat (first | refine walkS ?_ | (refine ow_make ?_ (fun x hx => by cases hx <;> (rw [hsz]; decide)) rfl rfl ?_ te22 tr5 tz5 ?_; (first | exact trivial | exact rfl); omega; simp only [St.set, List.map_cons, List.map_nil, Nat.reduceAdd])))
  refine aw_loopS [1, 4, 12, 13] (fun κ s' => [(κ, keyOf (s'.f 5))]) (fun κ x => [(14, .d (iD (x.1 : Nat))), (5, .own κ 5 1 (x.2.map fun c => [uD c]))]) [] (fun _ _ => []) [16] (fun κ x => [(κ, some (x.2.length, 5, 1))]) (fun x : Nat × List UInt8 => x.1 ≤ l.length ∧ x.2 ++ escB t (l.drop x.1) = escB t l ∧ x.2.length ≤ 2 * x.1) (fun x => l.length - x.1) ((0, [])) hks (fun _ => rfl) ⟨Nat.zero_le _, rfl, Nat.zero_le _⟩ wkS ?_; intro x hx; refine headS ?_
  obtain ⟨k, acc⟩ := x
  simp only at hx ⊢
  obtain ⟨hx1, hx2, hx3⟩ := hx
  (repeat (first | refine walkS ?_ | (refine ow_make ?_ (fun x hx => by cases hx <;> (rw [hsz]; decide)) rfl rfl ?_ te22 tr5 tz5 ?_; (first | exact trivial | exact rfl); omega; simp only [St.set, List.map_cons, List.map_nil, Nat.reduceAdd])))
  refine aw_condS rfl (fun hk => ?_) (fun hk => ?_)
  · have hk' : k < l.length := by omega
    rw [List.drop_eq_getElem_cons hk', escB_step, ← List.append_assoc] at hx2
    generalize hc : l[k] = c at hx2
    by_cases h1 : c = t
    · have e1 : ((c.toNat : Int) == (t.toNat : Int)) = true := by rw [h1]; simp
      rw [if_pos (.inl h1)] at hx2
      (repeat (first | refine ctlS ?_ | (refine ol_go ?_ (fun K1 hK1 => ?_); (first | exact trivial | exact rfl); refine evS ?_; (try simp only [hc, e1]); refine hK1 _ _ ?_; clear hK1 K1) | (refine ow_go ?_ (fun x hx => by cases hx <;> (rw [hsz]; decide)) (fun K1 hK1 => ?_); (first | exact trivial | exact rfl); refine evS ?_; (try simp only [hc, e1]); refine hK1 _ ?_; clear hK1 K1) | refine skipS ?_ | (refine ow_make ?_ (fun x hx => by cases hx <;> (rw [hsz]; decide)) rfl rfl ?_ te22 tr5 tz5 ?_; (first | exact trivial | exact rfl); omega; simp only [St.set, List.map_cons, List.map_nil, Nat.reduceAdd])))
      refine aw_condS rfl (fun h2 => ?_) (fun h2 => ?_)
      · (repeat (first | refine ctlS ?_ | (refine ol_go ?_ (fun K1 hK1 => ?_); (first | exact trivial | exact rfl); refine evS ?_; (try simp only [hc, k92]); refine hK1 _ _ ?_; clear hK1 K1) | (refine ow_go ?_ (fun x hx => by cases hx <;> (rw [hsz]; decide)) (fun K1 hK1 => ?_); (first | exact trivial | exact rfl); refine evS ?_; (try simp only [hc, k92]); refine hK1 _ ?_; clear hK1 K1) | refine skipS ?_ | (refine ow_make ?_ (fun x hx => by cases hx <;> (rw [hsz]; decide)) rfl rfl ?_ te22 tr5 tz5 ?_; (first | exact trivial | exact rfl); omega; simp only [St.set, List.map_cons, List.map_nil, Nat.reduceAdd])))
        refine ⟨(k + 1, acc ++ [92] ++ [c]), ⟨by simp only; omega, (by simpa only [List.append_assoc, List.cons_append, List.nil_append] using hx2), by simp; omega⟩, by simp only; omega, ?_⟩
        exact wkS
      · (first | exact absurd trivial h2 | exact absurd rfl h2 | (cases h2; done) | omega | exact absurd h2 (by decide) | (simp at h2; done))
    · have e1 : ((c.toNat : Int) == (t.toNat : Int)) = false := by
        rw [beq_eq_false_iff_ne]
        intro h
        exact h1 (UInt8.toNat_inj.1 (by omega))
      by_cases h9 : c = 92
      · have e2 : ((c.toNat : Int) == (92 : Int)) = true := by rw [h9]; rfl
        rw [if_pos (.inr h9)] at hx2
        (repeat (first | refine ctlS ?_ | (refine ol_go ?_ (fun K1 hK1 => ?_); (first | exact trivial | exact rfl); refine evS ?_; (try simp only [hc, e1, e2]); refine hK1 _ _ ?_; clear hK1 K1) | (refine ow_go ?_ (fun x hx => by cases hx <;> (rw [hsz]; decide)) (fun K1 hK1 => ?_); (first | exact trivial | exact rfl); refine evS ?_; (try simp only [hc, e1, e2]); refine hK1 _ ?_; clear hK1 K1) | refine skipS ?_ | (refine ow_make ?_ (fun x hx => by cases hx <;> (rw [hsz]; decide)) rfl rfl ?_ te22 tr5 tz5 ?_; (first | exact trivial | exact rfl); omega; simp only [St.set, List.map_cons, List.map_nil, Nat.reduceAdd])))
        refine aw_condS rfl (fun h2 => ?_) (fun h2 => ?_)
        · (repeat (first | refine ctlS ?_ | (refine ol_go ?_ (fun K1 hK1 => ?_); (first | exact trivial | exact rfl); refine evS ?_; (try simp only [hc, k92]); refine hK1 _ _ ?_; clear hK1 K1) | (refine ow_go ?_ (fun x hx => by cases hx <;> (rw [hsz]; decide)) (fun K1 hK1 => ?_); (first | exact trivial | exact rfl); refine evS ?_; (try simp only [hc, k92]); refine hK1 _ ?_; clear hK1 K1) | refine skipS ?_ | (refine ow_make ?_ (fun x hx => by cases hx <;> (rw [hsz]; decide)) rfl rfl ?_ te22 tr5 tz5 ?_; (first | exact trivial | exact rfl); omega; simp only [St.set, List.map_cons, List.map_nil, Nat.reduceAdd])))
          refine ⟨(k + 1, acc ++ [92] ++ [c]), ⟨by simp only; omega, (by simpa only [List.append_assoc, List.cons_append, List.nil_append] using hx2), by simp; omega⟩, by simp only; omega, ?_⟩
          exact wkS
        · (first | exact absurd trivial h2 | exact absurd rfl h2 | (cases h2; done) | omega | exact absurd h2 (by decide) | (simp at h2; done))
      · have e2 : ((c.toNat : Int) == (92 : Int)) = false := by
          rw [beq_eq_false_iff_ne]
          intro h
          exact h9 (UInt8.toNat_inj.1 (by show c.toNat = 92; omega))
        rw [if_neg (by rintro (h | h) <;> contradiction)] at hx2
        (repeat (first | refine ctlS ?_ | (refine ol_go ?_ (fun K1 hK1 => ?_); (first | exact trivial | exact rfl); refine evS ?_; (try simp only [hc, e1, e2]); refine hK1 _ _ ?_; clear hK1 K1) | (refine ow_go ?_ (fun x hx => by cases hx <;> (rw [hsz]; decide)) (fun K1 hK1 => ?_); (first | exact trivial | exact rfl); refine evS ?_; (try simp only [hc, e1, e2]); refine hK1 _ ?_; clear hK1 K1) | refine skipS ?_ | (refine ow_make ?_ (fun x hx => by cases hx <;> (rw [hsz]; decide)) rfl rfl ?_ te22 tr5 tz5 ?_; (first | exact trivial | exact rfl); omega; simp only [St.set, List.map_cons, List.map_nil, Nat.reduceAdd])))
        refine aw_condS rfl (fun h2 => ?_) (fun h2 => ?_)
        · (first | exact absurd trivial h2 | exact absurd rfl h2 | (cases h2; done) | omega | exact absurd h2 (by decide) | (simp at h2; done))
        · (repeat (first | refine ctlS ?_ | (refine ol_go ?_ (fun K1 hK1 => ?_); (first | exact trivial | exact rfl); refine evS ?_; (try simp only [hc, k92]); refine hK1 _ _ ?_; clear hK1 K1) | (refine ow_go ?_ (fun x hx => by cases hx <;> (rw [hsz]; decide)) (fun K1 hK1 => ?_); (first | exact trivial | exact rfl); refine evS ?_; (try simp only [hc, k92]); refine hK1 _ ?_; clear hK1 K1) | refine skipS ?_ | (refine ow_make ?_ (fun x hx => by cases hx <;> (rw [hsz]; decide)) rfl rfl ?_ te22 tr5 tz5 ?_; (first | exact trivial | exact rfl); omega; simp only [St.set, List.map_cons, List.map_nil, Nat.reduceAdd])))
          refine ⟨(k + 1, acc ++ [c]), ⟨by simp only; omega, hx2, by simp; omega⟩, by simp only; omega, ?_⟩
          exact wkS
  · rw [List.drop_eq_nil_of_le (by omega), show escB t [] = [t] from rfl] at hx2
    rw [← hx2]
    (repeat (first | refine walkS ?_ | (refine ow_make ?_ (fun x hx => by cases hx <;> (rw [hsz]; decide)) rfl rfl ?_ te22 tr5 tz5 ?_; (first | exact trivial | exact rfl); omega; simp only [St.set, List.map_cons, List.map_nil, Nat.reduceAdd])))
    refine aw_ret ?_
    (simp only [Fin, Try.results119]; refine finS ?_)
    refine ⟨_, [], .inr (.inl ⟨encB (acc ++ [t]), rfl, rfl, ?_⟩), List.nodup_nil, rfl⟩
    show wkD (.sl 1 ((acc ++ [t]).map fun c => [uD c])) _
    rw [List.map_append]
    unfold wkD
    exact .inr ⟨_, _, _, rfl, dleLL_refl _⟩
end Go.Proofs.Ytnndpimlfibncaa.Eng
