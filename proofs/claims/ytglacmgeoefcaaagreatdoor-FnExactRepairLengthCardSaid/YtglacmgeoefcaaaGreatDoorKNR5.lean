/-
  Mutations: the reference.
-/
import Derived.Test.YtglacmgeoefcaaaGreatDoorKNR1
import Derived.Test.YtglacmgeoefcaaaGreatDoorKNE
set_option linter.unusedSimpArgs false
set_option linter.unusedVariables false
set_option linter.defProp false
set_option maxRecDepth 100000
set_option maxHeartbeats 4000000
namespace Go.Proofs.YtglacmgeoefcaaaGreatDoor.Eng
open Go Go.RowKit

section
variable {b : List UInt8}
private def tyF := And.intro (And.intro (And.intro (And.intro tb22 (And.intro te22 tf51_0)) (And.intro tf51_1 (And.intro tf51_2 tk22))) (And.intro (And.intro tk3 (And.intro tk4 tk5)) (And.intro (And.intro tk51 tp51) (And.intro tq51 tr22)))) (And.intro (And.intro (And.intro tr3 (And.intro tr4 tr5)) (And.intro tr51 (And.intro tu22 tu3))) (And.intro (And.intro tu4 (And.intro tu5 tz22)) (And.intro (And.intro tz3 tz4) (And.intro tz5 tz51))))
theorem spliceS_c (hb : b.length ≤ 1048576) {a rm : Nat} (h : a + rm ≤ b.length) {new : List UInt8} (hn : new.length ≤ 16) : AC Tryz.prog 128 [.d (encB b), .d (iD a), .d (iD rm), .d (encB new)] none (fun r' _ => r' = .d (.tup [encB (cutB b a rm new), bD true])) := by
  have e1 : decide ((a : Int) < 0) = false := by simp
  have e2 : decide ((rm : Int) < 0) = false := by simp
  have e3 : decide ((b.length : Int) < (rm : Int)) = false := by simp; omega
  have e4 : decide ((b.length : Int) - (rm : Int) < (a : Int)) = false := by simp; omega
  have l1 : (b.take a).length ≤ 1048576 := by rw [List.length_take]; omega
  have l2 : (b.drop (a + rm)).length ≤ 1048576 := by rw [List.length_drop]; omega
  have t2 : ((a : Int) + (rm : Int)).toNat = a + rm := by omega
  have s1 : (b.drop 0).take (a - 0) = b.take a := rfl
  have s2 : (b.drop (a + rm)).take (b.length - (a + rm)) = b.drop (a + rm) := List.take_of_length_le (by simp)
  refine calls_body Tryz.func128 rfl Tryz.call128 Tryz.ntmps128 (by simp) (by simp [ArgsOk]) (by simp [Rz.nkL, Rz.nk]) fun en hsz hks hk0 => ?_; refine enS ?_
  (repeat (first | refine ctlS ?_ | (refine ol_go ?_ (fun K1 hK1 => ?_); (first | exact trivial | exact rfl); refine evS ?_; (try simp only [e1, e2, e3, e4, t2, s1, s2, Nat.sub_zero]); refine hK1 _ _ ?_; clear hK1 K1) | (refine ow_go ?_ (fun x hx => by cases hx <;> (rw [hsz]; decide)) (fun K1 hK1 => ?_); (first | exact trivial | exact rfl); refine evS ?_; (try simp only [e1, e2, e3, e4, t2, s1, s2, Nat.sub_zero]); refine hK1 _ ?_; clear hK1 K1) | refine skipS ?_ | refine aw_condT rfl ?_ | refine aw_condF rfl ?_))
  have hE : List.map (fun c => [uD c]) (List.take a b) ++ List.map (fun c => [uD c]) new ++ List.map (fun c => [uD c]) (List.drop (a + rm) b) = (cutB b a rm new).map fun c => [uD c] := by simp [cutB]
  rw [hE]
  (refine aw_ret ?_; (simp only [Fin, Tryz.results128]; refine finS ?_); refine ⟨_, [], .inr (.inl ⟨.tup [encB (cutB b a rm new), bD true], rfl, rfl, ?_⟩), List.nodup_nil, rfl⟩; exact wkDS)
theorem spliceS_0 (hb : b.length ≤ 1048576) {a rm : Nat} (h : a + rm ≤ b.length) {κ : Nat} {e : TypeId} : AC Tryz.prog 128 [.d (encB b), .d (iD a), .d (iD rm), .d (.sl 1 [])] none (fun r' _ => r' = .d (.tup [encB (cutB b a rm []), bD true])) := spliceS_c hb h (new := []) (by simp)
theorem applyS_2 (hb : b.length ≤ 1048576) {i c : Nat} (hi : i ≤ b.length) (hc : c ≤ 255) : AC Tryz.prog 75 [.d (encB b), .d (mutE 2 i c)] none (fun r' _ => r' = .d (.tup [encB (cutB b i 0 [UInt8.ofNat c]), bD true])) := by
  have r1 : AC Tryz.prog 60 [.d (iD (c : Nat)), .d (iD 0), .d (iD 255)] none (fun r' _ => r' = .d (bD true)) := l1In_t (by omega)
  have r2 : AC Tryz.prog 60 [.d (iD (i : Nat)), .d (iD 0), .d (iD (b.length : Nat))] none (fun r' _ => r' = .d (bD true)) := l1In_t (by omega)
  have HS := spliceS_c hb (a := i) (rm := 0) (by omega) (new := [UInt8.ofNat c]) (by simp)
  refine calls_body Tryz.func75 rfl Tryz.call75 Tryz.ntmps75 (by simp) (by simp [ArgsOk]) (by simp [Rz.nkL, Rz.nk]) fun en hsz hks hk0 => ?_; refine enS ?_
  (repeat (first | refine ctlS ?_ | (refine ol_go ?_ (fun K1 hK1 => ?_); (first | exact trivial | exact rfl); refine evS ?_; (try simp only [u8_nat]); refine hK1 _ _ ?_; clear hK1 K1) | (refine ow_go ?_ (fun x hx => by cases hx <;> (rw [hsz]; decide)) (fun K1 hK1 => ?_); (first | exact trivial | exact rfl); refine evS ?_; (try simp only [u8_nat]); refine hK1 _ ?_; clear hK1 K1) | refine skipS ?_ | (refine callPre ?_; (first | refine callN_funS rfl (r1) ?_ | refine callN_funS rfl (r2) ?_ | refine callN_funS rfl (HS) ?_)) | (refine callPreL ?_; (first | refine callL_funS rfl (r1) ?_ | refine callL_funS rfl (r2) ?_ | refine callL_funS rfl (HS) ?_)) | refine aw_condT rfl ?_ | refine aw_condF rfl ?_))
  (refine aw_ret ?_; (simp only [Fin, Tryz.results75]; refine finS ?_); exact ⟨_, _, .inl ⟨rfl, rfl⟩, List.nodup_nil, rfl⟩)
theorem applyS_3 (hb : b.length ≤ 1048576) {i : Nat} (hi : i < b.length) : AC Tryz.prog 75 [.d (encB b), .d (mutE 3 i 0)] none (fun r' _ => r' = .d (.tup [encB (cutB b i 1 []), bD true])) := by
  have r1 : AC Tryz.prog 60 [.d (iD 0), .d (iD 0), .d (iD 255)] none (fun r' _ => r' = .d (bD true)) := l1In_t (by omega)
  have r2 : AC Tryz.prog 60 [.d (iD (i : Nat)), .d (iD 0), .d (iD (b.length : Nat))] none (fun r' _ => r' = .d (bD true)) := l1In_t (by omega)
  have e2 : decide ((i : Int) < (b.length : Int)) = true := by simp; omega
  have HS := spliceS_c hb (a := i) (rm := 1) (by omega) (new := []) (by simp)
  refine calls_body Tryz.func75 rfl Tryz.call75 Tryz.ntmps75 (by simp) (by simp [ArgsOk]) (by simp [Rz.nkL, Rz.nk]) fun en hsz hks hk0 => ?_; refine enS ?_
  (repeat (first | refine ctlS ?_ | (refine ol_go ?_ (fun K1 hK1 => ?_); (first | exact trivial | exact rfl); refine evS ?_; (try simp only [e2]); refine hK1 _ _ ?_; clear hK1 K1) | (refine ow_go ?_ (fun x hx => by cases hx <;> (rw [hsz]; decide)) (fun K1 hK1 => ?_); (first | exact trivial | exact rfl); refine evS ?_; (try simp only [e2]); refine hK1 _ ?_; clear hK1 K1) | refine skipS ?_ | (refine callPre ?_; (first | refine callN_funS rfl (r1) ?_ | refine callN_funS rfl (r2) ?_ | refine callN_funS rfl (HS) ?_)) | (refine callPreL ?_; (first | refine callL_funS rfl (r1) ?_ | refine callL_funS rfl (r2) ?_ | refine callL_funS rfl (HS) ?_)) | refine aw_condT rfl ?_ | refine aw_condF rfl ?_))
  (refine aw_ret ?_; (simp only [Fin, Tryz.results75]; refine finS ?_); exact ⟨_, _, .inl ⟨rfl, rfl⟩, List.nodup_nil, rfl⟩)
end
end Go.Proofs.YtglacmgeoefcaaaGreatDoor.Eng
