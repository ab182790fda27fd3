/-
  The checker: parts, numbers, consts.
-/
import Derived.Test.YtlcnmoolicfinaaGreatDoorKN9
import Derived.Test.YtlcnmoolicfinaaGreatDoorKE3
set_option linter.unusedSimpArgs false
set_option linter.unusedVariables false
set_option linter.defProp false
set_option maxRecDepth 100000
set_option maxHeartbeats 4000000
namespace Go.Proofs.YtlcnmoolicfinaaGreatDoor.Eng
open Go Go.RowKit

abbrev chk (D : List RuleD) (b : List UInt8) (a : Int) : List Eng.D := [encDs D, encB b, iD (IntKind.i64.wrap a)]
abbrev spotD (x : Nat × Nat) : Eng.D := .agg [iD x.1, iD x.2]
def skipP (b : List UInt8) (p n : Nat) : Nat × Nat := if b.length - p < n then (p, 1) else (p + n, 0)
def numP (r : RuleD) (b : List UInt8) (p : Nat) : Nat × Nat × Nat := match intAt r b p with
  | some m => (m, p + r.size.toNat, 0)
  | none => (0, p, 1)

private def tyF := And.intro (And.intro (And.intro (And.intro (And.intro (And.intro tb25 te25) (And.intro te28 te44)) (And.intro (And.intro te45 tf102_0) (And.intro tf102_1 (And.intro tf108_0 tf108_1)))) (And.intro (And.intro (And.intro tf108_2 tf30_0) (And.intro tf52_0 tf52_1)) (And.intro (And.intro tf52_2 tf52_3) (And.intro tf52_4 (And.intro tf52_5 tf52_6))))) (And.intro (And.intro (And.intro (And.intro tf52_7 tk102) (And.intro tk106 tk108)) (And.intro (And.intro tk25 tk28) (And.intro tk3 (And.intro tk30 tk4)))) (And.intro (And.intro (And.intro tk44 tk45) (And.intro tk5 tk52)) (And.intro (And.intro tk9 tp102) (And.intro tp108 (And.intro tp30 tp52)))))) (And.intro (And.intro (And.intro (And.intro (And.intro tq102 tr102) (And.intro tr106 tr108)) (And.intro (And.intro tr25 tr28) (And.intro tr3 (And.intro tr30 tr4)))) (And.intro (And.intro (And.intro tr44 tr45) (And.intro tr5 tr52)) (And.intro (And.intro tr9 tu106) (And.intro tu25 (And.intro tu28 tu3))))) (And.intro (And.intro (And.intro (And.intro tu4 tu44) (And.intro tu45 tu5)) (And.intro (And.intro tu9 tz102) (And.intro tz106 (And.intro tz108 tz25)))) (And.intro (And.intro (And.intro tz28 tz3) (And.intro tz30 tz4)) (And.intro (And.intro tz44 tz45) (And.intro tz5 (And.intro tz52 tz9))))))
theorem skip_c (D : List RuleD) {b : List UInt8} (hb : b.length ≤ 1048576) (a : Int) (p : Nat) (hp : p ≤ b.length) (n : Nat) (hn : n ≤ 4294967296) : AC Tryz.prog 79 [.ptr 0 0, .d (iD p), .d (iD n)] (some ((chk D b a).map .d)) (fun r' b' => r' = .d (spotD (skipP b p n)) ∧ b' = some ((chk D b a).map .d)) := by
  refine calls_body Tryz.func79 rfl Tryz.call79 Tryz.ntmps79 (by simp) (by simp [ArgsOk]) (by simp [Rz.nkL, Rz.nk]) fun en hsz hks hk0 => ?_; refine enS ?_
  refine walkS ?_
  refine aw_condS rfl (fun hc => ?_) (fun hc => ?_)
  · refine walkS ?_
    (refine aw_ret ?_; (simp only [Fin, Tryz.results79]; refine finS ?_); exact ⟨_, [], .inl ⟨rfl, rfl⟩, _, (chk D b a : List Eng.D).map .d, [], rfl, toZL_d _ (chk D b a), by simp, by rw [skipP, if_pos (by omega)]; rfl, rfl⟩)
  · refine walkS ?_
    (refine aw_ret ?_; (simp only [Fin, Tryz.results79]; refine finS ?_); exact ⟨_, [], .inl ⟨rfl, rfl⟩, _, (chk D b a : List Eng.D).map .d, [], rfl, toZL_d _ (chk D b a), by simp, by rw [skipP, if_neg (by omega)]; rfl, rfl⟩)

theorem number_c {M : Nat} {D : List RuleD} (hD : DB M D) (hM : M ≤ 1048576) {b : List UInt8} (hb : b.length ≤ 1048576) (a : Int) {n : Nat} {r : RuleD} (hr : D[n]? = some r) (hsz' : 1 ≤ r.size ∧ r.size ≤ 4) (p : Nat) (hp : p ≤ b.length) : AC Tryz.prog 77 [.ptr 0 0, .d (iD n), .d (iD p)] (some ((chk D b a).map .d)) (fun r' b' => r' = .d (.tup [iD (numP r b p).1, spotD (numP r b p).2]) ∧ b' = some ((chk D b (a + 1)).map .d)) := by
  have HS := skip_c D hb (a + 1) p hp r.size.toNat (by omega)
  rw [Int.toNat_of_nonneg (by omega)] at HS
  by_cases h : b.length - p < r.size.toNat
  · have e : skipP b p r.size.toNat = (p, 1) := if_pos h
    have e2 : numP r b p = (0, p, 1) := by rw [numP, intAt, if_pos (by omega)]
    rw [e] at HS
    refine calls_body Tryz.func77 rfl Tryz.call77 Tryz.ntmps77 (by simp) (by simp [ArgsOk]) (by simp [Rz.nkL, Rz.nk]) fun en hsz hks hk0 => ?_; refine enS ?_
    (repeat (first | refine walkS ?_ | (refine ol_call1r (k := 0) ?_ rfl (HS) rfl rfl ⟨0, List.mem_cons_self⟩ ?_; (first | exact trivial | exact rfl); simp only [St.set, List.map_cons, List.map_nil, Nat.reduceAdd, Nat.reduceMul]) | (refine ow_call1d (k := 0) ?_ (fun x hx => by cases hx <;> (rw [hsz]; decide)) rfl (HS) rfl rfl ?_; (first | exact trivial | exact rfl); simp only [St.set, List.map_cons, List.map_nil, Nat.reduceAdd]) | (refine ol_call1d (k := 0) ?_ rfl (HS) rfl rfl ⟨0, List.mem_cons_self⟩ ?_; (first | exact trivial | exact rfl); simp only [St.set, List.map_cons, List.map_nil, Nat.reduceAdd])))
    refine aw_condS rfl (fun hc => ?_) (fun hc => ?_)
    · refine walkS ?_
      (refine aw_ret ?_; (simp only [Fin, Tryz.results77]; refine finS ?_); exact ⟨_, [], .inl ⟨rfl, rfl⟩, _, (chk D b (a + 1) : List Eng.D).map .d, [], rfl, toZL_d _ (chk D b (a + 1)), by simp, by rw [e2]; rfl, rfl⟩)
    · (first | exact absurd trivial hc | exact absurd rfl hc | (cases hc; done) | omega | exact absurd hc (by decide) | (simp at hc; done))
  · have e : skipP b p r.size.toNat = (p + r.size.toNat, 0) := if_neg h
    have e2 : numP r b p = (readInt ((b.drop p).take r.size.toNat) r.little, p + r.size.toNat, 0) := by rw [numP, intAt, if_neg (by omega)]
    rw [e] at HS
    refine calls_body Tryz.func77 rfl Tryz.call77 Tryz.ntmps77 (by simp) (by simp [ArgsOk]) (by simp [Rz.nkL, Rz.nk]) fun en hsz hks hk0 => ?_; refine enS ?_
    (repeat (first | refine walkS ?_ | (refine ol_call1r (k := 0) ?_ rfl (HS) rfl rfl ⟨0, List.mem_cons_self⟩ ?_; (first | exact trivial | exact rfl); simp only [St.set, List.map_cons, List.map_nil, Nat.reduceAdd, Nat.reduceMul]) | (refine ow_call1d (k := 0) ?_ (fun x hx => by cases hx <;> (rw [hsz]; decide)) rfl (HS) rfl rfl ?_; (first | exact trivial | exact rfl); simp only [St.set, List.map_cons, List.map_nil, Nat.reduceAdd]) | (refine ol_call1d (k := 0) ?_ rfl (HS) rfl rfl ⟨0, List.mem_cons_self⟩ ?_; (first | exact trivial | exact rfl); simp only [St.set, List.map_cons, List.map_nil, Nat.reduceAdd])))
    refine aw_condS rfl (fun hc => ?_) (fun hc => ?_)
    · (first | exact absurd trivial hc | exact absurd rfl hc | (cases hc; done) | omega | exact absurd hc (by decide) | (simp at hc; done))
    · (repeat (first | refine walkS ?_ | (refine callPre ?_; (first | refine callN_funS rfl (readIntI_c (l := List.take (p + r.size.toNat - p) (List.drop p b)) r.little) ?_)) | (refine callPreL ?_; (first | refine callL_funS rfl (readIntI_c (l := List.take (p + r.size.toNat - p) (List.drop p b)) r.little) ?_))))
      (refine aw_ret ?_; (simp only [Fin, Tryz.results77]; refine finS ?_); exact ⟨_, [], .inl ⟨rfl, rfl⟩, _, (chk D b (a + 1) : List Eng.D).map .d, [], rfl, toZL_d _ (chk D b (a + 1)), by simp, by rw [e2, show p + r.size.toNat - p = r.size.toNat by omega], rfl⟩)

theorem constant_c (D : List RuleD) {r : RuleD} {M : Nat} (hr : RB M r) (hM : M ≤ 1048576) {b : List UInt8} (hb : b.length ≤ 1048576) (a : Int) (p : Nat) (hp : p ≤ b.length) : AC Tryz.prog 78 [.ptr 0 0, .d (encR r), .d (iD p)] (some ((chk D b a).map .d)) (fun r' b' => r' = .d (spotD (constAt b p 0 r.bytes)) ∧ b' = some ((chk D b a).map .d)) := by
  have hl := hr.lb
  refine calls_body Tryz.func78 rfl Tryz.call78 Tryz.ntmps78 (by simp) (by simp [ArgsOk]) (by simp [Rz.nkL, Rz.nk]) fun en hsz hks hk0 => ?_; refine enS ?_
  refine walkS ?_
  refine aw_loopS [0, 2, 4, 6, 10, 11] (fun _ _ => []) (fun _ k => [(12, .d (iD (k : Nat)))]) [] (fun _ _ => []) [] (fun _ _ => []) (fun k => k ≤ r.bytes.length ∧ p + k ≤ b.length ∧ constAt b p 0 r.bytes = constAt b p k (r.bytes.drop k)) (fun k => r.bytes.length - k) (0) hks (fun _ => rfl) ⟨Nat.zero_le _, hp, rfl⟩ wkS ?_; intro x hx; refine headS ?_
  obtain ⟨hx1, hx2, hx3⟩ := hx
  refine walkS ?_
  refine aw_condS rfl (fun hk => ?_) (fun hk => ?_)
  · have hd : r.bytes.drop x = r.bytes[x]'(by omega) :: r.bytes.drop (x + 1) := List.drop_eq_getElem_cons (by omega)
    rw [hd] at hx3
    refine walkS ?_
    refine aw_condS rfl (fun hs => ?_) (fun hs => ?_)
    · refine walkS ?_
      (refine aw_ret ?_; (simp only [Fin, Tryz.results78]; refine finS ?_); exact ⟨_, [], .inl ⟨rfl, rfl⟩, _, (chk D b a : List Eng.D).map .d, [], rfl, toZL_d _ (chk D b a), by simp, by rw [hx3, constAt_short (by omega)]; rfl, rfl⟩)
    · have hi : b[p + x]? = some (b[p + x]'(by omega)) := List.getElem?_eq_getElem (by omega)
      have hpx : ((p : Int) + x).toNat = p + x := by omega
      (repeat (first | refine ctlS ?_ | (refine ol_go ?_ (fun K1 hK1 => ?_); (first | exact trivial | exact rfl); refine evS ?_; (try rw [hpx]); (first | refine ⟨_, idx_some _ hi, ?_⟩ | skip); refine hK1 _ _ ?_; clear hK1 K1) | (refine ow_go ?_ (fun x hx => by cases hx <;> (rw [hsz]; decide)) (fun K1 hK1 => ?_); (first | exact trivial | exact rfl); refine evS ?_; (try rw [hpx]); (first | refine ⟨_, idx_some _ hi, ?_⟩ | skip); refine hK1 _ ?_; clear hK1 K1) | refine skipS ?_))
      refine aw_condS rfl (fun hn => ?_) (fun hn => ?_)
      · refine walkS ?_
        (refine aw_ret ?_; (simp only [Fin, Tryz.results78]; refine finS ?_); exact ⟨_, [], .inl ⟨rfl, rfl⟩, _, (chk D b a : List Eng.D).map .d, [], rfl, toZL_d _ (chk D b a), by simp, by rw [hx3, constAt_bad (by omega) (u8_ninj hn)]; rfl, rfl⟩)
      · refine walkS ?_
        refine ⟨x + 1, ⟨by omega, by omega, by rw [hx3, constAt_step (by omega) (u8_inj hn)]⟩, by omega, ?_⟩
        exact wkS
  · refine walkS ?_
    (refine aw_ret ?_; (simp only [Fin, Tryz.results78]; refine finS ?_); exact ⟨_, [], .inl ⟨rfl, rfl⟩, _, (chk D b a : List Eng.D).map .d, [], rfl, toZL_d _ (chk D b a), by simp, by rw [hx3, List.drop_eq_nil_of_le (by omega), constAt_end, show x = r.bytes.length by omega]; rfl, rfl⟩)
end Go.Proofs.YtlcnmoolicfinaaGreatDoor.Eng
