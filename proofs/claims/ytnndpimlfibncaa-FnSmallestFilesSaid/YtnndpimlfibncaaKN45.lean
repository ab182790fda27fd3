/-
  Numbers as bytes: the program.
-/
import Derived.Test.YtnndpimlfibncaaKN44
set_option linter.unusedSimpArgs false
set_option linter.unusedVariables false
set_option linter.defProp false
set_option maxRecDepth 100000
set_option maxHeartbeats 4000000
namespace Go.Proofs.Ytnndpimlfibncaa.Eng
open Go Go.RowKit

def beC (s n t : Nat) : List D := List.replicate (s - t) (uD 0) ++ (beB t n).map uD
theorem splice_at {z x : D} {l : List D} {m : Nat} : splice ((List.replicate (m + 1) z ++ l).map A.d) [A.d x] m = (List.replicate m z ++ x :: l).map A.d := by
  have e : (List.replicate (m + 1) z ++ l).map A.d = (List.replicate m z).map A.d ++ (A.d z :: l.map A.d) := by rw [List.replicate_succ']; simp
  unfold splice
  rw [e, List.take_left' (by simp), List.drop_append]
  simp
theorem beC_step {s n t : Nat} (h : t < s) : splice ((beC s n t).map .d) [A.d (uD (UInt8.ofNat (n / 256 ^ t % 256)))] (s - 1 - t) = (beC s n (t + 1)).map .d := by
  unfold beC
  obtain ⟨m, hm⟩ : ∃ m, s - t = m + 1 := ⟨s - t - 1, by omega⟩
  rw [hm, show s - 1 - t = m by omega, splice_at, show s - (t + 1) = m by omega, beB_cons, List.map_cons]
theorem beC_len {s n t : Nat} (h : t ≤ s) : (beC s n t).length = s := by
  unfold beC
  simp [beB_len]
  omega
theorem flat_one (l : List UInt8) : (l.map fun c => [uD c]).flatten = l.map uD := by
  induction l with
  | nil => rfl
  | cons c l ih => simp only [List.map_cons, List.flatten_cons, ih, List.cons_append, List.nil_append]
private def tyF := And.intro (And.intro (And.intro (And.intro (And.intro tb22 te22) (And.intro te60 (And.intro te61 tf63_0))) (And.intro (And.intro tf63_1 (And.intro tf63_2 tf63_3)) (And.intro tf63_4 (And.intro tf63_5 tf63_6)))) (And.intro (And.intro (And.intro tf63_7 tk22) (And.intro tk3 (And.intro tk4 tk5))) (And.intro (And.intro tk60 (And.intro tk61 tk63)) (And.intro tk9 (And.intro tp63 tr22))))) (And.intro (And.intro (And.intro (And.intro tr3 tr4) (And.intro tr5 (And.intro tr60 tr61))) (And.intro (And.intro tr63 (And.intro tr9 tu22)) (And.intro tu3 (And.intro tu4 tu5)))) (And.intro (And.intro (And.intro tu60 tu61) (And.intro tu9 (And.intro tz22 tz3))) (And.intro (And.intro tz4 (And.intro tz5 tz60)) (And.intro tz61 (And.intro tz63 tz9)))))
theorem bigI_c {s n : Nat} (hs : 1 ≤ s ∧ s ≤ 4) (hn : n < 256 ^ s) : AC Try.prog 126 [.d (iD (n : Nat)), .d (iD (s : Nat))] none (fun r' _ => r' = .arr 1 s ((beB s n).map uD)) := by
  have hp : (2 : Int) ^ (8 * s) = ((256 ^ s : Nat) : Int) := by rw [Int.pow_mul]; simp
  have hb : (256 : Nat) ^ s ≤ 4294967296 := by
    obtain ⟨h1, h2⟩ := hs
    have : s = 1 ∨ s = 2 ∨ s = 3 ∨ s = 4 := by omega
    rcases this with rfl | rfl | rfl | rfl <;> decide
  have L1 : AC Try.prog 48 [.d (iD (s : Nat)), .d (iD 1), .d (iD 4)] none (fun r' _ => r' = .d (bD true)) := (inRange_c (s : Int) 1 4).eqv (r1 := .d (bD true)) (by simp; omega)
  have e0 : decide ((n : Int) < 0) = false := decide_eq_false (by omega)
  refine calls_body Try.func126 rfl Try.call126 Try.ntmps126 (by simp) (by simp [ArgsOk]) (by simp [Rz.nkL, Rz.nk]) fun en hsz hks hk0 => ?_; refine enS ?_
  have hbits : IntKind.i64.bits = 64 := rfl
  have e2 : IntKind.i64.wrap (1 * 2 ^ min (8 * (s : Int)).toNat IntKind.i64.bits) = ((256 ^ s : Nat) : Int) := by
    rw [show min (8 * (s : Int)).toNat IntKind.i64.bits = 8 * s by omega, Int.one_mul, hp, wrap64 (by omega) (by omega)]
  have h0 : List.map A.d (List.replicate s [D.v (Value.int IntKind.u8 0)]).flatten = (beC s n 0).map .d := by
    unfold beC
    rw [List.flatten_replicate_singleton]
    simp [beB, uD]
  (repeat (first | refine ctlS ?_ | (refine ol_go ?_ (fun K1 hK1 => ?_); (first | exact trivial | exact rfl); refine evS ?_; (try simp only [e0]); refine hK1 _ _ ?_; clear hK1 K1) | (refine ow_go ?_ (fun x hx => by cases hx <;> (rw [hsz]; decide)) (fun K1 hK1 => ?_); (first | exact trivial | exact rfl); refine evS ?_; (try simp only [e0]); refine hK1 _ ?_; clear hK1 K1) | refine skipS ?_ | (refine ow_make ?_ (fun x hx => by cases hx <;> (rw [hsz]; decide)) rfl rfl ?_ te22 tr5 tz5 ?_; (first | exact trivial | exact rfl); omega; simp only [St.set, List.map_cons, List.map_nil, Nat.reduceAdd]) | (refine callPre ?_; (first | refine callN_funS rfl (L1) ?_)) | (refine callPreL ?_; (first | refine callL_funS rfl (L1) ?_))))
  refine aw_condS rfl (fun h1 => ?_) (fun h1 => ?_)
  · rw [e2] at h1; omega
  (repeat (first | refine walkS ?_ | (refine ow_make ?_ (fun x hx => by cases hx <;> (rw [hsz]; decide)) rfl rfl ?_ te22 tr5 tz5 ?_; (first | exact trivial | exact rfl); omega; simp only [St.set, List.map_cons, List.map_nil, Nat.reduceAdd])))
  rw [h0]
  refine aw_loopS [4, 5] (fun _ _ => []) (fun _ y => [(0, .d (iD y.2.1)), (6, .d (iD y.2.2))]) [32] (fun _ y => [(32, some ((beC s n y.1).map .d))]) [] (fun _ _ => []) (fun y : Nat × Int × Int => y.1 ≤ s ∧ y.2.1 = ((n / 256 ^ y.1 : Nat) : Int) ∧ y.2.2 = (s : Int) - 1 - y.1) (fun y => s - y.1) ((0, (n : Int), (s : Int) - 1)) hks (fun _ => rfl) (⟨Nat.zero_le _, by simp, by simp⟩) wkS ?_; intro x hx; refine headS ?_
  obtain ⟨x, v, i⟩ := x
  simp only at hx ⊢
  obtain ⟨hx, rfl, rfl⟩ := hx
  (repeat (first | refine walkS ?_ | (refine ow_make ?_ (fun x hx => by cases hx <;> (rw [hsz]; decide)) rfl rfl ?_ te22 tr5 tz5 ?_; (first | exact trivial | exact rfl); omega; simp only [St.set, List.map_cons, List.map_nil, Nat.reduceAdd])))
  refine aw_condS rfl (fun hk => ?_) (fun hk => ?_)
  · have hx' : x < s := by omega
    have hB := beC_step (n := n) hx'
    have hA := beC_len (n := n) hx
    have e3 : ((s : Int) - 1 - (x : Nat)).toNat * 1 = s - 1 - x := by omega
    have e4 : (((n / 256 ^ x : Nat) : Int)).fdiv (2 ^ min (8 : Int).toNat IntKind.i64.bits) = ((n / 256 ^ (x + 1) : Nat) : Int) := by
      rw [show min (8 : Int).toNat IntKind.i64.bits = 8 by rfl, fdiv_pow, Nat.div_div_eq_div_mul, Nat.pow_succ 256 x]
    have e5 : (((n / 256 ^ x : Nat) : Int)).fdiv (2 ^ min 8 IntKind.i64.bits) = ((n / 256 ^ (x + 1) : Nat) : Int) := e4
    (repeat (first | refine ctlS ?_ | (refine ol_go ?_ (fun K1 hK1 => ?_); (first | exact trivial | exact rfl); refine evS ?_; (try simp only [e3, e4, e5, u8_wrap]); (try rw [hB]); refine hK1 _ _ ?_; clear hK1 K1) | (refine ow_go ?_ (fun x hx => by cases hx <;> (rw [hsz]; decide)) (fun K1 hK1 => ?_); (first | exact trivial | exact rfl); refine evS ?_; (try simp only [e3, e4, e5, u8_wrap]); (try rw [hB]); refine hK1 _ ?_; clear hK1 K1) | refine skipS ?_ | (refine ow_make ?_ (fun x hx => by cases hx <;> (rw [hsz]; decide)) rfl rfl ?_ te22 tr5 tz5 ?_; (first | exact trivial | exact rfl); omega; simp only [St.set, List.map_cons, List.map_nil, Nat.reduceAdd])))
    refine ⟨(x + 1, ((n / 256 ^ (x + 1) : Nat) : Int), (s : Int) - 1 - (x + 1 : Nat)), ⟨by simp only; omega, rfl, rfl⟩, by simp only; omega, ?_⟩
    rw [show (s : Int) - 1 - x - 1 = (s : Int) - 1 - (x + 1 : Nat) by omega]
    exact wkS
  · have hxs : x = s := by omega
    subst hxs
    (repeat (first | refine walkS ?_ | (refine ow_make ?_ (fun x hx => by cases hx <;> (rw [hsz]; decide)) rfl rfl ?_ te22 tr5 tz5 ?_; (first | exact trivial | exact rfl); omega; simp only [St.set, List.map_cons, List.map_nil, Nat.reduceAdd])))
    (refine aw_ret ?_; (simp only [Fin, Try.results126]; refine finS ?_); exact ⟨_, _, .inl (toZ_arr (ds := beC x n x) rfl), by simp, by unfold beC; simp⟩)
theorem bigI_d {s n : Nat} (hs : 1 ≤ s ∧ s ≤ 4) (hn : n < 256 ^ s) : AC Try.prog 126 [.d (iD (n : Nat)), .d (iD (s : Nat))] none (fun r' _ => r' = .d (encB (beB s n))) :=
  (bigI_c hs hn).frz (es := (beB s n).map fun c => [uD c]) (flat_one _) (fun e he => by obtain ⟨c, _, rfl⟩ := List.mem_map.1 he; rfl) (by simp [beB_len])
def swp (l : List UInt8) (x : Nat) : List UInt8 := (l.reverse.take x) ++ (l.drop x).take (l.length - 2 * x) ++ l.reverse.drop (l.length - x)
theorem swp_0 (l : List UInt8) : swp l 0 = l := by simp [swp]
theorem swp_end {l : List UInt8} {x : Nat} (h1 : 2 * x ≤ l.length) (h2 : l.length ≤ 2 * x + 1) (h4 : l.length ≤ 4) : swp l x = l.reverse := by
  match l, x with
  | [], 0 => rfl
  | [_], 0 => rfl
  | [_, _], 1 => rfl
  | [_, _, _], 1 => rfl
  | [_, _, _, _], 2 => rfl
  | [], x + 1 => simp at h1
  | [_], x + 1 => simp at h1; omega
  | [_, _], 0 => simp at h2
  | [_, _], x + 2 => simp at h1; omega
  | [_, _, _], 0 => simp at h2
  | [_, _, _], x + 2 => simp at h1; omega
  | [_, _, _, _], 0 => simp at h2
  | [_, _, _, _], 1 => simp at h2
  | [_, _, _, _], x + 3 => simp at h1; omega
  | _ :: _ :: _ :: _ :: _ :: _, _ => simp at h4
theorem littleI_c {s n : Nat} (hs : 1 ≤ s ∧ s ≤ 4) (hn : n < 256 ^ s) : AC Try.prog 125 [.d (iD (n : Nat)), .d (iD (s : Nat))] none (fun r' _ => r' = .arr 1 s ((beB s n).reverse.map uD)) := by
  have HB := bigI_c hs hn
  have hl := beB_l s n
  generalize beB s n = b at HB hl
  have hc : s = 1 ∨ s = 2 ∨ s = 3 ∨ s = 4 := by omega
  refine calls_body Try.func125 rfl Try.call125 Try.ntmps125 (by simp) (by simp [ArgsOk]) (by simp [Rz.nkL, Rz.nk]) fun en hsz hks hk0 => ?_; refine enS ?_
  (repeat (first | refine walkS ?_ | (refine callPre ?_; (first | refine callN_funS rfl (HB) ?_)) | (refine callPreL ?_; (first | refine callL_funS rfl (HB) ?_))))
  rw [show List.map A.d (List.map uD b) = List.map A.d (List.map uD (swp b 0)) by rw [swp_0]]
  refine aw_loopS [4, 5] (fun _ _ => []) (fun _ y => [(6, .d (iD y.2.1)), (7, .d (iD y.2.2))]) [16] (fun _ y => [(16, some (((swp b y.1).map uD).map .d))]) [] (fun _ _ => []) (fun y : Nat × Int × Int => 2 * y.1 ≤ s ∧ y.2.1 = y.1 ∧ y.2.2 = (s : Int) - 1 - y.1) (fun y => s - y.1) ((0, (0 : Int), (s : Int) - 1)) hks (fun _ => rfl) (⟨Nat.zero_le _, rfl, by simp⟩) wkS ?_; intro x hx; refine headS ?_
  obtain ⟨x, i, j⟩ := x
  simp only at hx ⊢
  obtain ⟨hx, rfl, rfl⟩ := hx
  by_cases hlt : 2 * x + 1 < s
  · have hcs : (s = 2 ∧ x = 0) ∨ (s = 3 ∧ x = 0) ∨ (s = 4 ∧ x = 0) ∨ (s = 4 ∧ x = 1) := by omega
    rcases hcs with ⟨rfl, rfl⟩ | ⟨rfl, rfl⟩ | ⟨rfl, rfl⟩ | ⟨rfl, rfl⟩
    · obtain ⟨p, q, rfl⟩ : ∃ p q, b = [p, q] := by match b, hl with | [p, q], _ => exact ⟨p, q, rfl⟩
      rw [show swp [p, q] 0 = [p, q] from rfl, show ((2 : Nat) : Int) - 1 - ((0 : Nat) : Int) = 1 by decide, show ((0 : Nat) : Int) = 0 by decide]
      simp only [List.map_cons, List.map_nil]
      refine walkS ?_
      refine aw_condS rfl (fun hk => ?_) (fun hk => ?_)
      · refine walkS ?_
        refine ⟨(1, ((0 : Int) + 1), ((1 : Int) - 1)), ⟨by decide, by decide, by decide⟩, by decide, ?_⟩
        rw [show swp [p, q] 1 = [q, p] from rfl]
        exact wkS
      · cases hk
    · obtain ⟨p, q, r, rfl⟩ : ∃ p q r, b = [p, q, r] := by match b, hl with | [p, q, r], _ => exact ⟨p, q, r, rfl⟩
      rw [show swp [p, q, r] 0 = [p, q, r] from rfl, show ((3 : Nat) : Int) - 1 - ((0 : Nat) : Int) = 2 by decide, show ((0 : Nat) : Int) = 0 by decide]
      simp only [List.map_cons, List.map_nil]
      refine walkS ?_
      refine aw_condS rfl (fun hk => ?_) (fun hk => ?_)
      · refine walkS ?_
        refine ⟨(1, ((0 : Int) + 1), ((2 : Int) - 1)), ⟨by decide, by decide, by decide⟩, by decide, ?_⟩
        rw [show swp [p, q, r] 1 = [r, q, p] from rfl]
        exact wkS
      · cases hk
    · obtain ⟨p, q, r, t, rfl⟩ : ∃ p q r t, b = [p, q, r, t] := by match b, hl with | [p, q, r, t], _ => exact ⟨p, q, r, t, rfl⟩
      rw [show swp [p, q, r, t] 0 = [p, q, r, t] from rfl, show ((4 : Nat) : Int) - 1 - ((0 : Nat) : Int) = 3 by decide, show ((0 : Nat) : Int) = 0 by decide]
      simp only [List.map_cons, List.map_nil]
      refine walkS ?_
      refine aw_condS rfl (fun hk => ?_) (fun hk => ?_)
      · refine walkS ?_
        refine ⟨(1, ((0 : Int) + 1), ((3 : Int) - 1)), ⟨by decide, by decide, by decide⟩, by decide, ?_⟩
        rw [show swp [p, q, r, t] 1 = [t, q, r, p] from rfl]
        exact wkS
      · cases hk
    · obtain ⟨p, q, r, t, rfl⟩ : ∃ p q r t, b = [p, q, r, t] := by match b, hl with | [p, q, r, t], _ => exact ⟨p, q, r, t, rfl⟩
      rw [show swp [p, q, r, t] 1 = [t, q, r, p] from rfl, show ((4 : Nat) : Int) - 1 - ((1 : Nat) : Int) = 2 by decide, show ((1 : Nat) : Int) = 1 by decide]
      simp only [List.map_cons, List.map_nil]
      refine walkS ?_
      refine aw_condS rfl (fun hk => ?_) (fun hk => ?_)
      · refine walkS ?_
        refine ⟨(2, ((1 : Int) + 1), ((2 : Int) - 1)), ⟨by decide, by decide, by decide⟩, by decide, ?_⟩
        rw [show swp [p, q, r, t] 2 = [t, r, q, p] from rfl]
        exact wkS
      · cases hk
  · refine walkS ?_
    refine aw_condS rfl (fun hk => ?_) (fun hk => ?_)
    · omega
    · rw [swp_end (l := b) (x := x) (by omega) (by omega) (by omega)]
      refine walkS ?_
      (refine aw_ret ?_; (simp only [Fin, Try.results125]; refine finS ?_); exact ⟨_, _, .inl (toZ_arr (ds := b.reverse.map uD) rfl), by simp, rfl⟩)
theorem littleI_d {s n : Nat} (hs : 1 ≤ s ∧ s ≤ 4) (hn : n < 256 ^ s) : AC Try.prog 125 [.d (iD (n : Nat)), .d (iD (s : Nat))] none (fun r' _ => r' = .d (encB (beB s n).reverse)) :=
  (littleI_c hs hn).frz (es := (beB s n).reverse.map fun c => [uD c]) (flat_one _) (fun e he => by obtain ⟨c, _, rfl⟩ := List.mem_map.1 he; rfl) (by simp [beB_len])
theorem encInt_c {r : RuleD} {n : Nat} (hs : 1 ≤ r.size ∧ r.size ≤ 4) (hn : (n : Int) < 2 ^ (8 * r.size.toNat)) : AC Try.prog 79 [.d (encR r), .d (iD (n : Nat))] none (fun r' _ => r' = .d (encB (intB r n))) := by
  have HB := bigI_d (s := r.size.toNat) (by omega) (pow_fit hs hn)
  have HL := littleI_d (s := r.size.toNat) (by omega) (pow_fit hs hn)
  rw [Int.toNat_of_nonneg (by omega)] at HB HL
  cases hl : r.little with
  | true =>
    refine calls_body Try.func79 rfl Try.call79 Try.ntmps79 (by simp) (by simp [ArgsOk]) (by simp [Rz.nkL, Rz.nk]) fun en hsz hks hk0 => ?_; refine enS ?_
    refine walkS ?_
    refine aw_condS rfl (fun h => ?_) (fun h => ?_)
    · (repeat (first | refine walkS ?_ | (refine callPre ?_; (first | refine callN_funS rfl (HL) ?_)) | (refine callPreL ?_; (first | refine callL_funS rfl (HL) ?_))))
      (refine aw_ret ?_; (simp only [Fin, Try.results79]; refine finS ?_); exact ⟨_, _, .inl ⟨rfl, rfl⟩, List.nodup_nil, by rw [intB, if_pos hl]⟩)
    · rw [hl] at h; cases h
  | false =>
    refine calls_body Try.func79 rfl Try.call79 Try.ntmps79 (by simp) (by simp [ArgsOk]) (by simp [Rz.nkL, Rz.nk]) fun en hsz hks hk0 => ?_; refine enS ?_
    refine walkS ?_
    refine aw_condS rfl (fun h => ?_) (fun h => ?_)
    · rw [hl] at h; cases h
    · (repeat (first | refine walkS ?_ | (refine callPre ?_; (first | refine callN_funS rfl (HB) ?_)) | (refine callPreL ?_; (first | refine callL_funS rfl (HB) ?_))))
      (refine aw_ret ?_; (simp only [Fin, Try.results79]; refine finS ?_); exact ⟨_, _, .inl ⟨rfl, rfl⟩, List.nodup_nil, by rw [intB, if_neg (by rw [hl]; decide)]⟩)
end Go.Proofs.Ytnndpimlfibncaa.Eng
