/-
  The program's reader: errors, integers, consts, bytes.
-/
import Derived.Test.YtoegmaebdihnaaaGreatDoorKN4
import Derived.Test.YtoegmaebdihnaaaGreatDoorKN9
import Derived.Test.YtoegmaebdihnaaaGreatDoorKE29
set_option linter.unusedSimpArgs false
set_option linter.unusedVariables false
namespace Go.Proofs.YtoegmaebdihnaaaGreatDoor.Eng
open Go Go.RowKit

/-- An error of reading. -/
abbrev erD (q c : Int) : D := .ifc 86 (.rp [iD q, iD c])
abbrev nilE : D := .v .nilIface
/-- The error of a code: none at 0. -/
def eD (q c : Nat) : D := if c = 0 then nilE else erD q c
theorem eD_0 (q : Nat) : eD q 0 = nilE := rfl
theorem eD_p {q c : Nat} (h : c ≠ 0) : eD q c = erD q c := if_neg h
/-- What reading a value hands back; m: where an item that failed begins. -/
abbrev rdE (m : Nat) (x : V × Nat × Nat) : Rz := .d (.tup [encV x.1, iD m, eD x.2.1 x.2.2])
/-- The reader. -/
abbrev frD (D : List RuleD) (b : List UInt8) : Eng.D := .rp [encDs D, encB b]

private theorem tyF : ((((((bytesT Tryz.prog 25 = true ∧ tyElem Tryz.prog 104 = some 9) ∧ (tyElem Tryz.prog 25 = some 5 ∧ (tyElem Tryz.prog 28 = some 107 ∧ tyElem Tryz.prog 39 = some 41))) ∧ ((tyElem Tryz.prog 54 = some 3 ∧ (tyField Tryz.prog 107 0 = some (0, 9) ∧ tyField Tryz.prog 107 1 = some (1, 3))) ∧ (tyField Tryz.prog 107 2 = some (2, 3) ∧ (tyField Tryz.prog 107 3 = some (3, 4) ∧ tyField Tryz.prog 107 4 = some (4, 25))))) ∧ (((tyField Tryz.prog 107 5 = some (5, 104) ∧ tyField Tryz.prog 107 6 = some (6, 54)) ∧ (tyField Tryz.prog 107 7 = some (7, 54) ∧ (tyField Tryz.prog 30 0 = some (0, 28) ∧ tyField Tryz.prog 41 0 = some (0, 3)))) ∧ ((tyField Tryz.prog 41 1 = some (1, 25) ∧ (tyField Tryz.prog 41 2 = some (2, 39) ∧ tyField Tryz.prog 81 0 = some (0, 30))) ∧ (tyField Tryz.prog 81 1 = some (1, 25) ∧ (tyField Tryz.prog 90 0 = some (0, 3) ∧ tyField Tryz.prog 90 1 = some (1, 3)))))) ∧ ((((tyK Tryz.prog 104 = some (false, 1) ∧ tyK Tryz.prog 107 = some (true, 8)) ∧ (tyK Tryz.prog 25 = some (false, 1) ∧ (tyK Tryz.prog 28 = some (false, 1) ∧ tyK Tryz.prog 3 = some (false, 1)))) ∧ ((tyK Tryz.prog 30 = some (true, 1) ∧ (tyK Tryz.prog 39 = some (false, 1) ∧ tyK Tryz.prog 4 = some (false, 1))) ∧ (tyK Tryz.prog 41 = some (true, 3) ∧ (tyK Tryz.prog 5 = some (false, 1) ∧ tyK Tryz.prog 54 = some (false, 1))))) ∧ (((tyK Tryz.prog 79 = some (false, 1) ∧ (tyK Tryz.prog 81 = some (true, 2) ∧ tyK Tryz.prog 83 = some (false, 1))) ∧ (tyK Tryz.prog 86 = some (false, 1) ∧ (tyK Tryz.prog 9 = some (false, 1) ∧ tyK Tryz.prog 90 = some (true, 2)))) ∧ ((tyPlaces Tryz.prog 107 = some [(0, 1), (1, 1), (2, 1), (3, 1), (4, 1), (5, 1), (6, 1), (7, 1)] ∧ (tyPlaces Tryz.prog 30 = some [(0, 1)] ∧ tyPlaces Tryz.prog 41 = some [(0, 1), (1, 1), (2, 1)])) ∧ (tyPlaces Tryz.prog 81 = some [(0, 1), (1, 1)] ∧ (tyPlaces Tryz.prog 90 = some [(0, 1), (1, 1)] ∧ tyFlat Tryz.prog 90 = some [0, 0])))))) ∧ (((((tyRow Tryz.prog 104 = some 1 ∧ tyRow Tryz.prog 107 = some 8) ∧ (tyRow Tryz.prog 25 = some 1 ∧ (tyRow Tryz.prog 28 = some 1 ∧ tyRow Tryz.prog 3 = some 1))) ∧ ((tyRow Tryz.prog 30 = some 1 ∧ (tyRow Tryz.prog 39 = some 1 ∧ tyRow Tryz.prog 4 = some 1)) ∧ (tyRow Tryz.prog 41 = some 3 ∧ (tyRow Tryz.prog 5 = some 1 ∧ tyRow Tryz.prog 54 = some 1)))) ∧ (((tyRow Tryz.prog 79 = some 1 ∧ (tyRow Tryz.prog 81 = some 2 ∧ tyRow Tryz.prog 83 = some 1)) ∧ (tyRow Tryz.prog 86 = some 1 ∧ (tyRow Tryz.prog 9 = some 1 ∧ tyRow Tryz.prog 90 = some 2))) ∧ ((Tryz.prog.underlying 104 = some (TypeDesc.slice 9) ∧ (Tryz.prog.underlying 25 = some (TypeDesc.slice 5) ∧ Tryz.prog.underlying 28 = some (TypeDesc.slice 107))) ∧ (Tryz.prog.underlying 3 = some (TypeDesc.int IntKind.i64) ∧ (Tryz.prog.underlying 39 = some (TypeDesc.slice 41) ∧ Tryz.prog.underlying 4 = some (TypeDesc.bool)))))) ∧ ((((Tryz.prog.underlying 5 = some (TypeDesc.int IntKind.u8) ∧ Tryz.prog.underlying 54 = some (TypeDesc.slice 3)) ∧ (Tryz.prog.underlying 79 = some (TypeDesc.pointer 81) ∧ (Tryz.prog.underlying 83 = some (TypeDesc.interface #[("Error", 222)]) ∧ Tryz.prog.underlying 86 = some (TypeDesc.pointer 90)))) ∧ ((Tryz.prog.underlying 9 = some (TypeDesc.string) ∧ (tyZero Tryz.prog 104 = some [Value.slice none 0 0] ∧ tyZero Tryz.prog 107 = some [Value.string ByteArray.empty, Value.int IntKind.i64 0, Value.int IntKind.i64 0, Value.bool false, Value.slice none 0 0, Value.slice none 0 0, Value.slice none 0 0, Value.slice none 0 0])) ∧ (tyZero Tryz.prog 25 = some [Value.slice none 0 0] ∧ (tyZero Tryz.prog 28 = some [Value.slice none 0 0] ∧ tyZero Tryz.prog 3 = some [Value.int IntKind.i64 0])))) ∧ (((tyZero Tryz.prog 30 = some [Value.slice none 0 0] ∧ (tyZero Tryz.prog 39 = some [Value.slice none 0 0] ∧ tyZero Tryz.prog 4 = some [Value.bool false])) ∧ (tyZero Tryz.prog 41 = some [Value.int IntKind.i64 0, Value.slice none 0 0, Value.slice none 0 0] ∧ (tyZero Tryz.prog 5 = some [Value.int IntKind.u8 0] ∧ tyZero Tryz.prog 54 = some [Value.slice none 0 0]))) ∧ ((tyZero Tryz.prog 79 = some [Value.pointer none] ∧ (tyZero Tryz.prog 81 = some [Value.slice none 0 0, Value.slice none 0 0] ∧ tyZero Tryz.prog 83 = some [Value.nilIface])) ∧ (tyZero Tryz.prog 86 = some [Value.pointer none] ∧ (tyZero Tryz.prog 9 = some [Value.string ByteArray.empty] ∧ tyZero Tryz.prog 90 = some [Value.int IntKind.i64 0, Value.int IntKind.i64 0]))))))) := ⟨⟨⟨⟨⟨⟨tb25, te104⟩, ⟨te25, ⟨te28, te39⟩⟩⟩, ⟨⟨te54, ⟨tf107_0, tf107_1⟩⟩, ⟨tf107_2, ⟨tf107_3, tf107_4⟩⟩⟩⟩, ⟨⟨⟨tf107_5, tf107_6⟩, ⟨tf107_7, ⟨tf30_0, tf41_0⟩⟩⟩, ⟨⟨tf41_1, ⟨tf41_2, tf81_0⟩⟩, ⟨tf81_1, ⟨tf90_0, tf90_1⟩⟩⟩⟩⟩, ⟨⟨⟨⟨tk104, tk107⟩, ⟨tk25, ⟨tk28, tk3⟩⟩⟩, ⟨⟨tk30, ⟨tk39, tk4⟩⟩, ⟨tk41, ⟨tk5, tk54⟩⟩⟩⟩, ⟨⟨⟨tk79, ⟨tk81, tk83⟩⟩, ⟨tk86, ⟨tk9, tk90⟩⟩⟩, ⟨⟨tp107, ⟨tp30, tp41⟩⟩, ⟨tp81, ⟨tp90, tq90⟩⟩⟩⟩⟩⟩, ⟨⟨⟨⟨⟨tr104, tr107⟩, ⟨tr25, ⟨tr28, tr3⟩⟩⟩, ⟨⟨tr30, ⟨tr39, tr4⟩⟩, ⟨tr41, ⟨tr5, tr54⟩⟩⟩⟩, ⟨⟨⟨tr79, ⟨tr81, tr83⟩⟩, ⟨tr86, ⟨tr9, tr90⟩⟩⟩, ⟨⟨tu104, ⟨tu25, tu28⟩⟩, ⟨tu3, ⟨tu39, tu4⟩⟩⟩⟩⟩, ⟨⟨⟨⟨tu5, tu54⟩, ⟨tu79, ⟨tu83, tu86⟩⟩⟩, ⟨⟨tu9, ⟨tz104, tz107⟩⟩, ⟨tz25, ⟨tz28, tz3⟩⟩⟩⟩, ⟨⟨⟨tz30, ⟨tz39, tz4⟩⟩, ⟨tz41, ⟨tz5, tz54⟩⟩⟩, ⟨⟨tz79, ⟨tz81, tz83⟩⟩, ⟨tz86, ⟨tz9, tz90⟩⟩⟩⟩⟩⟩⟩
set_option maxRecDepth 100000 in
theorem fail_c (q c : Int) : AC Tryz.prog 119 [.d (iD q), .d (iD c)] none (fun r' _ => r' = .d (erD q c)) := by
  refine calls_body Tryz.func119 rfl Tryz.call119 Tryz.ntmps119 (by simp) (by simp [ArgsOk]) (by simp [Rz.nkL, Rz.nk]) fun en hsz hks hk0 => ?_; simp only [St.init, frOf, Rz.addSL, Rz.addS, Rz.toAL, Rz.toA, Rz.nk, List.zipIdx_cons, List.zipIdx_nil, List.map_cons, List.map_nil, Nat.zero_add, Nat.reduceAdd]
  refine walkS ?_
  refine aw_freezeI 4 16 _ [iD q, iD c] rfl rfl hks (by decide) ?_
  (refine aw_ret ?_; (simp only [Fin, Tryz.results119]; refine finS ?_); exact ⟨_, _, .inl ⟨rfl, rfl⟩, List.nodup_nil, rfl⟩)

section
variable {M : Nat} {D : List RuleD} {b : List UInt8}
set_option maxRecDepth 100000 in
theorem take_c (hb : b.length ≤ 1048576) (p : Nat) (hp : p ≤ b.length) (n : Int) (hn : 0 ≤ n ∧ n ≤ 4294967296) : AC Tryz.prog 150 [.d (frD D b), .d (iD p), .d (iD n)] none (fun r' _ => r' = if (b.length : Int) - p < n then .d (.tup [encB [], erD p 1]) else .d (.tup [encB ((b.drop p).take n.toNat), nilE])) := by
  refine calls_body Tryz.func150 rfl Tryz.call150 Tryz.ntmps150 (by simp) (by simp [ArgsOk]) (by simp [Rz.nkL, Rz.nk]) fun en hsz hks hk0 => ?_; simp only [St.init, frOf, Rz.addSL, Rz.addS, Rz.toAL, Rz.toA, Rz.nk, List.zipIdx_cons, List.zipIdx_nil, List.map_cons, List.map_nil, Nat.zero_add, Nat.reduceAdd]
  refine walkS ?_
  refine aw_condS rfl (fun h => ?_) (fun h => ?_)
  · (repeat (first | refine walkS ?_ | (refine callPre ?_; (first | refine callN_funS rfl (fail_c p 1) ?_)) | (refine callPreL ?_; (first | refine callL_funS rfl (fail_c p 1) ?_))))
    (refine aw_ret ?_; (simp only [Fin, Tryz.results150]; refine finS ?_); refine ⟨_, [], .inr (.inl ⟨.tup [encB [], erD p 1], rfl, rfl, ?_⟩), List.nodup_nil, by rw [if_pos (by omega)]⟩; exact wkDS)
  · refine walkS ?_
    (refine aw_ret ?_; (simp only [Fin, Tryz.results150]; refine finS ?_); exact ⟨_, _, .inl ⟨rfl, rfl⟩, List.nodup_nil, by rw [if_neg (by omega), show ((p : Int) + n).toNat - p = n.toNat by omega]⟩)

/-- What reading an integer hands back. -/
abbrev intE (x : Option Nat) (s p : Nat) : Rz := match x with
  | some n => .d (.tup [iD n, iD (p + s : Nat), nilE])
  | none => .d (.tup [iD 0, iD p, erD p 1])
theorem intAt_no {r : RuleD} {p : Nat} (h : (b.length : Int) - p < r.size) : intAt r b p = none := by simp [intAt, h]
theorem intAt_yes {r : RuleD} {p : Nat} (h : ¬ (b.length : Int) - p < r.size) : intAt r b p = some (readInt ((b.drop p).take r.size.toNat) r.little) := by simp [intAt, h]
set_option maxRecDepth 100000 in
set_option maxHeartbeats 400000 in
theorem integerI_c (hD : DB M D) (hM : M ≤ 1048576) (hb : b.length ≤ 1048576) {n : Nat} {r : RuleD} (hr : D[n]? = some r) (hsz' : 1 ≤ r.size ∧ r.size ≤ 4) (p : Nat) (hp : p ≤ b.length) : AC Tryz.prog 110 [.d (frD D b), .d (iD n), .d (iD p)] none (fun r' _ => r' = intE (intAt r b p) r.size.toNat p) := by
  have HT := take_c (D := D) hb p hp r.size ⟨by omega, by omega⟩
  by_cases h : (b.length : Int) - p < r.size
  · rw [if_pos h] at HT
    rw [intAt_no h]
    refine calls_body Tryz.func110 rfl Tryz.call110 Tryz.ntmps110 (by simp) (by simp [ArgsOk]) (by simp [Rz.nkL, Rz.nk]) fun en hsz hks hk0 => ?_; simp only [St.init, frOf, Rz.addSL, Rz.addS, Rz.toAL, Rz.toA, Rz.nk, List.zipIdx_cons, List.zipIdx_nil, List.map_cons, List.map_nil, Nat.zero_add, Nat.reduceAdd]
    (repeat (first | refine walkS ?_ | (refine callPre ?_; (first | refine callN_funS rfl (HT) ?_)) | (refine callPreL ?_; (first | refine callL_funS rfl (HT) ?_))))
    refine aw_condS rfl (fun hc => ?_) (fun hc => ?_)
    · refine walkS ?_
      (refine aw_ret ?_; (simp only [Fin, Tryz.results110]; refine finS ?_); exact ⟨_, _, .inl ⟨rfl, rfl⟩, List.nodup_nil, rfl⟩)
    · (first | exact absurd trivial hc | exact absurd rfl hc | (cases hc; done) | omega | exact absurd hc (by decide) | (simp at hc; done))
  · rw [if_neg h] at HT
    rw [intAt_yes h]
    have hlen : (List.take r.size.toNat (List.drop p b)).length ≤ 4 := by simp; omega
    refine calls_body Tryz.func110 rfl Tryz.call110 Tryz.ntmps110 (by simp) (by simp [ArgsOk]) (by simp [Rz.nkL, Rz.nk]) fun en hsz hks hk0 => ?_; simp only [St.init, frOf, Rz.addSL, Rz.addS, Rz.toAL, Rz.toA, Rz.nk, List.zipIdx_cons, List.zipIdx_nil, List.map_cons, List.map_nil, Nat.zero_add, Nat.reduceAdd]
    (repeat (first | refine walkS ?_ | (refine callPre ?_; (first | refine callN_funS rfl (HT) ?_)) | (refine callPreL ?_; (first | refine callL_funS rfl (HT) ?_))))
    refine aw_condS rfl (fun hc => ?_) (fun hc => ?_)
    · (first | exact absurd trivial hc | exact absurd rfl hc | (cases hc; done) | omega | exact absurd hc (by decide) | (simp at hc; done))
    · (repeat (first | refine walkS ?_ | (refine callPre ?_; (first | refine callN_funS rfl (readIntI_c r.little) ?_)) | (refine callPreL ?_; (first | refine callL_funS rfl (readIntI_c r.little) ?_))))
      (refine aw_ret ?_; (simp only [Fin, Tryz.results110]; refine finS ?_); exact ⟨_, _, .inl ⟨rfl, rfl⟩, List.nodup_nil, by simp only [intE]; rw [show ((p + r.size.toNat : Nat) : Int) = p + r.size by omega]⟩)

set_option maxRecDepth 100000 in
set_option maxHeartbeats 400000 in
theorem constantI_c {r : RuleD} (hr : RB M r) (hM : M ≤ 1048576) (hb : b.length ≤ 1048576) (p : Nat) (hp : p ≤ b.length) : AC Tryz.prog 111 [.d (frD D b), .d (encR r), .d (iD p)] none (fun r' _ => r' = .d (.tup [iD (if (constAt b p 0 r.bytes).2 = 0 then (constAt b p 0 r.bytes).1 else p : Nat), eD (constAt b p 0 r.bytes).1 (constAt b p 0 r.bytes).2])) := by
  have hl := hr.lb
  refine calls_body Tryz.func111 rfl Tryz.call111 Tryz.ntmps111 (by simp) (by simp [ArgsOk]) (by simp [Rz.nkL, Rz.nk]) fun en hsz hks hk0 => ?_; simp only [St.init, frOf, Rz.addSL, Rz.addS, Rz.toAL, Rz.toA, Rz.nk, List.zipIdx_cons, List.zipIdx_nil, List.map_cons, List.map_nil, Nat.zero_add, Nat.reduceAdd]
  refine walkS ?_
  refine aw_loopS [0, 2, 4, 6, 7, 11, 12] (fun _ _ => []) (fun _ k => [(13, .d (iD (k : Nat)))]) [] (fun _ _ => []) [] (fun _ _ => []) (fun k => k ≤ r.bytes.length ∧ p + k ≤ b.length ∧ constAt b p 0 r.bytes = constAt b p k (r.bytes.drop k)) (fun k => r.bytes.length - k) (0) hks (fun _ => rfl) ⟨Nat.zero_le _, hp, rfl⟩ wkS ?_; intro x hx; simp (decide := true) only [St.head, List.map_cons, List.map_nil, lk, rmv, List.cons_append, List.nil_append, List.append_nil, reduceIte, Nat.reduceAdd]
  obtain ⟨hx1, hx2, hx3⟩ := hx
  refine walkS ?_
  refine aw_condS rfl (fun hk => ?_) (fun hk => ?_)
  · have hd : r.bytes.drop x = r.bytes[x]'(by omega) :: r.bytes.drop (x + 1) := List.drop_eq_getElem_cons (by omega)
    rw [hd] at hx3
    refine walkS ?_
    refine aw_condS rfl (fun hs => ?_) (fun hs => ?_)
    · (repeat (first | refine walkS ?_ | (refine callPre ?_; (first | refine callN_funS rfl (fail_c p 1) ?_)) | (refine callPreL ?_; (first | refine callL_funS rfl (fail_c p 1) ?_))))
      (refine aw_ret ?_; (simp only [Fin, Tryz.results111]; refine finS ?_); exact ⟨_, _, .inl ⟨rfl, rfl⟩, List.nodup_nil, by rw [hx3, constAt_short (by omega)]; rfl⟩)
    · have hi : b[p + x]? = some (b[p + x]'(by omega)) := List.getElem?_eq_getElem (by omega)
      have hpx : ((p : Int) + x).toNat = p + x := by omega
      (repeat (first | refine aw_seq ?_ | refine aw_region ?_ | refine aw_block ?_ | (refine aw_exit ?_; (try simp (decide := true) only [reduceIte])) | (refine aw_skip ?_; try dsimp only) | (refine aw_any (by kernel_rfl) (by kernel_rfl) (by simp only [hsz]; kernel_rfl) ?_) | (refine ow_nil ?_; try dsimp only) | (refine ol_go ?_ (fun K1 hK1 => ?_); (first | exact trivial | exact rfl); refine evS ?_; (try rw [hpx]); (first | refine ⟨_, idx_some _ hi, ?_⟩ | skip); refine hK1 _ _ ?_; clear hK1 K1) | (refine ol_skip rfl rfl ?_ ?_; (focus (intro hne; cases hne; done)); simp only [St.set]) | (refine ol_nil ⟨by kernel_rfl, ?_⟩; try dsimp only) | (refine ow_go ?_ (fun x hx => by cases hx <;> (rw [hsz]; decide)) (fun K1 hK1 => ?_); (first | exact trivial | exact rfl); refine evS ?_; (try rw [hpx]); (first | refine ⟨_, idx_some _ hi, ?_⟩ | skip); refine hK1 _ ?_; clear hK1 K1) | (refine ow_skip rfl rfl ?_ (fun x hx => by cases hx <;> (rw [hsz]; decide)) ?_; (focus (intro hne; cases hne; done)); simp only [St.set])))
      refine aw_condS rfl (fun hn => ?_) (fun hn => ?_)
      · (repeat (first | refine walkS ?_ | (refine callPre ?_; (first | refine callN_funS rfl (fail_c ((p : Int) + x) 2) ?_)) | (refine callPreL ?_; (first | refine callL_funS rfl (fail_c ((p : Int) + x) 2) ?_))))
        (refine aw_ret ?_; (simp only [Fin, Tryz.results111]; refine finS ?_); exact ⟨_, _, .inl ⟨rfl, rfl⟩, List.nodup_nil, by rw [hx3, constAt_bad (by omega) (u8_ninj hn)]; rfl⟩)
      · refine walkS ?_
        refine ⟨x + 1, ⟨by omega, by omega, by rw [hx3, constAt_step (by omega) (u8_inj hn)]⟩, by omega, ?_⟩
        exact wkS
  · refine walkS ?_
    (refine aw_ret ?_; (simp only [Fin, Tryz.results111]; refine finS ?_); exact ⟨_, _, .inl ⟨rfl, rfl⟩, List.nodup_nil, by rw [hx3, List.drop_eq_nil_of_le (by omega), constAt_end, show x = r.bytes.length by omega]; rfl⟩)

set_option maxRecDepth 100000 in
set_option maxHeartbeats 400000 in
theorem contentI_c (hb : b.length ≤ 1048576) (p : Nat) (hp : p ≤ b.length) (n : Nat) (hn : n ≤ 4294967296) : AC Tryz.prog 112 [.d (frD D b), .d (iD p), .d (iD n)] none (fun r' _ => r' = rdE (bytesAt b p n).2.1 (bytesAt b p n)) := by
  have HT := take_c (D := D) hb p hp n ⟨by omega, by omega⟩
  by_cases h : (b.length : Int) - p < n
  · rw [if_pos h] at HT
    refine calls_body Tryz.func112 rfl Tryz.call112 Tryz.ntmps112 (by simp) (by simp [ArgsOk]) (by simp [Rz.nkL, Rz.nk]) fun en hsz hks hk0 => ?_; simp only [St.init, frOf, Rz.addSL, Rz.addS, Rz.toAL, Rz.toA, Rz.nk, List.zipIdx_cons, List.zipIdx_nil, List.map_cons, List.map_nil, Nat.zero_add, Nat.reduceAdd]
    (repeat (first | refine walkS ?_ | (refine callPre ?_; (first | refine callN_funS rfl (HT) ?_)) | (refine callPreL ?_; (first | refine callL_funS rfl (HT) ?_))))
    refine aw_condS rfl (fun hc => ?_) (fun hc => ?_)
    · refine walkS ?_
      (refine aw_ret ?_; (simp only [Fin, Tryz.results112]; refine finS ?_); refine ⟨_, [], .inr (.inl ⟨.tup [encV V0, iD (p : Int), erD p 1], rfl, rfl, ?_⟩), List.nodup_nil, by rw [bytesAt_no (by omega)]; rfl⟩; exact wkDS)
    · (first | exact absurd trivial hc | exact absurd rfl hc | (cases hc; done) | omega | exact absurd hc (by decide) | (simp at hc; done))
  · rw [if_neg h] at HT
    have hlen : (List.take n (List.drop p b)).length ≤ 1048576 := by simp; omega
    refine calls_body Tryz.func112 rfl Tryz.call112 Tryz.ntmps112 (by simp) (by simp [ArgsOk]) (by simp [Rz.nkL, Rz.nk]) fun en hsz hks hk0 => ?_; simp only [St.init, frOf, Rz.addSL, Rz.addS, Rz.toAL, Rz.toA, Rz.nk, List.zipIdx_cons, List.zipIdx_nil, List.map_cons, List.map_nil, Nat.zero_add, Nat.reduceAdd]
    (repeat (first | refine walkS ?_ | (refine callPre ?_; (first | refine callN_funS rfl (HT) ?_)) | (refine callPreL ?_; (first | refine callL_funS rfl (HT) ?_))))
    refine aw_condS rfl (fun hc => ?_) (fun hc => ?_)
    · (first | exact absurd trivial hc | exact absurd rfl hc | (cases hc; done) | omega | exact absurd hc (by decide) | (simp at hc; done))
    · refine walkS ?_
      (refine aw_ret ?_; (simp only [Fin, Tryz.results112]; refine finS ?_); refine ⟨_, [], .inr (.inl ⟨.tup [encV (.mk 0 (List.take n (List.drop p b)) []), iD ((p : Int) + n), nilE], rfl, rfl, ?_⟩), List.nodup_nil, by rw [bytesAt_yes (by omega)]; rfl⟩; exact wkDS)
end
end Go.Proofs.YtoegmaebdihnaaaGreatDoor.Eng
