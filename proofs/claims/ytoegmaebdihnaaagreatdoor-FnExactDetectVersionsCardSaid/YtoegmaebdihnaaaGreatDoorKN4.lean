/-
  Integers, consts, bytes of a file.
-/
import Derived.Test.YtoegmaebdihnaaaGreatDoorKN2
import Derived.Test.YtoegmaebdihnaaaGreatDoorKN3
set_option linter.unusedSimpArgs false
set_option linter.unusedVariables false
namespace Go.Proofs.YtoegmaebdihnaaaGreatDoor.Eng
open Go Go.RowKit

def intRes (r : RuleD) (b : List UInt8) (p : Nat) : Nat × Nat × Bool := match intAt r b p with
  | some n => (n, p + r.size.toNat, true)
  | none => (0, p, false)
theorem intRes_no {r : RuleD} {b : List UInt8} {p : Nat} (h : (b.length : Int) - p < r.size) : intRes r b p = (0, p, false) := by simp [intRes, intAt, h]
theorem intRes_yes {r : RuleD} {b : List UInt8} {p : Nat} (h : ¬ (b.length : Int) - p < r.size) : intRes r b p = (readInt ((b.drop p).take r.size.toNat) r.little, p + r.size.toNat, true) := by simp [intRes, intAt, h]
theorem intRes_none {r : RuleD} {b : List UInt8} {p : Nat} (h : intAt r b p = none) : intRes r b p = (0, p, false) := by simp [intRes, h]
theorem intRes_some {r : RuleD} {b : List UInt8} {p m : Nat} (h : intAt r b p = some m) : intRes r b p = (m, p + r.size.toNat, true) := by simp [intRes, h]
abbrev intR (r : RuleD) (b : List UInt8) (p : Nat) : Rz := .d (.tup [iD (intRes r b p).1, iD (intRes r b p).2.1, bD (intRes r b p).2.2])
abbrev rdR (x : V × Nat × Nat) : Rz := .d (.tup [encV x.1, iD x.2.1, iD x.2.2])

section
variable {M : Nat} {D : List RuleD} {b : List UInt8}
private theorem tyF : ((((((bytesT Tryz.prog 25 = true ∧ tyElem Tryz.prog 104 = some 9) ∧ (tyElem Tryz.prog 25 = some 5 ∧ tyElem Tryz.prog 28 = some 107)) ∧ ((tyElem Tryz.prog 39 = some 41 ∧ tyElem Tryz.prog 54 = some 3) ∧ (tyField Tryz.prog 107 0 = some (0, 9) ∧ tyField Tryz.prog 107 1 = some (1, 3)))) ∧ (((tyField Tryz.prog 107 2 = some (2, 3) ∧ tyField Tryz.prog 107 3 = some (3, 4)) ∧ (tyField Tryz.prog 107 4 = some (4, 25) ∧ tyField Tryz.prog 107 5 = some (5, 104))) ∧ ((tyField Tryz.prog 107 6 = some (6, 54) ∧ tyField Tryz.prog 107 7 = some (7, 54)) ∧ (tyField Tryz.prog 30 0 = some (0, 28) ∧ tyField Tryz.prog 41 0 = some (0, 3))))) ∧ ((((tyField Tryz.prog 41 1 = some (1, 25) ∧ tyField Tryz.prog 41 2 = some (2, 39)) ∧ (tyK Tryz.prog 104 = some (false, 1) ∧ tyK Tryz.prog 107 = some (true, 8))) ∧ ((tyK Tryz.prog 25 = some (false, 1) ∧ tyK Tryz.prog 28 = some (false, 1)) ∧ (tyK Tryz.prog 3 = some (false, 1) ∧ tyK Tryz.prog 30 = some (true, 1)))) ∧ (((tyK Tryz.prog 39 = some (false, 1) ∧ tyK Tryz.prog 4 = some (false, 1)) ∧ (tyK Tryz.prog 41 = some (true, 3) ∧ tyK Tryz.prog 5 = some (false, 1))) ∧ ((tyK Tryz.prog 54 = some (false, 1) ∧ tyK Tryz.prog 9 = some (false, 1)) ∧ (tyPlaces Tryz.prog 107 = some [(0, 1), (1, 1), (2, 1), (3, 1), (4, 1), (5, 1), (6, 1), (7, 1)] ∧ (tyPlaces Tryz.prog 30 = some [(0, 1)] ∧ tyPlaces Tryz.prog 41 = some [(0, 1), (1, 1), (2, 1)])))))) ∧ (((((tyRow Tryz.prog 104 = some 1 ∧ tyRow Tryz.prog 107 = some 8) ∧ (tyRow Tryz.prog 25 = some 1 ∧ tyRow Tryz.prog 28 = some 1)) ∧ ((tyRow Tryz.prog 3 = some 1 ∧ tyRow Tryz.prog 30 = some 1) ∧ (tyRow Tryz.prog 39 = some 1 ∧ tyRow Tryz.prog 4 = some 1))) ∧ (((tyRow Tryz.prog 41 = some 3 ∧ tyRow Tryz.prog 5 = some 1) ∧ (tyRow Tryz.prog 54 = some 1 ∧ tyRow Tryz.prog 9 = some 1)) ∧ ((Tryz.prog.underlying 104 = some (TypeDesc.slice 9) ∧ Tryz.prog.underlying 25 = some (TypeDesc.slice 5)) ∧ (Tryz.prog.underlying 28 = some (TypeDesc.slice 107) ∧ Tryz.prog.underlying 3 = some (TypeDesc.int IntKind.i64))))) ∧ ((((Tryz.prog.underlying 39 = some (TypeDesc.slice 41) ∧ Tryz.prog.underlying 4 = some (TypeDesc.bool)) ∧ (Tryz.prog.underlying 5 = some (TypeDesc.int IntKind.u8) ∧ Tryz.prog.underlying 54 = some (TypeDesc.slice 3))) ∧ ((Tryz.prog.underlying 9 = some (TypeDesc.string) ∧ tyZero Tryz.prog 104 = some [Value.slice none 0 0]) ∧ (tyZero Tryz.prog 107 = some [Value.string ByteArray.empty, Value.int IntKind.i64 0, Value.int IntKind.i64 0, Value.bool false, Value.slice none 0 0, Value.slice none 0 0, Value.slice none 0 0, Value.slice none 0 0] ∧ tyZero Tryz.prog 25 = some [Value.slice none 0 0]))) ∧ (((tyZero Tryz.prog 28 = some [Value.slice none 0 0] ∧ tyZero Tryz.prog 3 = some [Value.int IntKind.i64 0]) ∧ (tyZero Tryz.prog 30 = some [Value.slice none 0 0] ∧ tyZero Tryz.prog 39 = some [Value.slice none 0 0])) ∧ ((tyZero Tryz.prog 4 = some [Value.bool false] ∧ tyZero Tryz.prog 41 = some [Value.int IntKind.i64 0, Value.slice none 0 0, Value.slice none 0 0]) ∧ (tyZero Tryz.prog 5 = some [Value.int IntKind.u8 0] ∧ (tyZero Tryz.prog 54 = some [Value.slice none 0 0] ∧ tyZero Tryz.prog 9 = some [Value.string ByteArray.empty]))))))) := ⟨⟨⟨⟨⟨⟨tb25, te104⟩, ⟨te25, te28⟩⟩, ⟨⟨te39, te54⟩, ⟨tf107_0, tf107_1⟩⟩⟩, ⟨⟨⟨tf107_2, tf107_3⟩, ⟨tf107_4, tf107_5⟩⟩, ⟨⟨tf107_6, tf107_7⟩, ⟨tf30_0, tf41_0⟩⟩⟩⟩, ⟨⟨⟨⟨tf41_1, tf41_2⟩, ⟨tk104, tk107⟩⟩, ⟨⟨tk25, tk28⟩, ⟨tk3, tk30⟩⟩⟩, ⟨⟨⟨tk39, tk4⟩, ⟨tk41, tk5⟩⟩, ⟨⟨tk54, tk9⟩, ⟨tp107, ⟨tp30, tp41⟩⟩⟩⟩⟩⟩, ⟨⟨⟨⟨⟨tr104, tr107⟩, ⟨tr25, tr28⟩⟩, ⟨⟨tr3, tr30⟩, ⟨tr39, tr4⟩⟩⟩, ⟨⟨⟨tr41, tr5⟩, ⟨tr54, tr9⟩⟩, ⟨⟨tu104, tu25⟩, ⟨tu28, tu3⟩⟩⟩⟩, ⟨⟨⟨⟨tu39, tu4⟩, ⟨tu5, tu54⟩⟩, ⟨⟨tu9, tz104⟩, ⟨tz107, tz25⟩⟩⟩, ⟨⟨⟨tz28, tz3⟩, ⟨tz30, tz39⟩⟩, ⟨⟨tz4, tz41⟩, ⟨tz5, ⟨tz54, tz9⟩⟩⟩⟩⟩⟩⟩
set_option maxRecDepth 100000 in
set_option maxHeartbeats 400000 in
theorem l11Integer_c (hD : DB M D) (hM : M ≤ 1048576) (hb : b.length ≤ 1048576) {n : Nat} {r : RuleD} (hr : D[n]? = some r) (hsz' : 1 ≤ r.size ∧ r.size ≤ 4) (p : Nat) (hp : p ≤ b.length) : AC Tryz.prog 100 [.d (encD D), .d (iD n), .d (encB b), .d (iD p)] none (fun r' _ => r' = intR r b p) := by
  refine calls_body Tryz.func100 rfl Tryz.call100 Tryz.ntmps100 (by simp) (by simp [ArgsOk]) (by simp [Rz.nkL, Rz.nk]) fun en hsz hks hk0 => ?_; simp only [St.init, frOf, Rz.addSL, Rz.addS, Rz.toAL, Rz.toA, Rz.nk, List.zipIdx_cons, List.zipIdx_nil, List.map_cons, List.map_nil, Nat.zero_add, Nat.reduceAdd]
  refine walkS ?_
  refine aw_condS rfl (fun hc => ?_) (fun hc => ?_)
  · refine walkS ?_
    (refine aw_ret ?_; (simp only [Fin, Tryz.results100]; refine finS ?_); exact ⟨_, _, .inl ⟨rfl, rfl⟩, List.nodup_nil, by rw [intR, intRes_no hc]; rfl⟩)
  · (repeat (first | refine walkS ?_ | (refine callPre ?_; (first | refine callN_funS rfl (readIntS_c r.little) ?_)) | (refine callPreL ?_; (first | refine callL_funS rfl (readIntS_c r.little) ?_))))
    (refine aw_ret ?_; (simp only [Fin, Tryz.results100]; refine finS ?_); exact ⟨_, _, .inl ⟨rfl, rfl⟩, List.nodup_nil, by rw [intR, intRes_yes hc, show ((p : Int) + r.size).toNat - p = r.size.toNat by omega]; simp; omega⟩)

abbrev constR (r : RuleD) (b : List UInt8) (p : Nat) : Rz := rdR (V0, constAt b p 0 r.bytes)
set_option maxRecDepth 100000 in
set_option maxHeartbeats 400000 in
theorem l11Const_c {r : RuleD} (hr : RB M r) (hM : M ≤ 1048576) (hb : b.length ≤ 1048576) (p : Nat) (hp : p ≤ b.length) : AC Tryz.prog 101 [.d (encR r), .d (encB b), .d (iD p)] none (fun r' _ => r' = constR r b p) := by
  have hl := hr.lb
  refine calls_body Tryz.func101 rfl Tryz.call101 Tryz.ntmps101 (by simp) (by simp [ArgsOk]) (by simp [Rz.nkL, Rz.nk]) fun en hsz hks hk0 => ?_; simp only [St.init, frOf, Rz.addSL, Rz.addS, Rz.toAL, Rz.toA, Rz.nk, List.zipIdx_cons, List.zipIdx_nil, List.map_cons, List.map_nil, Nat.zero_add, Nat.reduceAdd]
  refine walkS ?_
  refine aw_loopS [1, 2, 3, 6, 7, 8] (fun _ _ => []) (fun _ k => [(9, .d (iD (k : Nat)))]) [] (fun _ _ => []) [] (fun _ _ => []) (fun k => k ≤ r.bytes.length ∧ p + k ≤ b.length ∧ constAt b p 0 r.bytes = constAt b p k (r.bytes.drop k)) (fun k => r.bytes.length - k) (0) hks (fun _ => rfl) ⟨Nat.zero_le _, hp, rfl⟩ wkS ?_; intro x hx; simp (decide := true) only [St.head, List.map_cons, List.map_nil, lk, rmv, List.cons_append, List.nil_append, List.append_nil, reduceIte, Nat.reduceAdd]
  obtain ⟨hx1, hx2, hx3⟩ := hx
  refine walkS ?_
  refine aw_condS rfl (fun hk => ?_) (fun hk => ?_)
  · have hd : r.bytes.drop x = r.bytes[x]'(by omega) :: r.bytes.drop (x + 1) := List.drop_eq_getElem_cons (by omega)
    rw [hd] at hx3
    refine walkS ?_
    refine aw_condS rfl (fun hs => ?_) (fun hs => ?_)
    · refine walkS ?_
      (refine aw_ret ?_; (simp only [Fin, Tryz.results101]; refine finS ?_); refine ⟨_, [], .inr (.inl ⟨.tup [encV V0, iD (p : Int), iD 1], rfl, rfl, ?_⟩), List.nodup_nil, by rw [constR, hx3, constAt_short (by omega)]; rfl⟩; exact wkDS)
    · have hi : b[p + x]? = some (b[p + x]'(by omega)) := List.getElem?_eq_getElem (by omega)
      have hpx : ((p : Int) + x).toNat = p + x := by omega
      (repeat (first | refine aw_seq ?_ | refine aw_region ?_ | refine aw_block ?_ | (refine aw_exit ?_; (try simp (decide := true) only [reduceIte])) | (refine aw_skip ?_; try dsimp only) | (refine aw_any (by kernel_rfl) (by kernel_rfl) (by simp only [hsz]; kernel_rfl) ?_) | (refine ow_nil ?_; try dsimp only) | (refine ol_go ?_ (fun K1 hK1 => ?_); (first | exact trivial | exact rfl); refine evS ?_; (try rw [hpx]); (first | refine ⟨_, idx_some _ hi, ?_⟩ | skip); refine hK1 _ _ ?_; clear hK1 K1) | (refine ol_skip rfl rfl ?_ ?_; (focus (intro hne; cases hne; done)); simp only [St.set]) | (refine ol_nil ⟨by kernel_rfl, ?_⟩; try dsimp only) | (refine ow_go ?_ (fun x hx => by cases hx <;> (rw [hsz]; decide)) (fun K1 hK1 => ?_); (first | exact trivial | exact rfl); refine evS ?_; (try rw [hpx]); (first | refine ⟨_, idx_some _ hi, ?_⟩ | skip); refine hK1 _ ?_; clear hK1 K1) | (refine ow_skip rfl rfl ?_ (fun x hx => by cases hx <;> (rw [hsz]; decide)) ?_; (focus (intro hne; cases hne; done)); simp only [St.set])))
      refine aw_condS rfl (fun hn => ?_) (fun hn => ?_)
      · refine walkS ?_
        (refine aw_ret ?_; (simp only [Fin, Tryz.results101]; refine finS ?_); refine ⟨_, [], .inr (.inl ⟨.tup [encV V0, iD ((p : Int) + x), iD 2], rfl, rfl, ?_⟩), List.nodup_nil, by rw [constR, hx3, constAt_bad (by omega) (u8_ninj hn)]; rfl⟩; exact wkDS)
      · refine walkS ?_
        refine ⟨x + 1, ⟨by omega, by omega, by rw [hx3, constAt_step (by omega) (u8_inj hn)]⟩, by omega, ?_⟩
        exact wkS
  · refine walkS ?_
    (refine aw_ret ?_; (simp only [Fin, Tryz.results101]; refine finS ?_); refine ⟨_, [], .inr (.inl ⟨.tup [encV V0, iD ((p : Int) + r.bytes.length), iD 0], rfl, rfl, ?_⟩), List.nodup_nil, by rw [constR, hx3, List.drop_eq_nil_of_le (by omega), constAt_end, show x = r.bytes.length by omega]; rfl⟩; exact wkDS)

set_option maxRecDepth 100000 in
set_option maxHeartbeats 400000 in
theorem l11Bytes_c (hb : b.length ≤ 1048576) (p : Nat) (hp : p ≤ b.length) (n : Nat) (hn : n ≤ 4294967296) : AC Tryz.prog 102 [.d (encB b), .d (iD p), .d (iD n)] none (fun r' _ => r' = rdR (bytesAt b p n)) := by
  refine calls_body Tryz.func102 rfl Tryz.call102 Tryz.ntmps102 (by simp) (by simp [ArgsOk]) (by simp [Rz.nkL, Rz.nk]) fun en hsz hks hk0 => ?_; simp only [St.init, frOf, Rz.addSL, Rz.addS, Rz.toAL, Rz.toA, Rz.nk, List.zipIdx_cons, List.zipIdx_nil, List.map_cons, List.map_nil, Nat.zero_add, Nat.reduceAdd]
  refine walkS ?_
  refine aw_condS rfl (fun hc => ?_) (fun hc => ?_)
  · refine walkS ?_
    (refine aw_ret ?_; (simp only [Fin, Tryz.results102]; refine finS ?_); refine ⟨_, [], .inr (.inl ⟨.tup [encV V0, iD (p : Int), iD 1], rfl, rfl, ?_⟩), List.nodup_nil, by rw [bytesAt_no (by omega)]; rfl⟩; exact wkDS)
  · have hlen : (List.take (((p : Int) + n).toNat - p) (List.drop p b)).length ≤ 1048576 := by simp; omega
    refine walkS ?_
    (refine aw_ret ?_; (simp only [Fin, Tryz.results102]; refine finS ?_); refine ⟨_, [], .inr (.inl ⟨.tup [encV (.mk 0 (List.take (((p : Int) + n).toNat - p) (List.drop p b)) []), iD ((p : Int) + n), iD 0], rfl, rfl, ?_⟩), List.nodup_nil, by rw [bytesAt_yes (by omega), show ((p : Int) + n).toNat - p = n by omega]; rfl⟩; exact wkDS)
end
end Go.Proofs.YtoegmaebdihnaaaGreatDoor.Eng
