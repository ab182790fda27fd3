/-
  Integers, consts, bytes of a file.
-/
import Derived.Test.YtmpokibohbhoeaaKN2
import Derived.Test.YtmpokibohbhoeaaKN3
set_option linter.unusedSimpArgs false
set_option linter.unusedVariables false
namespace Go.Proofs.Ytmpokibohbhoeaa.Eng
open Go Go.RowKit

def intRes (r : RuleD) (b : List UInt8) (p : Nat) : Nat × Nat × Bool := match intAt r b p with
  | some n => (n, p + r.size.toNat, true)
  | none => (0, p, false)
theorem intRes_no {r : RuleD} {b : List UInt8} {p : Nat} (h : (b.length : Int) - p < r.size) : intRes r b p = (0, p, false) := by simp [intRes, intAt, h]
theorem intRes_yes {r : RuleD} {b : List UInt8} {p : Nat} (h : ¬ (b.length : Int) - p < r.size) : intRes r b p = (readInt ((b.drop p).take r.size.toNat) r.little, p + r.size.toNat, true) := by simp [intRes, intAt, h]
theorem intRes_none {r : RuleD} {b : List UInt8} {p : Nat} (h : intAt r b p = none) : intRes r b p = (0, p, false) := by simp [intRes, h]
theorem intRes_some {r : RuleD} {b : List UInt8} {p m : Nat} (h : intAt r b p = some m) : intRes r b p = (m, p + r.size.toNat, true) := by simp [intRes, h]
abbrev intR (r : RuleD) (b : List UInt8) (p : Nat) : Rz := .d (.tup [iD (intRes r b p).1, iD (intRes r b p).2.1, bD (intRes r b p).2.2])
abbrev rdR (x : V × Nat × Nat) : Rz := .d (.tup [encV x.1, iD x.2.1, iD x.2.2])

section
variable {M : Nat} {D : List RuleD} {b : List UInt8}
private theorem tyF : ((((((bytesT Try.prog 22 = true ∧ tyElem Try.prog 106 = some 9) ∧ (tyElem Try.prog 107 = some 3 ∧ tyElem Try.prog 22 = some 5)) ∧ ((tyElem Try.prog 24 = some 109 ∧ tyElem Try.prog 42 = some 44) ∧ (tyField Try.prog 109 0 = some (0, 9) ∧ tyField Try.prog 109 1 = some (1, 3)))) ∧ (((tyField Try.prog 109 2 = some (2, 3) ∧ tyField Try.prog 109 3 = some (3, 4)) ∧ (tyField Try.prog 109 4 = some (4, 22) ∧ tyField Try.prog 109 5 = some (5, 106))) ∧ ((tyField Try.prog 109 6 = some (6, 107) ∧ tyField Try.prog 109 7 = some (7, 107)) ∧ (tyField Try.prog 26 0 = some (0, 24) ∧ tyField Try.prog 44 0 = some (0, 3))))) ∧ ((((tyField Try.prog 44 1 = some (1, 22) ∧ tyField Try.prog 44 2 = some (2, 42)) ∧ (tyK Try.prog 106 = some (false, 1) ∧ tyK Try.prog 107 = some (false, 1))) ∧ ((tyK Try.prog 109 = some (true, 8) ∧ tyK Try.prog 22 = some (false, 1)) ∧ (tyK Try.prog 24 = some (false, 1) ∧ tyK Try.prog 26 = some (true, 1)))) ∧ (((tyK Try.prog 3 = some (false, 1) ∧ tyK Try.prog 4 = some (false, 1)) ∧ (tyK Try.prog 42 = some (false, 1) ∧ tyK Try.prog 44 = some (true, 3))) ∧ ((tyK Try.prog 5 = some (false, 1) ∧ tyK Try.prog 9 = some (false, 1)) ∧ (tyPlaces Try.prog 109 = some [(0, 1), (1, 1), (2, 1), (3, 1), (4, 1), (5, 1), (6, 1), (7, 1)] ∧ (tyPlaces Try.prog 26 = some [(0, 1)] ∧ tyPlaces Try.prog 44 = some [(0, 1), (1, 1), (2, 1)])))))) ∧ (((((tyRow Try.prog 106 = some 1 ∧ tyRow Try.prog 107 = some 1) ∧ (tyRow Try.prog 109 = some 8 ∧ tyRow Try.prog 22 = some 1)) ∧ ((tyRow Try.prog 24 = some 1 ∧ tyRow Try.prog 26 = some 1) ∧ (tyRow Try.prog 3 = some 1 ∧ tyRow Try.prog 4 = some 1))) ∧ (((tyRow Try.prog 42 = some 1 ∧ tyRow Try.prog 44 = some 3) ∧ (tyRow Try.prog 5 = some 1 ∧ tyRow Try.prog 9 = some 1)) ∧ ((Try.prog.underlying 106 = some (TypeDesc.slice 9) ∧ Try.prog.underlying 107 = some (TypeDesc.slice 3)) ∧ (Try.prog.underlying 22 = some (TypeDesc.slice 5) ∧ Try.prog.underlying 24 = some (TypeDesc.slice 109))))) ∧ ((((Try.prog.underlying 3 = some (TypeDesc.int IntKind.i64) ∧ Try.prog.underlying 4 = some (TypeDesc.bool)) ∧ (Try.prog.underlying 42 = some (TypeDesc.slice 44) ∧ Try.prog.underlying 5 = some (TypeDesc.int IntKind.u8))) ∧ ((Try.prog.underlying 9 = some (TypeDesc.string) ∧ tyZero Try.prog 106 = some [Value.slice none 0 0]) ∧ (tyZero Try.prog 107 = some [Value.slice none 0 0] ∧ tyZero Try.prog 109 = some [Value.string ByteArray.empty, Value.int IntKind.i64 0, Value.int IntKind.i64 0, Value.bool false, Value.slice none 0 0, Value.slice none 0 0, Value.slice none 0 0, Value.slice none 0 0]))) ∧ (((tyZero Try.prog 22 = some [Value.slice none 0 0] ∧ tyZero Try.prog 24 = some [Value.slice none 0 0]) ∧ (tyZero Try.prog 26 = some [Value.slice none 0 0] ∧ tyZero Try.prog 3 = some [Value.int IntKind.i64 0])) ∧ ((tyZero Try.prog 4 = some [Value.bool false] ∧ tyZero Try.prog 42 = some [Value.slice none 0 0]) ∧ (tyZero Try.prog 44 = some [Value.int IntKind.i64 0, Value.slice none 0 0, Value.slice none 0 0] ∧ (tyZero Try.prog 5 = some [Value.int IntKind.u8 0] ∧ tyZero Try.prog 9 = some [Value.string ByteArray.empty]))))))) := ⟨⟨⟨⟨⟨⟨tb22, te106⟩, ⟨te107, te22⟩⟩, ⟨⟨te24, te42⟩, ⟨tf109_0, tf109_1⟩⟩⟩, ⟨⟨⟨tf109_2, tf109_3⟩, ⟨tf109_4, tf109_5⟩⟩, ⟨⟨tf109_6, tf109_7⟩, ⟨tf26_0, tf44_0⟩⟩⟩⟩, ⟨⟨⟨⟨tf44_1, tf44_2⟩, ⟨tk106, tk107⟩⟩, ⟨⟨tk109, tk22⟩, ⟨tk24, tk26⟩⟩⟩, ⟨⟨⟨tk3, tk4⟩, ⟨tk42, tk44⟩⟩, ⟨⟨tk5, tk9⟩, ⟨tp109, ⟨tp26, tp44⟩⟩⟩⟩⟩⟩, ⟨⟨⟨⟨⟨tr106, tr107⟩, ⟨tr109, tr22⟩⟩, ⟨⟨tr24, tr26⟩, ⟨tr3, tr4⟩⟩⟩, ⟨⟨⟨tr42, tr44⟩, ⟨tr5, tr9⟩⟩, ⟨⟨tu106, tu107⟩, ⟨tu22, tu24⟩⟩⟩⟩, ⟨⟨⟨⟨tu3, tu4⟩, ⟨tu42, tu5⟩⟩, ⟨⟨tu9, tz106⟩, ⟨tz107, tz109⟩⟩⟩, ⟨⟨⟨tz22, tz24⟩, ⟨tz26, tz3⟩⟩, ⟨⟨tz4, tz42⟩, ⟨tz44, ⟨tz5, tz9⟩⟩⟩⟩⟩⟩⟩
set_option maxRecDepth 100000 in
set_option maxHeartbeats 400000 in
theorem l11Integer_c (hD : DB M D) (hM : M ≤ 1048576) (hb : b.length ≤ 1048576) {n : Nat} {r : RuleD} (hr : D[n]? = some r) (hsz' : 1 ≤ r.size ∧ r.size ≤ 4) (p : Nat) (hp : p ≤ b.length) : AC Try.prog 112 [.d (encD D), .d (iD n), .d (encB b), .d (iD p)] none (fun r' _ => r' = intR r b p) := by
  refine calls_body Try.func112 rfl Try.call112 Try.ntmps112 (by simp) (by simp [ArgsOk]) (by simp [Rz.nkL, Rz.nk]) fun en hsz hks hk0 => ?_; simp only [St.init, frOf, Rz.addSL, Rz.addS, Rz.toAL, Rz.toA, Rz.nk, List.zipIdx_cons, List.zipIdx_nil, List.map_cons, List.map_nil, Nat.zero_add, Nat.reduceAdd]
  refine walkS ?_
  refine aw_condS rfl (fun hc => ?_) (fun hc => ?_)
  · refine walkS ?_
    (refine aw_ret ?_; (simp only [Fin, Try.results112]; refine finS ?_); exact ⟨_, _, .inl ⟨rfl, rfl⟩, List.nodup_nil, by rw [intR, intRes_no hc]; rfl⟩)
  · (repeat (first | refine walkS ?_ | (refine callPre ?_; (first | refine callN_funS rfl (readIntS_c r.little) ?_)) | (refine callPreL ?_; (first | refine callL_funS rfl (readIntS_c r.little) ?_))))
    (refine aw_ret ?_; (simp only [Fin, Try.results112]; refine finS ?_); exact ⟨_, _, .inl ⟨rfl, rfl⟩, List.nodup_nil, by rw [intR, intRes_yes hc, show ((p : Int) + r.size).toNat - p = r.size.toNat by omega]; simp; omega⟩)

abbrev constR (r : RuleD) (b : List UInt8) (p : Nat) : Rz := rdR (V0, constAt b p 0 r.bytes)
set_option maxRecDepth 100000 in
set_option maxHeartbeats 400000 in
theorem l11Const_c {r : RuleD} (hr : RB M r) (hM : M ≤ 1048576) (hb : b.length ≤ 1048576) (p : Nat) (hp : p ≤ b.length) : AC Try.prog 113 [.d (encR r), .d (encB b), .d (iD p)] none (fun r' _ => r' = constR r b p) := by
  have hl := hr.lb
  refine calls_body Try.func113 rfl Try.call113 Try.ntmps113 (by simp) (by simp [ArgsOk]) (by simp [Rz.nkL, Rz.nk]) fun en hsz hks hk0 => ?_; simp only [St.init, frOf, Rz.addSL, Rz.addS, Rz.toAL, Rz.toA, Rz.nk, List.zipIdx_cons, List.zipIdx_nil, List.map_cons, List.map_nil, Nat.zero_add, Nat.reduceAdd]
  refine walkS ?_
  refine aw_loopS [1, 2, 3, 6, 7, 8] (fun _ _ => []) (fun _ k => [(9, .d (iD (k : Nat)))]) [] (fun _ _ => []) [] (fun _ _ => []) (fun k => k ≤ r.bytes.length ∧ p + k ≤ b.length ∧ constAt b p 0 r.bytes = constAt b p k (r.bytes.drop k)) (fun k => r.bytes.length - k) (0) hks (fun _ => rfl) ⟨Nat.zero_le _, hp, rfl⟩ wkS ?_; intro x hx; simp (decide := true) only [St.head, List.map_cons, List.map_nil, lk, rmv, List.cons_append, List.nil_append, List.append_nil, reduceIte, Nat.reduceAdd]
  obtain ⟨hx1, hx2, hx3⟩ := hx
  refine walkS ?_
  refine aw_condS rfl (fun hk => ?_) (fun hk => ?_)
  · have hd : r.bytes.drop x = r.bytes[x]'(by omega) :: r.bytes.drop (x + 1) := List.drop_eq_getElem_cons (by omega)
    rw [hd] at hx3
    refine walkS ?_
    refine aw_condS rfl (fun hs => ?_) (fun hs => ?_)
    · refine walkS ?_
      (refine aw_ret ?_; (simp only [Fin, Try.results113]; refine finS ?_); refine ⟨_, [], .inr (.inl ⟨.tup [encV V0, iD (p : Int), iD 1], rfl, rfl, ?_⟩), List.nodup_nil, by rw [constR, hx3, constAt_short (by omega)]; rfl⟩; exact wkDS)
    · have hi : b[p + x]? = some (b[p + x]'(by omega)) := List.getElem?_eq_getElem (by omega)
      have hpx : ((p : Int) + x).toNat = p + x := by omega
      (repeat (first | refine aw_seq ?_ | refine aw_region ?_ | refine aw_block ?_ | (refine aw_exit ?_; (try simp (decide := true) only [reduceIte])) | (refine aw_skip ?_; try dsimp only) | (refine aw_any (by kernel_rfl) (by kernel_rfl) (by simp only [hsz]; kernel_rfl) ?_) | (refine ow_nil ?_; try dsimp only) | (refine ol_go ?_ (fun K1 hK1 => ?_); (first | exact trivial | exact rfl); refine evS ?_; (try rw [hpx]); (first | refine ⟨_, idx_some _ hi, ?_⟩ | skip); refine hK1 _ _ ?_; clear hK1 K1) | (refine ol_skip rfl rfl ?_ ?_; (focus (intro hne; cases hne; done)); simp only [St.set]) | (refine ol_nil ⟨by kernel_rfl, ?_⟩; try dsimp only) | (refine ow_go ?_ (fun x hx => by cases hx <;> (rw [hsz]; decide)) (fun K1 hK1 => ?_); (first | exact trivial | exact rfl); refine evS ?_; (try rw [hpx]); (first | refine ⟨_, idx_some _ hi, ?_⟩ | skip); refine hK1 _ ?_; clear hK1 K1) | (refine ow_skip rfl rfl ?_ (fun x hx => by cases hx <;> (rw [hsz]; decide)) ?_; (focus (intro hne; cases hne; done)); simp only [St.set])))
      refine aw_condS rfl (fun hn => ?_) (fun hn => ?_)
      · refine walkS ?_
        (refine aw_ret ?_; (simp only [Fin, Try.results113]; refine finS ?_); refine ⟨_, [], .inr (.inl ⟨.tup [encV V0, iD ((p : Int) + x), iD 2], rfl, rfl, ?_⟩), List.nodup_nil, by rw [constR, hx3, constAt_bad (by omega) (u8_ninj hn)]; rfl⟩; exact wkDS)
      · refine walkS ?_
        refine ⟨x + 1, ⟨by omega, by omega, by rw [hx3, constAt_step (by omega) (u8_inj hn)]⟩, by omega, ?_⟩
        exact wkS
  · refine walkS ?_
    (refine aw_ret ?_; (simp only [Fin, Try.results113]; refine finS ?_); refine ⟨_, [], .inr (.inl ⟨.tup [encV V0, iD ((p : Int) + r.bytes.length), iD 0], rfl, rfl, ?_⟩), List.nodup_nil, by rw [constR, hx3, List.drop_eq_nil_of_le (by omega), constAt_end, show x = r.bytes.length by omega]; rfl⟩; exact wkDS)

set_option maxRecDepth 100000 in
set_option maxHeartbeats 400000 in
theorem l11Bytes_c (hb : b.length ≤ 1048576) (p : Nat) (hp : p ≤ b.length) (n : Nat) (hn : n ≤ 4294967296) : AC Try.prog 114 [.d (encB b), .d (iD p), .d (iD n)] none (fun r' _ => r' = rdR (bytesAt b p n)) := by
  refine calls_body Try.func114 rfl Try.call114 Try.ntmps114 (by simp) (by simp [ArgsOk]) (by simp [Rz.nkL, Rz.nk]) fun en hsz hks hk0 => ?_; simp only [St.init, frOf, Rz.addSL, Rz.addS, Rz.toAL, Rz.toA, Rz.nk, List.zipIdx_cons, List.zipIdx_nil, List.map_cons, List.map_nil, Nat.zero_add, Nat.reduceAdd]
  refine walkS ?_
  refine aw_condS rfl (fun hc => ?_) (fun hc => ?_)
  · refine walkS ?_
    (refine aw_ret ?_; (simp only [Fin, Try.results114]; refine finS ?_); refine ⟨_, [], .inr (.inl ⟨.tup [encV V0, iD (p : Int), iD 1], rfl, rfl, ?_⟩), List.nodup_nil, by rw [bytesAt_no (by omega)]; rfl⟩; exact wkDS)
  · have hlen : (List.take (((p : Int) + n).toNat - p) (List.drop p b)).length ≤ 1048576 := by simp; omega
    refine walkS ?_
    (refine aw_ret ?_; (simp only [Fin, Try.results114]; refine finS ?_); refine ⟨_, [], .inr (.inl ⟨.tup [encV (.mk 0 (List.take (((p : Int) + n).toNat - p) (List.drop p b)) []), iD ((p : Int) + n), iD 0], rfl, rfl, ?_⟩), List.nodup_nil, by rw [bytesAt_yes (by omega), show ((p : Int) + n).toNat - p = n by omega]; rfl⟩; exact wkDS)
end
end Go.Proofs.Ytmpokibohbhoeaa.Eng
