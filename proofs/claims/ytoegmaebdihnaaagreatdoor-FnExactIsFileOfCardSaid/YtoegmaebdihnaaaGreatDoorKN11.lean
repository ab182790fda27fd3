/-
  The checker: parts, numbers, consts.
-/
import Derived.Test.YtoegmaebdihnaaaGreatDoorKN9
import Derived.Test.YtoegmaebdihnaaaGreatDoorKE3
set_option linter.unusedSimpArgs false
set_option linter.unusedVariables false
namespace Go.Proofs.YtoegmaebdihnaaaGreatDoor.Eng
open Go Go.RowKit

/-- The checker's fields. -/
abbrev chk (D : List RuleD) (b : List UInt8) (a : Int) : List Eng.D := [encDs D, encB b, iD (IntKind.i64.wrap a)]
abbrev spotD (x : Nat × Nat) : Eng.D := .agg [iD x.1, iD x.2]
def skipP (b : List UInt8) (p n : Nat) : Nat × Nat := if b.length - p < n then (p, 1) else (p + n, 0)
def numP (r : RuleD) (b : List UInt8) (p : Nat) : Nat × Nat × Nat := match intAt r b p with
  | some m => (m, p + r.size.toNat, 0)
  | none => (0, p, 1)

private theorem tyF : ((((((tyElem Tryz.prog 104 = some 9 ∧ tyElem Tryz.prog 25 = some 5) ∧ (tyElem Tryz.prog 28 = some 107 ∧ tyElem Tryz.prog 54 = some 3)) ∧ ((tyField Tryz.prog 107 0 = some (0, 9) ∧ tyField Tryz.prog 107 1 = some (1, 3)) ∧ (tyField Tryz.prog 107 2 = some (2, 3) ∧ tyField Tryz.prog 107 3 = some (3, 4)))) ∧ (((tyField Tryz.prog 107 4 = some (4, 25) ∧ tyField Tryz.prog 107 5 = some (5, 104)) ∧ (tyField Tryz.prog 107 6 = some (6, 54) ∧ tyField Tryz.prog 107 7 = some (7, 54))) ∧ ((tyField Tryz.prog 195 0 = some (0, 3) ∧ tyField Tryz.prog 195 1 = some (1, 3)) ∧ (tyField Tryz.prog 207 0 = some (0, 30) ∧ (tyField Tryz.prog 207 1 = some (1, 25) ∧ tyField Tryz.prog 207 2 = some (2, 3)))))) ∧ ((((tyField Tryz.prog 30 0 = some (0, 28) ∧ tyK Tryz.prog 104 = some (false, 1)) ∧ (tyK Tryz.prog 107 = some (true, 8) ∧ tyK Tryz.prog 195 = some (true, 2))) ∧ ((tyK Tryz.prog 205 = some (false, 1) ∧ tyK Tryz.prog 207 = some (true, 3)) ∧ (tyK Tryz.prog 25 = some (false, 1) ∧ (tyK Tryz.prog 28 = some (false, 1) ∧ tyK Tryz.prog 3 = some (false, 1))))) ∧ (((tyK Tryz.prog 30 = some (true, 1) ∧ tyK Tryz.prog 4 = some (false, 1)) ∧ (tyK Tryz.prog 5 = some (false, 1) ∧ tyK Tryz.prog 54 = some (false, 1))) ∧ ((tyK Tryz.prog 9 = some (false, 1) ∧ tyPlaces Tryz.prog 107 = some [(0, 1), (1, 1), (2, 1), (3, 1), (4, 1), (5, 1), (6, 1), (7, 1)]) ∧ (tyPlaces Tryz.prog 195 = some [(0, 1), (1, 1)] ∧ (tyPlaces Tryz.prog 207 = some [(0, 1), (1, 1), (2, 1)] ∧ tyPlaces Tryz.prog 30 = some [(0, 1)])))))) ∧ (((((tyFlat Tryz.prog 195 = some [0, 0] ∧ tyRow Tryz.prog 104 = some 1) ∧ (tyRow Tryz.prog 107 = some 8 ∧ tyRow Tryz.prog 195 = some 2)) ∧ ((tyRow Tryz.prog 205 = some 1 ∧ tyRow Tryz.prog 207 = some 3) ∧ (tyRow Tryz.prog 25 = some 1 ∧ (tyRow Tryz.prog 28 = some 1 ∧ tyRow Tryz.prog 3 = some 1)))) ∧ (((tyRow Tryz.prog 30 = some 1 ∧ tyRow Tryz.prog 4 = some 1) ∧ (tyRow Tryz.prog 5 = some 1 ∧ tyRow Tryz.prog 54 = some 1)) ∧ ((tyRow Tryz.prog 9 = some 1 ∧ Tryz.prog.underlying 104 = some (TypeDesc.slice 9)) ∧ (Tryz.prog.underlying 205 = some (TypeDesc.pointer 207) ∧ (Tryz.prog.underlying 25 = some (TypeDesc.slice 5) ∧ Tryz.prog.underlying 28 = some (TypeDesc.slice 107)))))) ∧ ((((Tryz.prog.underlying 3 = some (TypeDesc.int IntKind.i64) ∧ Tryz.prog.underlying 4 = some (TypeDesc.bool)) ∧ (Tryz.prog.underlying 5 = some (TypeDesc.int IntKind.u8) ∧ Tryz.prog.underlying 54 = some (TypeDesc.slice 3))) ∧ ((Tryz.prog.underlying 9 = some (TypeDesc.string) ∧ tyZero Tryz.prog 104 = some [Value.slice none 0 0]) ∧ (tyZero Tryz.prog 107 = some [Value.string ByteArray.empty, Value.int IntKind.i64 0, Value.int IntKind.i64 0, Value.bool false, Value.slice none 0 0, Value.slice none 0 0, Value.slice none 0 0, Value.slice none 0 0] ∧ (tyZero Tryz.prog 195 = some [Value.int IntKind.i64 0, Value.int IntKind.i64 0] ∧ tyZero Tryz.prog 205 = some [Value.pointer none])))) ∧ (((tyZero Tryz.prog 207 = some [Value.slice none 0 0, Value.slice none 0 0, Value.int IntKind.i64 0] ∧ tyZero Tryz.prog 25 = some [Value.slice none 0 0]) ∧ (tyZero Tryz.prog 28 = some [Value.slice none 0 0] ∧ tyZero Tryz.prog 3 = some [Value.int IntKind.i64 0])) ∧ ((tyZero Tryz.prog 30 = some [Value.slice none 0 0] ∧ tyZero Tryz.prog 4 = some [Value.bool false]) ∧ (tyZero Tryz.prog 5 = some [Value.int IntKind.u8 0] ∧ (tyZero Tryz.prog 54 = some [Value.slice none 0 0] ∧ tyZero Tryz.prog 9 = some [Value.string ByteArray.empty]))))))) := ⟨⟨⟨⟨⟨⟨te104, te25⟩, ⟨te28, te54⟩⟩, ⟨⟨tf107_0, tf107_1⟩, ⟨tf107_2, tf107_3⟩⟩⟩, ⟨⟨⟨tf107_4, tf107_5⟩, ⟨tf107_6, tf107_7⟩⟩, ⟨⟨tf195_0, tf195_1⟩, ⟨tf207_0, ⟨tf207_1, tf207_2⟩⟩⟩⟩⟩, ⟨⟨⟨⟨tf30_0, tk104⟩, ⟨tk107, tk195⟩⟩, ⟨⟨tk205, tk207⟩, ⟨tk25, ⟨tk28, tk3⟩⟩⟩⟩, ⟨⟨⟨tk30, tk4⟩, ⟨tk5, tk54⟩⟩, ⟨⟨tk9, tp107⟩, ⟨tp195, ⟨tp207, tp30⟩⟩⟩⟩⟩⟩, ⟨⟨⟨⟨⟨tq195, tr104⟩, ⟨tr107, tr195⟩⟩, ⟨⟨tr205, tr207⟩, ⟨tr25, ⟨tr28, tr3⟩⟩⟩⟩, ⟨⟨⟨tr30, tr4⟩, ⟨tr5, tr54⟩⟩, ⟨⟨tr9, tu104⟩, ⟨tu205, ⟨tu25, tu28⟩⟩⟩⟩⟩, ⟨⟨⟨⟨tu3, tu4⟩, ⟨tu5, tu54⟩⟩, ⟨⟨tu9, tz104⟩, ⟨tz107, ⟨tz195, tz205⟩⟩⟩⟩, ⟨⟨⟨tz207, tz25⟩, ⟨tz28, tz3⟩⟩, ⟨⟨tz30, tz4⟩, ⟨tz5, ⟨tz54, tz9⟩⟩⟩⟩⟩⟩⟩
set_option maxRecDepth 100000 in
set_option maxHeartbeats 1000000 in
theorem skip_c (D : List RuleD) {b : List UInt8} (hb : b.length ≤ 1048576) (a : Int) (p : Nat) (hp : p ≤ b.length) (n : Nat) (hn : n ≤ 4294967296) : AC Tryz.prog 194 [.ptr 0 0, .d (iD p), .d (iD n)] (some ((chk D b a).map .d)) (fun r' b' => r' = .d (spotD (skipP b p n)) ∧ b' = some ((chk D b a).map .d)) := by
  refine calls_body Tryz.func194 rfl Tryz.call194 Tryz.ntmps194 (by simp) (by simp [ArgsOk]) (by simp [Rz.nkL, Rz.nk]) fun en hsz hks hk0 => ?_; simp only [St.init, frOf, Rz.addSL, Rz.addS, Rz.toAL, Rz.toA, Rz.nk, List.zipIdx_cons, List.zipIdx_nil, List.map_cons, List.map_nil, Nat.zero_add, Nat.reduceAdd]
  refine walkS ?_
  refine aw_condS rfl (fun hc => ?_) (fun hc => ?_)
  · refine walkS ?_
    (refine aw_ret ?_; (simp only [Fin, Tryz.results194]; refine finS ?_); exact ⟨_, [], .inl ⟨rfl, rfl⟩, _, (chk D b a : List Eng.D).map .d, [], rfl, toZL_d _ (chk D b a), by simp, by rw [skipP, if_pos (by omega)]; rfl, rfl⟩)
  · refine walkS ?_
    (refine aw_ret ?_; (simp only [Fin, Tryz.results194]; refine finS ?_); exact ⟨_, [], .inl ⟨rfl, rfl⟩, _, (chk D b a : List Eng.D).map .d, [], rfl, toZL_d _ (chk D b a), by simp, by rw [skipP, if_neg (by omega)]; rfl, rfl⟩)

set_option maxRecDepth 100000 in
set_option maxHeartbeats 1000000 in
theorem number_c {M : Nat} {D : List RuleD} (hD : DB M D) (hM : M ≤ 1048576) {b : List UInt8} (hb : b.length ≤ 1048576) (a : Int) {n : Nat} {r : RuleD} (hr : D[n]? = some r) (hsz' : 1 ≤ r.size ∧ r.size ≤ 4) (p : Nat) (hp : p ≤ b.length) : AC Tryz.prog 192 [.ptr 0 0, .d (iD n), .d (iD p)] (some ((chk D b a).map .d)) (fun r' b' => r' = .d (.tup [iD (numP r b p).1, spotD (numP r b p).2]) ∧ b' = some ((chk D b (a + 1)).map .d)) := by
  have HS := skip_c D hb (a + 1) p hp r.size.toNat (by omega)
  rw [Int.toNat_of_nonneg (by omega)] at HS
  by_cases h : b.length - p < r.size.toNat
  · have e : skipP b p r.size.toNat = (p, 1) := if_pos h
    have e2 : numP r b p = (0, p, 1) := by rw [numP, intAt, if_pos (by omega)]
    rw [e] at HS
    refine calls_body Tryz.func192 rfl Tryz.call192 Tryz.ntmps192 (by simp) (by simp [ArgsOk]) (by simp [Rz.nkL, Rz.nk]) fun en hsz hks hk0 => ?_; simp only [St.init, frOf, Rz.addSL, Rz.addS, Rz.toAL, Rz.toA, Rz.nk, List.zipIdx_cons, List.zipIdx_nil, List.map_cons, List.map_nil, Nat.zero_add, Nat.reduceAdd]
    (repeat (first | refine walkS ?_ | (refine ow_call1d (k := 0) ?_ (fun x hx => by cases hx <;> (rw [hsz]; decide)) rfl (HS) rfl rfl ?_; (first | exact trivial | exact rfl); simp only [St.set, List.map_cons, List.map_nil, Nat.reduceAdd]) | (refine ol_call1d (k := 0) ?_ rfl (HS) rfl rfl ⟨0, List.mem_cons_self⟩ ?_; (first | exact trivial | exact rfl); simp only [St.set, List.map_cons, List.map_nil, Nat.reduceAdd])))
    refine aw_condS rfl (fun hc => ?_) (fun hc => ?_)
    · refine walkS ?_
      (refine aw_ret ?_; (simp only [Fin, Tryz.results192]; refine finS ?_); exact ⟨_, [], .inl ⟨rfl, rfl⟩, _, (chk D b (a + 1) : List Eng.D).map .d, [], rfl, toZL_d _ (chk D b (a + 1)), by simp, by rw [e2]; rfl, rfl⟩)
    · (first | exact absurd trivial hc | exact absurd rfl hc | (cases hc; done) | omega | exact absurd hc (by decide) | (simp at hc; done))
  · have e : skipP b p r.size.toNat = (p + r.size.toNat, 0) := if_neg h
    have e2 : numP r b p = (readInt ((b.drop p).take r.size.toNat) r.little, p + r.size.toNat, 0) := by rw [numP, intAt, if_neg (by omega)]
    rw [e] at HS
    refine calls_body Tryz.func192 rfl Tryz.call192 Tryz.ntmps192 (by simp) (by simp [ArgsOk]) (by simp [Rz.nkL, Rz.nk]) fun en hsz hks hk0 => ?_; simp only [St.init, frOf, Rz.addSL, Rz.addS, Rz.toAL, Rz.toA, Rz.nk, List.zipIdx_cons, List.zipIdx_nil, List.map_cons, List.map_nil, Nat.zero_add, Nat.reduceAdd]
    (repeat (first | refine walkS ?_ | (refine ow_call1d (k := 0) ?_ (fun x hx => by cases hx <;> (rw [hsz]; decide)) rfl (HS) rfl rfl ?_; (first | exact trivial | exact rfl); simp only [St.set, List.map_cons, List.map_nil, Nat.reduceAdd]) | (refine ol_call1d (k := 0) ?_ rfl (HS) rfl rfl ⟨0, List.mem_cons_self⟩ ?_; (first | exact trivial | exact rfl); simp only [St.set, List.map_cons, List.map_nil, Nat.reduceAdd])))
    refine aw_condS rfl (fun hc => ?_) (fun hc => ?_)
    · (first | exact absurd trivial hc | exact absurd rfl hc | (cases hc; done) | omega | exact absurd hc (by decide) | (simp at hc; done))
    · (repeat (first | refine walkS ?_ | (refine callPre ?_; (first | refine callN_funS rfl (readIntI_c (l := List.take (p + r.size.toNat - p) (List.drop p b)) r.little) ?_)) | (refine callPreL ?_; (first | refine callL_funS rfl (readIntI_c (l := List.take (p + r.size.toNat - p) (List.drop p b)) r.little) ?_))))
      (refine aw_ret ?_; (simp only [Fin, Tryz.results192]; refine finS ?_); exact ⟨_, [], .inl ⟨rfl, rfl⟩, _, (chk D b (a + 1) : List Eng.D).map .d, [], rfl, toZL_d _ (chk D b (a + 1)), by simp, by rw [e2, show p + r.size.toNat - p = r.size.toNat by omega], rfl⟩)

set_option maxRecDepth 100000 in
set_option maxHeartbeats 1000000 in
theorem constant_c (D : List RuleD) {r : RuleD} {M : Nat} (hr : RB M r) (hM : M ≤ 1048576) {b : List UInt8} (hb : b.length ≤ 1048576) (a : Int) (p : Nat) (hp : p ≤ b.length) : AC Tryz.prog 193 [.ptr 0 0, .d (encR r), .d (iD p)] (some ((chk D b a).map .d)) (fun r' b' => r' = .d (spotD (constAt b p 0 r.bytes)) ∧ b' = some ((chk D b a).map .d)) := by
  have hl := hr.lb
  refine calls_body Tryz.func193 rfl Tryz.call193 Tryz.ntmps193 (by simp) (by simp [ArgsOk]) (by simp [Rz.nkL, Rz.nk]) fun en hsz hks hk0 => ?_; simp only [St.init, frOf, Rz.addSL, Rz.addS, Rz.toAL, Rz.toA, Rz.nk, List.zipIdx_cons, List.zipIdx_nil, List.map_cons, List.map_nil, Nat.zero_add, Nat.reduceAdd]
  refine walkS ?_
  refine aw_loopS [0, 2, 4, 6, 10, 11] (fun _ _ => []) (fun _ k => [(12, .d (iD (k : Nat)))]) [] (fun _ _ => []) [] (fun _ _ => []) (fun k => k ≤ r.bytes.length ∧ p + k ≤ b.length ∧ constAt b p 0 r.bytes = constAt b p k (r.bytes.drop k)) (fun k => r.bytes.length - k) (0) hks (fun _ => rfl) ⟨Nat.zero_le _, hp, rfl⟩ wkS ?_; intro x hx; simp (decide := true) only [St.head, List.map_cons, List.map_nil, lk, rmv, List.cons_append, List.nil_append, List.append_nil, reduceIte, Nat.reduceAdd]
  obtain ⟨hx1, hx2, hx3⟩ := hx
  refine walkS ?_
  refine aw_condS rfl (fun hk => ?_) (fun hk => ?_)
  · have hd : r.bytes.drop x = r.bytes[x]'(by omega) :: r.bytes.drop (x + 1) := List.drop_eq_getElem_cons (by omega)
    rw [hd] at hx3
    refine walkS ?_
    refine aw_condS rfl (fun hs => ?_) (fun hs => ?_)
    · refine walkS ?_
      (refine aw_ret ?_; (simp only [Fin, Tryz.results193]; refine finS ?_); exact ⟨_, [], .inl ⟨rfl, rfl⟩, _, (chk D b a : List Eng.D).map .d, [], rfl, toZL_d _ (chk D b a), by simp, by rw [hx3, constAt_short (by omega)]; rfl, rfl⟩)
    · have hi : b[p + x]? = some (b[p + x]'(by omega)) := List.getElem?_eq_getElem (by omega)
      have hpx : ((p : Int) + x).toNat = p + x := by omega
      (repeat (first | refine aw_seq ?_ | refine aw_region ?_ | refine aw_block ?_ | (refine aw_exit ?_; (try simp (decide := true) only [reduceIte])) | (refine aw_skip ?_; try dsimp only) | (refine aw_any (by kernel_rfl) (by kernel_rfl) (by simp only [hsz]; kernel_rfl) ?_) | (refine ow_nil ?_; try dsimp only) | (refine ol_go ?_ (fun K1 hK1 => ?_); (first | exact trivial | exact rfl); refine evS ?_; (try rw [hpx]); (first | refine ⟨_, idx_some _ hi, ?_⟩ | skip); refine hK1 _ _ ?_; clear hK1 K1) | (refine ol_skip rfl rfl ?_ ?_; (focus (intro hne; cases hne; done)); simp only [St.set]) | (refine ol_nil ⟨by kernel_rfl, ?_⟩; try dsimp only) | (refine ow_go ?_ (fun x hx => by cases hx <;> (rw [hsz]; decide)) (fun K1 hK1 => ?_); (first | exact trivial | exact rfl); refine evS ?_; (try rw [hpx]); (first | refine ⟨_, idx_some _ hi, ?_⟩ | skip); refine hK1 _ ?_; clear hK1 K1) | (refine ow_skip rfl rfl ?_ (fun x hx => by cases hx <;> (rw [hsz]; decide)) ?_; (focus (intro hne; cases hne; done)); simp only [St.set])))
      refine aw_condS rfl (fun hn => ?_) (fun hn => ?_)
      · refine walkS ?_
        (refine aw_ret ?_; (simp only [Fin, Tryz.results193]; refine finS ?_); exact ⟨_, [], .inl ⟨rfl, rfl⟩, _, (chk D b a : List Eng.D).map .d, [], rfl, toZL_d _ (chk D b a), by simp, by rw [hx3, constAt_bad (by omega) (u8_ninj hn)]; rfl, rfl⟩)
      · refine walkS ?_
        refine ⟨x + 1, ⟨by omega, by omega, by rw [hx3, constAt_step (by omega) (u8_inj hn)]⟩, by omega, ?_⟩
        exact wkS
  · refine walkS ?_
    (refine aw_ret ?_; (simp only [Fin, Tryz.results193]; refine finS ?_); exact ⟨_, [], .inl ⟨rfl, rfl⟩, _, (chk D b a : List Eng.D).map .d, [], rfl, toZL_d _ (chk D b a), by simp, by rw [hx3, List.drop_eq_nil_of_le (by omega), constAt_end, show x = r.bytes.length by omega]; rfl, rfl⟩)
end Go.Proofs.YtoegmaebdihnaaaGreatDoor.Eng
