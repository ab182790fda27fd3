/-
  The checker: parts, numbers, consts.
-/
import Derived.Test.YtoegmaebdihnaaaDoorKN9
import Derived.Test.YtoegmaebdihnaaaDoorKE3
set_option linter.unusedSimpArgs false
set_option linter.unusedVariables false
namespace Go.Proofs.YtoegmaebdihnaaaDoor.Eng
open Go Go.RowKit

/-- The checker's fields. -/
abbrev chk (D : List RuleD) (b : List UInt8) (a : Int) : List Eng.D := [encDs D, encB b, iD (IntKind.i64.wrap a)]
abbrev spotD (x : Nat × Nat) : Eng.D := .agg [iD x.1, iD x.2]
def skipP (b : List UInt8) (p n : Nat) : Nat × Nat := if b.length - p < n then (p, 1) else (p + n, 0)
def numP (r : RuleD) (b : List UInt8) (p : Nat) : Nat × Nat × Nat := match intAt r b p with
  | some m => (m, p + r.size.toNat, 0)
  | none => (0, p, 1)

private theorem tyF : ((((((bytesT Tryd.prog 25 = true ∧ tyElem Tryd.prog 25 = some 5) ∧ (tyElem Tryd.prog 28 = some 55 ∧ tyElem Tryd.prog 46 = some 9)) ∧ ((tyElem Tryd.prog 47 = some 3 ∧ tyField Tryd.prog 30 0 = some (0, 28)) ∧ (tyField Tryd.prog 55 0 = some (0, 9) ∧ (tyField Tryd.prog 55 1 = some (1, 3) ∧ tyField Tryd.prog 55 2 = some (2, 3))))) ∧ (((tyField Tryd.prog 55 3 = some (3, 4) ∧ tyField Tryd.prog 55 4 = some (4, 25)) ∧ (tyField Tryd.prog 55 5 = some (5, 46) ∧ tyField Tryd.prog 55 6 = some (6, 47))) ∧ ((tyField Tryd.prog 55 7 = some (7, 47) ∧ tyField Tryd.prog 86 0 = some (0, 3)) ∧ (tyField Tryd.prog 86 1 = some (1, 3) ∧ (tyField Tryd.prog 93 0 = some (0, 30) ∧ tyField Tryd.prog 93 1 = some (1, 25)))))) ∧ ((((tyField Tryd.prog 93 2 = some (2, 3) ∧ tyK Tryd.prog 25 = some (false, 1)) ∧ (tyK Tryd.prog 28 = some (false, 1) ∧ tyK Tryd.prog 3 = some (false, 1))) ∧ ((tyK Tryd.prog 30 = some (true, 1) ∧ tyK Tryd.prog 4 = some (false, 1)) ∧ (tyK Tryd.prog 46 = some (false, 1) ∧ (tyK Tryd.prog 47 = some (false, 1) ∧ tyK Tryd.prog 5 = some (false, 1))))) ∧ (((tyK Tryd.prog 55 = some (true, 8) ∧ tyK Tryd.prog 86 = some (true, 2)) ∧ (tyK Tryd.prog 9 = some (false, 1) ∧ tyK Tryd.prog 91 = some (false, 1))) ∧ ((tyK Tryd.prog 93 = some (true, 3) ∧ tyPlaces Tryd.prog 30 = some [(0, 1)]) ∧ (tyPlaces Tryd.prog 55 = some [(0, 1), (1, 1), (2, 1), (3, 1), (4, 1), (5, 1), (6, 1), (7, 1)] ∧ (tyPlaces Tryd.prog 86 = some [(0, 1), (1, 1)] ∧ tyPlaces Tryd.prog 93 = some [(0, 1), (1, 1), (2, 1)])))))) ∧ (((((tyFlat Tryd.prog 86 = some [0, 0] ∧ tyRow Tryd.prog 25 = some 1) ∧ (tyRow Tryd.prog 28 = some 1 ∧ tyRow Tryd.prog 3 = some 1)) ∧ ((tyRow Tryd.prog 30 = some 1 ∧ tyRow Tryd.prog 4 = some 1) ∧ (tyRow Tryd.prog 46 = some 1 ∧ (tyRow Tryd.prog 47 = some 1 ∧ tyRow Tryd.prog 5 = some 1)))) ∧ (((tyRow Tryd.prog 55 = some 8 ∧ tyRow Tryd.prog 86 = some 2) ∧ (tyRow Tryd.prog 9 = some 1 ∧ tyRow Tryd.prog 91 = some 1)) ∧ ((tyRow Tryd.prog 93 = some 3 ∧ Tryd.prog.underlying 25 = some (TypeDesc.slice 5)) ∧ (Tryd.prog.underlying 28 = some (TypeDesc.slice 55) ∧ (Tryd.prog.underlying 3 = some (TypeDesc.int IntKind.i64) ∧ Tryd.prog.underlying 4 = some (TypeDesc.bool)))))) ∧ ((((Tryd.prog.underlying 46 = some (TypeDesc.slice 9) ∧ Tryd.prog.underlying 47 = some (TypeDesc.slice 3)) ∧ (Tryd.prog.underlying 5 = some (TypeDesc.int IntKind.u8) ∧ Tryd.prog.underlying 9 = some (TypeDesc.string))) ∧ ((Tryd.prog.underlying 91 = some (TypeDesc.pointer 93) ∧ tyZero Tryd.prog 25 = some [Value.slice none 0 0]) ∧ (tyZero Tryd.prog 28 = some [Value.slice none 0 0] ∧ (tyZero Tryd.prog 3 = some [Value.int IntKind.i64 0] ∧ tyZero Tryd.prog 30 = some [Value.slice none 0 0])))) ∧ (((tyZero Tryd.prog 4 = some [Value.bool false] ∧ tyZero Tryd.prog 46 = some [Value.slice none 0 0]) ∧ (tyZero Tryd.prog 47 = some [Value.slice none 0 0] ∧ tyZero Tryd.prog 5 = some [Value.int IntKind.u8 0])) ∧ ((tyZero Tryd.prog 55 = some [Value.string ByteArray.empty, Value.int IntKind.i64 0, Value.int IntKind.i64 0, Value.bool false, Value.slice none 0 0, Value.slice none 0 0, Value.slice none 0 0, Value.slice none 0 0] ∧ tyZero Tryd.prog 86 = some [Value.int IntKind.i64 0, Value.int IntKind.i64 0]) ∧ (tyZero Tryd.prog 9 = some [Value.string ByteArray.empty] ∧ (tyZero Tryd.prog 91 = some [Value.pointer none] ∧ tyZero Tryd.prog 93 = some [Value.slice none 0 0, Value.slice none 0 0, Value.int IntKind.i64 0]))))))) := ⟨⟨⟨⟨⟨⟨tb25, te25⟩, ⟨te28, te46⟩⟩, ⟨⟨te47, tf30_0⟩, ⟨tf55_0, ⟨tf55_1, tf55_2⟩⟩⟩⟩, ⟨⟨⟨tf55_3, tf55_4⟩, ⟨tf55_5, tf55_6⟩⟩, ⟨⟨tf55_7, tf86_0⟩, ⟨tf86_1, ⟨tf93_0, tf93_1⟩⟩⟩⟩⟩, ⟨⟨⟨⟨tf93_2, tk25⟩, ⟨tk28, tk3⟩⟩, ⟨⟨tk30, tk4⟩, ⟨tk46, ⟨tk47, tk5⟩⟩⟩⟩, ⟨⟨⟨tk55, tk86⟩, ⟨tk9, tk91⟩⟩, ⟨⟨tk93, tp30⟩, ⟨tp55, ⟨tp86, tp93⟩⟩⟩⟩⟩⟩, ⟨⟨⟨⟨⟨tq86, tr25⟩, ⟨tr28, tr3⟩⟩, ⟨⟨tr30, tr4⟩, ⟨tr46, ⟨tr47, tr5⟩⟩⟩⟩, ⟨⟨⟨tr55, tr86⟩, ⟨tr9, tr91⟩⟩, ⟨⟨tr93, tu25⟩, ⟨tu28, ⟨tu3, tu4⟩⟩⟩⟩⟩, ⟨⟨⟨⟨tu46, tu47⟩, ⟨tu5, tu9⟩⟩, ⟨⟨tu91, tz25⟩, ⟨tz28, ⟨tz3, tz30⟩⟩⟩⟩, ⟨⟨⟨tz4, tz46⟩, ⟨tz47, tz5⟩⟩, ⟨⟨tz55, tz86⟩, ⟨tz9, ⟨tz91, tz93⟩⟩⟩⟩⟩⟩⟩
set_option maxRecDepth 100000 in
set_option maxHeartbeats 1000000 in
theorem skip_c (D : List RuleD) {b : List UInt8} (hb : b.length ≤ 1048576) (a : Int) (p : Nat) (hp : p ≤ b.length) (n : Nat) (hn : n ≤ 4294967296) : AC Tryd.prog 53 [.ptr 0 0, .d (iD p), .d (iD n)] (some ((chk D b a).map .d)) (fun r' b' => r' = .d (spotD (skipP b p n)) ∧ b' = some ((chk D b a).map .d)) := by
  refine calls_body Tryd.func53 rfl Tryd.call53 Tryd.ntmps53 (by simp) (by simp [ArgsOk]) (by simp [Rz.nkL, Rz.nk]) fun en hsz hks hk0 => ?_; simp only [St.init, frOf, Rz.addSL, Rz.addS, Rz.toAL, Rz.toA, Rz.nk, List.zipIdx_cons, List.zipIdx_nil, List.map_cons, List.map_nil, Nat.zero_add, Nat.reduceAdd]
  refine walkS ?_
  refine aw_condS rfl (fun hc => ?_) (fun hc => ?_)
  · refine walkS ?_
    (refine aw_ret ?_; (simp only [Fin, Tryd.results53]; refine finS ?_); exact ⟨_, [], .inl ⟨rfl, rfl⟩, _, (chk D b a : List Eng.D).map .d, [], rfl, toZL_d _ (chk D b a), by simp, by rw [skipP, if_pos (by omega)]; rfl, rfl⟩)
  · refine walkS ?_
    (refine aw_ret ?_; (simp only [Fin, Tryd.results53]; refine finS ?_); exact ⟨_, [], .inl ⟨rfl, rfl⟩, _, (chk D b a : List Eng.D).map .d, [], rfl, toZL_d _ (chk D b a), by simp, by rw [skipP, if_neg (by omega)]; rfl, rfl⟩)

set_option maxRecDepth 100000 in
set_option maxHeartbeats 1000000 in
theorem number_c {M : Nat} {D : List RuleD} (hD : DB M D) (hM : M ≤ 1048576) {b : List UInt8} (hb : b.length ≤ 1048576) (a : Int) {n : Nat} {r : RuleD} (hr : D[n]? = some r) (hsz' : 1 ≤ r.size ∧ r.size ≤ 4) (p : Nat) (hp : p ≤ b.length) : AC Tryd.prog 51 [.ptr 0 0, .d (iD n), .d (iD p)] (some ((chk D b a).map .d)) (fun r' b' => r' = .d (.tup [iD (numP r b p).1, spotD (numP r b p).2]) ∧ b' = some ((chk D b (a + 1)).map .d)) := by
  have HS := skip_c D hb (a + 1) p hp r.size.toNat (by omega)
  rw [Int.toNat_of_nonneg (by omega)] at HS
  by_cases h : b.length - p < r.size.toNat
  · have e : skipP b p r.size.toNat = (p, 1) := if_pos h
    have e2 : numP r b p = (0, p, 1) := by rw [numP, intAt, if_pos (by omega)]
    rw [e] at HS
    refine calls_body Tryd.func51 rfl Tryd.call51 Tryd.ntmps51 (by simp) (by simp [ArgsOk]) (by simp [Rz.nkL, Rz.nk]) fun en hsz hks hk0 => ?_; simp only [St.init, frOf, Rz.addSL, Rz.addS, Rz.toAL, Rz.toA, Rz.nk, List.zipIdx_cons, List.zipIdx_nil, List.map_cons, List.map_nil, Nat.zero_add, Nat.reduceAdd]
    (repeat (first | refine walkS ?_ | (refine ow_call1d (k := 0) ?_ (fun x hx => by cases hx <;> (rw [hsz]; decide)) rfl (HS) rfl rfl ?_; (first | exact trivial | exact rfl); simp only [St.set, List.map_cons, List.map_nil, Nat.reduceAdd]) | (refine ol_call1d (k := 0) ?_ rfl (HS) rfl rfl ⟨0, List.mem_cons_self⟩ ?_; (first | exact trivial | exact rfl); simp only [St.set, List.map_cons, List.map_nil, Nat.reduceAdd])))
    refine aw_condS rfl (fun hc => ?_) (fun hc => ?_)
    · refine walkS ?_
      (refine aw_ret ?_; (simp only [Fin, Tryd.results51]; refine finS ?_); exact ⟨_, [], .inl ⟨rfl, rfl⟩, _, (chk D b (a + 1) : List Eng.D).map .d, [], rfl, toZL_d _ (chk D b (a + 1)), by simp, by rw [e2]; rfl, rfl⟩)
    · (first | exact absurd trivial hc | exact absurd rfl hc | (cases hc; done) | omega | exact absurd hc (by decide) | (simp at hc; done))
  · have e : skipP b p r.size.toNat = (p + r.size.toNat, 0) := if_neg h
    have e2 : numP r b p = (readInt ((b.drop p).take r.size.toNat) r.little, p + r.size.toNat, 0) := by rw [numP, intAt, if_neg (by omega)]
    rw [e] at HS
    refine calls_body Tryd.func51 rfl Tryd.call51 Tryd.ntmps51 (by simp) (by simp [ArgsOk]) (by simp [Rz.nkL, Rz.nk]) fun en hsz hks hk0 => ?_; simp only [St.init, frOf, Rz.addSL, Rz.addS, Rz.toAL, Rz.toA, Rz.nk, List.zipIdx_cons, List.zipIdx_nil, List.map_cons, List.map_nil, Nat.zero_add, Nat.reduceAdd]
    (repeat (first | refine walkS ?_ | (refine ow_call1d (k := 0) ?_ (fun x hx => by cases hx <;> (rw [hsz]; decide)) rfl (HS) rfl rfl ?_; (first | exact trivial | exact rfl); simp only [St.set, List.map_cons, List.map_nil, Nat.reduceAdd]) | (refine ol_call1d (k := 0) ?_ rfl (HS) rfl rfl ⟨0, List.mem_cons_self⟩ ?_; (first | exact trivial | exact rfl); simp only [St.set, List.map_cons, List.map_nil, Nat.reduceAdd])))
    refine aw_condS rfl (fun hc => ?_) (fun hc => ?_)
    · (first | exact absurd trivial hc | exact absurd rfl hc | (cases hc; done) | omega | exact absurd hc (by decide) | (simp at hc; done))
    · (repeat (first | refine walkS ?_ | (refine callPre ?_; (first | refine callN_funS rfl (readIntI_c (l := List.take (p + r.size.toNat - p) (List.drop p b)) r.little) ?_)) | (refine callPreL ?_; (first | refine callL_funS rfl (readIntI_c (l := List.take (p + r.size.toNat - p) (List.drop p b)) r.little) ?_))))
      (refine aw_ret ?_; (simp only [Fin, Tryd.results51]; refine finS ?_); exact ⟨_, [], .inl ⟨rfl, rfl⟩, _, (chk D b (a + 1) : List Eng.D).map .d, [], rfl, toZL_d _ (chk D b (a + 1)), by simp, by rw [e2, show p + r.size.toNat - p = r.size.toNat by omega], rfl⟩)

set_option maxRecDepth 100000 in
set_option maxHeartbeats 1000000 in
theorem constant_c (D : List RuleD) {r : RuleD} {M : Nat} (hr : RB M r) (hM : M ≤ 1048576) {b : List UInt8} (hb : b.length ≤ 1048576) (a : Int) (p : Nat) (hp : p ≤ b.length) : AC Tryd.prog 52 [.ptr 0 0, .d (encR r), .d (iD p)] (some ((chk D b a).map .d)) (fun r' b' => r' = .d (spotD (constAt b p 0 r.bytes)) ∧ b' = some ((chk D b a).map .d)) := by
  have hl := hr.lb
  refine calls_body Tryd.func52 rfl Tryd.call52 Tryd.ntmps52 (by simp) (by simp [ArgsOk]) (by simp [Rz.nkL, Rz.nk]) fun en hsz hks hk0 => ?_; simp only [St.init, frOf, Rz.addSL, Rz.addS, Rz.toAL, Rz.toA, Rz.nk, List.zipIdx_cons, List.zipIdx_nil, List.map_cons, List.map_nil, Nat.zero_add, Nat.reduceAdd]
  refine walkS ?_
  refine aw_loopS [0, 2, 4, 6, 10, 11] (fun _ _ => []) (fun _ k => [(12, .d (iD (k : Nat)))]) [] (fun _ _ => []) [] (fun _ _ => []) (fun k => k ≤ r.bytes.length ∧ p + k ≤ b.length ∧ constAt b p 0 r.bytes = constAt b p k (r.bytes.drop k)) (fun k => r.bytes.length - k) (0) hks (fun _ => rfl) ⟨Nat.zero_le _, hp, rfl⟩ wkS ?_; intro x hx; simp (decide := true) only [St.head, List.map_cons, List.map_nil, lk, rmv, List.cons_append, List.nil_append, List.append_nil, reduceIte, Nat.reduceAdd]
  obtain ⟨hx1, hx2, hx3⟩ := hx
  refine walkS ?_
  refine aw_condS rfl (fun hk => ?_) (fun hk => ?_)
  · have hd : r.bytes.drop x = r.bytes[x]'(by omega) :: r.bytes.drop (x + 1) := List.drop_eq_getElem_cons (by omega)
    rw [hd] at hx3
    refine walkS ?_
    refine aw_condS rfl (fun hs => ?_) (fun hs => ?_)
    · refine walkS ?_
      (refine aw_ret ?_; (simp only [Fin, Tryd.results52]; refine finS ?_); exact ⟨_, [], .inl ⟨rfl, rfl⟩, _, (chk D b a : List Eng.D).map .d, [], rfl, toZL_d _ (chk D b a), by simp, by rw [hx3, constAt_short (by omega)]; rfl, rfl⟩)
    · have hi : b[p + x]? = some (b[p + x]'(by omega)) := List.getElem?_eq_getElem (by omega)
      have hpx : ((p : Int) + x).toNat = p + x := by omega
      (repeat (first | refine aw_seq ?_ | refine aw_region ?_ | refine aw_block ?_ | (refine aw_exit ?_; (try simp (decide := true) only [reduceIte])) | (refine aw_skip ?_; try dsimp only) | (refine aw_any (by kernel_rfl) (by kernel_rfl) (by simp only [hsz]; kernel_rfl) ?_) | (refine ow_nil ?_; try dsimp only) | (refine ol_go ?_ (fun K1 hK1 => ?_); (first | exact trivial | exact rfl); refine evS ?_; (try rw [hpx]); (first | refine ⟨_, idx_some _ hi, ?_⟩ | skip); refine hK1 _ _ ?_; clear hK1 K1) | (refine ol_skip rfl rfl ?_ ?_; (focus (intro hne; cases hne; done)); simp only [St.set]) | (refine ol_nil ⟨by kernel_rfl, ?_⟩; try dsimp only) | (refine ow_go ?_ (fun x hx => by cases hx <;> (rw [hsz]; decide)) (fun K1 hK1 => ?_); (first | exact trivial | exact rfl); refine evS ?_; (try rw [hpx]); (first | refine ⟨_, idx_some _ hi, ?_⟩ | skip); refine hK1 _ ?_; clear hK1 K1) | (refine ow_skip rfl rfl ?_ (fun x hx => by cases hx <;> (rw [hsz]; decide)) ?_; (focus (intro hne; cases hne; done)); simp only [St.set])))
      refine aw_condS rfl (fun hn => ?_) (fun hn => ?_)
      · refine walkS ?_
        (refine aw_ret ?_; (simp only [Fin, Tryd.results52]; refine finS ?_); exact ⟨_, [], .inl ⟨rfl, rfl⟩, _, (chk D b a : List Eng.D).map .d, [], rfl, toZL_d _ (chk D b a), by simp, by rw [hx3, constAt_bad (by omega) (u8_ninj hn)]; rfl, rfl⟩)
      · refine walkS ?_
        refine ⟨x + 1, ⟨by omega, by omega, by rw [hx3, constAt_step (by omega) (u8_inj hn)]⟩, by omega, ?_⟩
        exact wkS
  · refine walkS ?_
    (refine aw_ret ?_; (simp only [Fin, Tryd.results52]; refine finS ?_); exact ⟨_, [], .inl ⟨rfl, rfl⟩, _, (chk D b a : List Eng.D).map .d, [], rfl, toZL_d _ (chk D b a), by simp, by rw [hx3, List.drop_eq_nil_of_le (by omega), constAt_end, show x = r.bytes.length by omega]; rfl, rfl⟩)
end Go.Proofs.YtoegmaebdihnaaaDoor.Eng
