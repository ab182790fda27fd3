/-
  The checker: parts, numbers, consts.
-/
import Derived.Test.YtmpokibohbhoeaaKN9
import Derived.Test.YtmpokibohbhoeaaKE3
set_option linter.unusedSimpArgs false
set_option linter.unusedVariables false
namespace Go.Proofs.Ytmpokibohbhoeaa.Eng
open Go Go.RowKit

/-- The checker's fields. -/
abbrev chk (D : List RuleD) (b : List UInt8) (a : Int) : List Eng.D := [encDs D, encB b, iD (IntKind.i64.wrap a)]
abbrev spotD (x : Nat × Nat) : Eng.D := .agg [iD x.1, iD x.2]
def skipP (b : List UInt8) (p n : Nat) : Nat × Nat := if b.length - p < n then (p, 1) else (p + n, 0)
def numP (r : RuleD) (b : List UInt8) (p : Nat) : Nat × Nat × Nat := match intAt r b p with
  | some m => (m, p + r.size.toNat, 0)
  | none => (0, p, 1)

private theorem tyF : ((((((bytesT Try.prog 22 = true ∧ tyElem Try.prog 106 = some 9) ∧ (tyElem Try.prog 107 = some 3 ∧ tyElem Try.prog 22 = some 5)) ∧ ((tyElem Try.prog 24 = some 109 ∧ tyField Try.prog 109 0 = some (0, 9)) ∧ (tyField Try.prog 109 1 = some (1, 3) ∧ (tyField Try.prog 109 2 = some (2, 3) ∧ tyField Try.prog 109 3 = some (3, 4))))) ∧ (((tyField Try.prog 109 4 = some (4, 22) ∧ tyField Try.prog 109 5 = some (5, 106)) ∧ (tyField Try.prog 109 6 = some (6, 107) ∧ tyField Try.prog 109 7 = some (7, 107))) ∧ ((tyField Try.prog 26 0 = some (0, 24) ∧ tyField Try.prog 74 0 = some (0, 26)) ∧ (tyField Try.prog 74 1 = some (1, 22) ∧ (tyField Try.prog 74 2 = some (2, 3) ∧ tyField Try.prog 76 0 = some (0, 3)))))) ∧ ((((tyField Try.prog 76 1 = some (1, 3) ∧ tyK Try.prog 106 = some (false, 1)) ∧ (tyK Try.prog 107 = some (false, 1) ∧ tyK Try.prog 109 = some (true, 8))) ∧ ((tyK Try.prog 22 = some (false, 1) ∧ tyK Try.prog 24 = some (false, 1)) ∧ (tyK Try.prog 26 = some (true, 1) ∧ (tyK Try.prog 3 = some (false, 1) ∧ tyK Try.prog 4 = some (false, 1))))) ∧ (((tyK Try.prog 5 = some (false, 1) ∧ tyK Try.prog 72 = some (false, 1)) ∧ (tyK Try.prog 74 = some (true, 3) ∧ tyK Try.prog 76 = some (true, 2))) ∧ ((tyK Try.prog 9 = some (false, 1) ∧ tyPlaces Try.prog 109 = some [(0, 1), (1, 1), (2, 1), (3, 1), (4, 1), (5, 1), (6, 1), (7, 1)]) ∧ (tyPlaces Try.prog 26 = some [(0, 1)] ∧ (tyPlaces Try.prog 74 = some [(0, 1), (1, 1), (2, 1)] ∧ tyPlaces Try.prog 76 = some [(0, 1), (1, 1)])))))) ∧ (((((tyFlat Try.prog 76 = some [0, 0] ∧ tyRow Try.prog 106 = some 1) ∧ (tyRow Try.prog 107 = some 1 ∧ tyRow Try.prog 109 = some 8)) ∧ ((tyRow Try.prog 22 = some 1 ∧ tyRow Try.prog 24 = some 1) ∧ (tyRow Try.prog 26 = some 1 ∧ (tyRow Try.prog 3 = some 1 ∧ tyRow Try.prog 4 = some 1)))) ∧ (((tyRow Try.prog 5 = some 1 ∧ tyRow Try.prog 72 = some 1) ∧ (tyRow Try.prog 74 = some 3 ∧ tyRow Try.prog 76 = some 2)) ∧ ((tyRow Try.prog 9 = some 1 ∧ Try.prog.underlying 106 = some (TypeDesc.slice 9)) ∧ (Try.prog.underlying 107 = some (TypeDesc.slice 3) ∧ (Try.prog.underlying 22 = some (TypeDesc.slice 5) ∧ Try.prog.underlying 24 = some (TypeDesc.slice 109)))))) ∧ ((((Try.prog.underlying 3 = some (TypeDesc.int IntKind.i64) ∧ Try.prog.underlying 4 = some (TypeDesc.bool)) ∧ (Try.prog.underlying 5 = some (TypeDesc.int IntKind.u8) ∧ Try.prog.underlying 72 = some (TypeDesc.pointer 74))) ∧ ((Try.prog.underlying 9 = some (TypeDesc.string) ∧ tyZero Try.prog 106 = some [Value.slice none 0 0]) ∧ (tyZero Try.prog 107 = some [Value.slice none 0 0] ∧ (tyZero Try.prog 109 = some [Value.string ByteArray.empty, Value.int IntKind.i64 0, Value.int IntKind.i64 0, Value.bool false, Value.slice none 0 0, Value.slice none 0 0, Value.slice none 0 0, Value.slice none 0 0] ∧ tyZero Try.prog 22 = some [Value.slice none 0 0])))) ∧ (((tyZero Try.prog 24 = some [Value.slice none 0 0] ∧ tyZero Try.prog 26 = some [Value.slice none 0 0]) ∧ (tyZero Try.prog 3 = some [Value.int IntKind.i64 0] ∧ tyZero Try.prog 4 = some [Value.bool false])) ∧ ((tyZero Try.prog 5 = some [Value.int IntKind.u8 0] ∧ tyZero Try.prog 72 = some [Value.pointer none]) ∧ (tyZero Try.prog 74 = some [Value.slice none 0 0, Value.slice none 0 0, Value.int IntKind.i64 0] ∧ (tyZero Try.prog 76 = some [Value.int IntKind.i64 0, Value.int IntKind.i64 0] ∧ tyZero Try.prog 9 = some [Value.string ByteArray.empty]))))))) := ⟨⟨⟨⟨⟨⟨tb22, te106⟩, ⟨te107, te22⟩⟩, ⟨⟨te24, tf109_0⟩, ⟨tf109_1, ⟨tf109_2, tf109_3⟩⟩⟩⟩, ⟨⟨⟨tf109_4, tf109_5⟩, ⟨tf109_6, tf109_7⟩⟩, ⟨⟨tf26_0, tf74_0⟩, ⟨tf74_1, ⟨tf74_2, tf76_0⟩⟩⟩⟩⟩, ⟨⟨⟨⟨tf76_1, tk106⟩, ⟨tk107, tk109⟩⟩, ⟨⟨tk22, tk24⟩, ⟨tk26, ⟨tk3, tk4⟩⟩⟩⟩, ⟨⟨⟨tk5, tk72⟩, ⟨tk74, tk76⟩⟩, ⟨⟨tk9, tp109⟩, ⟨tp26, ⟨tp74, tp76⟩⟩⟩⟩⟩⟩, ⟨⟨⟨⟨⟨tq76, tr106⟩, ⟨tr107, tr109⟩⟩, ⟨⟨tr22, tr24⟩, ⟨tr26, ⟨tr3, tr4⟩⟩⟩⟩, ⟨⟨⟨tr5, tr72⟩, ⟨tr74, tr76⟩⟩, ⟨⟨tr9, tu106⟩, ⟨tu107, ⟨tu22, tu24⟩⟩⟩⟩⟩, ⟨⟨⟨⟨tu3, tu4⟩, ⟨tu5, tu72⟩⟩, ⟨⟨tu9, tz106⟩, ⟨tz107, ⟨tz109, tz22⟩⟩⟩⟩, ⟨⟨⟨tz24, tz26⟩, ⟨tz3, tz4⟩⟩, ⟨⟨tz5, tz72⟩, ⟨tz74, ⟨tz76, tz9⟩⟩⟩⟩⟩⟩⟩
set_option maxRecDepth 100000 in
set_option maxHeartbeats 1000000 in
theorem skip_c (D : List RuleD) {b : List UInt8} (hb : b.length ≤ 1048576) (a : Int) (p : Nat) (hp : p ≤ b.length) (n : Nat) (hn : n ≤ 4294967296) : AC Try.prog 97 [.ptr 0 0, .d (iD p), .d (iD n)] (some ((chk D b a).map .d)) (fun r' b' => r' = .d (spotD (skipP b p n)) ∧ b' = some ((chk D b a).map .d)) := by
  refine calls_body Try.func97 rfl Try.call97 Try.ntmps97 (by simp) (by simp [ArgsOk]) (by simp [Rz.nkL, Rz.nk]) fun en hsz hks hk0 => ?_; simp only [St.init, frOf, Rz.addSL, Rz.addS, Rz.toAL, Rz.toA, Rz.nk, List.zipIdx_cons, List.zipIdx_nil, List.map_cons, List.map_nil, Nat.zero_add, Nat.reduceAdd]
  refine walkS ?_
  refine aw_condS rfl (fun hc => ?_) (fun hc => ?_)
  · refine walkS ?_
    (refine aw_ret ?_; (simp only [Fin, Try.results97]; refine finS ?_); exact ⟨_, [], .inl ⟨rfl, rfl⟩, _, (chk D b a : List Eng.D).map .d, [], rfl, toZL_d _ (chk D b a), by simp, by rw [skipP, if_pos (by omega)]; rfl, rfl⟩)
  · refine walkS ?_
    (refine aw_ret ?_; (simp only [Fin, Try.results97]; refine finS ?_); exact ⟨_, [], .inl ⟨rfl, rfl⟩, _, (chk D b a : List Eng.D).map .d, [], rfl, toZL_d _ (chk D b a), by simp, by rw [skipP, if_neg (by omega)]; rfl, rfl⟩)

set_option maxRecDepth 100000 in
set_option maxHeartbeats 1000000 in
theorem number_c {M : Nat} {D : List RuleD} (hD : DB M D) (hM : M ≤ 1048576) {b : List UInt8} (hb : b.length ≤ 1048576) (a : Int) {n : Nat} {r : RuleD} (hr : D[n]? = some r) (hsz' : 1 ≤ r.size ∧ r.size ≤ 4) (p : Nat) (hp : p ≤ b.length) : AC Try.prog 95 [.ptr 0 0, .d (iD n), .d (iD p)] (some ((chk D b a).map .d)) (fun r' b' => r' = .d (.tup [iD (numP r b p).1, spotD (numP r b p).2]) ∧ b' = some ((chk D b (a + 1)).map .d)) := by
  have HS := skip_c D hb (a + 1) p hp r.size.toNat (by omega)
  rw [Int.toNat_of_nonneg (by omega)] at HS
  by_cases h : b.length - p < r.size.toNat
  · have e : skipP b p r.size.toNat = (p, 1) := if_pos h
    have e2 : numP r b p = (0, p, 1) := by rw [numP, intAt, if_pos (by omega)]
    rw [e] at HS
    refine calls_body Try.func95 rfl Try.call95 Try.ntmps95 (by simp) (by simp [ArgsOk]) (by simp [Rz.nkL, Rz.nk]) fun en hsz hks hk0 => ?_; simp only [St.init, frOf, Rz.addSL, Rz.addS, Rz.toAL, Rz.toA, Rz.nk, List.zipIdx_cons, List.zipIdx_nil, List.map_cons, List.map_nil, Nat.zero_add, Nat.reduceAdd]
    (repeat (first | refine walkS ?_ | (refine ow_call1d (k := 0) ?_ (fun x hx => by cases hx <;> (rw [hsz]; decide)) rfl (HS) rfl rfl ?_; (first | exact trivial | exact rfl); simp only [St.set, List.map_cons, List.map_nil, Nat.reduceAdd]) | (refine ol_call1d (k := 0) ?_ rfl (HS) rfl rfl ⟨0, List.mem_cons_self⟩ ?_; (first | exact trivial | exact rfl); simp only [St.set, List.map_cons, List.map_nil, Nat.reduceAdd])))
    refine aw_condS rfl (fun hc => ?_) (fun hc => ?_)
    · refine walkS ?_
      (refine aw_ret ?_; (simp only [Fin, Try.results95]; refine finS ?_); exact ⟨_, [], .inl ⟨rfl, rfl⟩, _, (chk D b (a + 1) : List Eng.D).map .d, [], rfl, toZL_d _ (chk D b (a + 1)), by simp, by rw [e2]; rfl, rfl⟩)
    · (first | exact absurd trivial hc | exact absurd rfl hc | (cases hc; done) | omega | exact absurd hc (by decide) | (simp at hc; done))
  · have e : skipP b p r.size.toNat = (p + r.size.toNat, 0) := if_neg h
    have e2 : numP r b p = (readInt ((b.drop p).take r.size.toNat) r.little, p + r.size.toNat, 0) := by rw [numP, intAt, if_neg (by omega)]
    rw [e] at HS
    refine calls_body Try.func95 rfl Try.call95 Try.ntmps95 (by simp) (by simp [ArgsOk]) (by simp [Rz.nkL, Rz.nk]) fun en hsz hks hk0 => ?_; simp only [St.init, frOf, Rz.addSL, Rz.addS, Rz.toAL, Rz.toA, Rz.nk, List.zipIdx_cons, List.zipIdx_nil, List.map_cons, List.map_nil, Nat.zero_add, Nat.reduceAdd]
    (repeat (first | refine walkS ?_ | (refine ow_call1d (k := 0) ?_ (fun x hx => by cases hx <;> (rw [hsz]; decide)) rfl (HS) rfl rfl ?_; (first | exact trivial | exact rfl); simp only [St.set, List.map_cons, List.map_nil, Nat.reduceAdd]) | (refine ol_call1d (k := 0) ?_ rfl (HS) rfl rfl ⟨0, List.mem_cons_self⟩ ?_; (first | exact trivial | exact rfl); simp only [St.set, List.map_cons, List.map_nil, Nat.reduceAdd])))
    refine aw_condS rfl (fun hc => ?_) (fun hc => ?_)
    · (first | exact absurd trivial hc | exact absurd rfl hc | (cases hc; done) | omega | exact absurd hc (by decide) | (simp at hc; done))
    · (repeat (first | refine walkS ?_ | (refine callPre ?_; (first | refine callN_funS rfl (readIntI_c (l := List.take (p + r.size.toNat - p) (List.drop p b)) r.little) ?_)) | (refine callPreL ?_; (first | refine callL_funS rfl (readIntI_c (l := List.take (p + r.size.toNat - p) (List.drop p b)) r.little) ?_))))
      (refine aw_ret ?_; (simp only [Fin, Try.results95]; refine finS ?_); exact ⟨_, [], .inl ⟨rfl, rfl⟩, _, (chk D b (a + 1) : List Eng.D).map .d, [], rfl, toZL_d _ (chk D b (a + 1)), by simp, by rw [e2, show p + r.size.toNat - p = r.size.toNat by omega], rfl⟩)

set_option maxRecDepth 100000 in
set_option maxHeartbeats 1000000 in
theorem constant_c (D : List RuleD) {r : RuleD} {M : Nat} (hr : RB M r) (hM : M ≤ 1048576) {b : List UInt8} (hb : b.length ≤ 1048576) (a : Int) (p : Nat) (hp : p ≤ b.length) : AC Try.prog 96 [.ptr 0 0, .d (encR r), .d (iD p)] (some ((chk D b a).map .d)) (fun r' b' => r' = .d (spotD (constAt b p 0 r.bytes)) ∧ b' = some ((chk D b a).map .d)) := by
  have hl := hr.lb
  refine calls_body Try.func96 rfl Try.call96 Try.ntmps96 (by simp) (by simp [ArgsOk]) (by simp [Rz.nkL, Rz.nk]) fun en hsz hks hk0 => ?_; simp only [St.init, frOf, Rz.addSL, Rz.addS, Rz.toAL, Rz.toA, Rz.nk, List.zipIdx_cons, List.zipIdx_nil, List.map_cons, List.map_nil, Nat.zero_add, Nat.reduceAdd]
  refine walkS ?_
  refine aw_loopS [0, 2, 4, 6, 10, 11] (fun _ _ => []) (fun _ k => [(12, .d (iD (k : Nat)))]) [] (fun _ _ => []) [] (fun _ _ => []) (fun k => k ≤ r.bytes.length ∧ p + k ≤ b.length ∧ constAt b p 0 r.bytes = constAt b p k (r.bytes.drop k)) (fun k => r.bytes.length - k) (0) hks (fun _ => rfl) ⟨Nat.zero_le _, hp, rfl⟩ wkS ?_; intro x hx; simp (decide := true) only [St.head, List.map_cons, List.map_nil, lk, rmv, List.cons_append, List.nil_append, List.append_nil, reduceIte, Nat.reduceAdd]
  obtain ⟨hx1, hx2, hx3⟩ := hx
  refine walkS ?_
  refine aw_condS rfl (fun hk => ?_) (fun hk => ?_)
  · have hd : r.bytes.drop x = r.bytes[x]'(by omega) :: r.bytes.drop (x + 1) := List.drop_eq_getElem_cons (by omega)
    rw [hd] at hx3
    refine walkS ?_
    refine aw_condS rfl (fun hs => ?_) (fun hs => ?_)
    · refine walkS ?_
      (refine aw_ret ?_; (simp only [Fin, Try.results96]; refine finS ?_); exact ⟨_, [], .inl ⟨rfl, rfl⟩, _, (chk D b a : List Eng.D).map .d, [], rfl, toZL_d _ (chk D b a), by simp, by rw [hx3, constAt_short (by omega)]; rfl, rfl⟩)
    · have hi : b[p + x]? = some (b[p + x]'(by omega)) := List.getElem?_eq_getElem (by omega)
      have hpx : ((p : Int) + x).toNat = p + x := by omega
      (repeat (first | refine aw_seq ?_ | refine aw_region ?_ | refine aw_block ?_ | (refine aw_exit ?_; (try simp (decide := true) only [reduceIte])) | (refine aw_skip ?_; try dsimp only) | (refine aw_any (by kernel_rfl) (by kernel_rfl) (by simp only [hsz]; kernel_rfl) ?_) | (refine ow_nil ?_; try dsimp only) | (refine ol_go ?_ (fun K1 hK1 => ?_); (first | exact trivial | exact rfl); refine evS ?_; (try rw [hpx]); (first | refine ⟨_, idx_some _ hi, ?_⟩ | skip); refine hK1 _ _ ?_; clear hK1 K1) | (refine ol_skip rfl rfl ?_ ?_; (focus (intro hne; cases hne; done)); simp only [St.set]) | (refine ol_nil ⟨by kernel_rfl, ?_⟩; try dsimp only) | (refine ow_go ?_ (fun x hx => by cases hx <;> (rw [hsz]; decide)) (fun K1 hK1 => ?_); (first | exact trivial | exact rfl); refine evS ?_; (try rw [hpx]); (first | refine ⟨_, idx_some _ hi, ?_⟩ | skip); refine hK1 _ ?_; clear hK1 K1) | (refine ow_skip rfl rfl ?_ (fun x hx => by cases hx <;> (rw [hsz]; decide)) ?_; (focus (intro hne; cases hne; done)); simp only [St.set])))
      refine aw_condS rfl (fun hn => ?_) (fun hn => ?_)
      · refine walkS ?_
        (refine aw_ret ?_; (simp only [Fin, Try.results96]; refine finS ?_); exact ⟨_, [], .inl ⟨rfl, rfl⟩, _, (chk D b a : List Eng.D).map .d, [], rfl, toZL_d _ (chk D b a), by simp, by rw [hx3, constAt_bad (by omega) (u8_ninj hn)]; rfl, rfl⟩)
      · refine walkS ?_
        refine ⟨x + 1, ⟨by omega, by omega, by rw [hx3, constAt_step (by omega) (u8_inj hn)]⟩, by omega, ?_⟩
        exact wkS
  · refine walkS ?_
    (refine aw_ret ?_; (simp only [Fin, Try.results96]; refine finS ?_); exact ⟨_, [], .inl ⟨rfl, rfl⟩, _, (chk D b a : List Eng.D).map .d, [], rfl, toZL_d _ (chk D b a), by simp, by rw [hx3, List.drop_eq_nil_of_le (by omega), constAt_end, show x = r.bytes.length by omega]; rfl, rfl⟩)
end Go.Proofs.Ytmpokibohbhoeaa.Eng
