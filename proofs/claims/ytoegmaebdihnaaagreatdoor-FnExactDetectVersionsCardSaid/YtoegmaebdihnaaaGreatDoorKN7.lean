/-
  The kinds of rules that the reference reads by their items: options and what is checked.
-/
import Derived.Test.YtoegmaebdihnaaaGreatDoorKN6
set_option linter.unusedSimpArgs false
set_option linter.unusedVariables false
namespace Go.Proofs.YtoegmaebdihnaaaGreatDoor.Eng
open Go Go.RowKit

section
variable {M : Nat} {D : List RuleD} {b : List UInt8}

theorem u8le (c : UInt8) : (c.toNat : Int) ≤ 255 := by have := c.toNat_lt; omega
theorem replicate_get {n x i : Nat} (h : i < (List.replicate n x).length) : (List.replicate n x)[i] = x := by simp
theorem l11Items_n {f : Nat} (H : ReadOK D b f) {r : RuleD} (hr : RB M r) (hM : M ≤ 1048576) (number : Int) (h5 : r.kind = 5 → 2 ≤ r.kids.length) (h7 : r.kind = 7 → r.kids.length = r.tags.length + 1) (h8 : r.kind = 8 ∨ r.kind = 9 → 1 ≤ r.kids.length)
    {x : Nat} (n : Nat) (hn : n ≤ 1048576) (hx : ∀ i, itemK r number i = (x : Int)) (hxf : x < f ∧ x < D.length) (p : Nat) (hp : p ≤ b.length) : AC Tryz.prog 104 [.d (encD D), .d (encR r), .d (iD number), .d (iD (n : Nat)), .d (encB b), .d (iD p)] none (fun r' _ => r' = rdR (mkItems 0 (rdItems (rd D b f) (List.replicate n x) p))) := by
  have := l11Items_c H hr hM number h5 h7 h8 (List.replicate n x) (by simpa using hn) (fun i hi => by rw [replicate_get hi]; exact ⟨hx i, hxf⟩) p hp
  rwa [List.length_replicate] at this
theorem kid_nat {n : Nat} {r : RuleD} (G : GoodR D n r) (h : 0 < r.kids.length) : ∃ x : Nat, kid0 r = x ∧ x < n := by
  have h1 := kids0 h
  have h2 := G.kid 0 h
  rw [List.getElem?_eq_getElem h] at h1
  have h3 := Option.some.inj h1
  exact ⟨(kid0 r).toNat, by omega, by omega⟩

private theorem tyF : ((((((bytesT Tryz.prog 25 = true ∧ tyElem Tryz.prog 104 = some 9) ∧ (tyElem Tryz.prog 25 = some 5 ∧ tyElem Tryz.prog 28 = some 107)) ∧ ((tyElem Tryz.prog 39 = some 41 ∧ tyElem Tryz.prog 54 = some 3) ∧ (tyField Tryz.prog 107 0 = some (0, 9) ∧ tyField Tryz.prog 107 1 = some (1, 3)))) ∧ (((tyField Tryz.prog 107 2 = some (2, 3) ∧ tyField Tryz.prog 107 3 = some (3, 4)) ∧ (tyField Tryz.prog 107 4 = some (4, 25) ∧ tyField Tryz.prog 107 5 = some (5, 104))) ∧ ((tyField Tryz.prog 107 6 = some (6, 54) ∧ tyField Tryz.prog 107 7 = some (7, 54)) ∧ (tyField Tryz.prog 30 0 = some (0, 28) ∧ tyField Tryz.prog 41 0 = some (0, 3))))) ∧ ((((tyField Tryz.prog 41 1 = some (1, 25) ∧ tyField Tryz.prog 41 2 = some (2, 39)) ∧ (tyK Tryz.prog 104 = some (false, 1) ∧ tyK Tryz.prog 107 = some (true, 8))) ∧ ((tyK Tryz.prog 25 = some (false, 1) ∧ tyK Tryz.prog 28 = some (false, 1)) ∧ (tyK Tryz.prog 3 = some (false, 1) ∧ tyK Tryz.prog 30 = some (true, 1)))) ∧ (((tyK Tryz.prog 39 = some (false, 1) ∧ tyK Tryz.prog 4 = some (false, 1)) ∧ (tyK Tryz.prog 41 = some (true, 3) ∧ tyK Tryz.prog 5 = some (false, 1))) ∧ ((tyK Tryz.prog 54 = some (false, 1) ∧ tyK Tryz.prog 9 = some (false, 1)) ∧ (tyPlaces Tryz.prog 107 = some [(0, 1), (1, 1), (2, 1), (3, 1), (4, 1), (5, 1), (6, 1), (7, 1)] ∧ (tyPlaces Tryz.prog 30 = some [(0, 1)] ∧ tyPlaces Tryz.prog 41 = some [(0, 1), (1, 1), (2, 1)])))))) ∧ (((((tyRow Tryz.prog 104 = some 1 ∧ tyRow Tryz.prog 107 = some 8) ∧ (tyRow Tryz.prog 25 = some 1 ∧ tyRow Tryz.prog 28 = some 1)) ∧ ((tyRow Tryz.prog 3 = some 1 ∧ tyRow Tryz.prog 30 = some 1) ∧ (tyRow Tryz.prog 39 = some 1 ∧ tyRow Tryz.prog 4 = some 1))) ∧ (((tyRow Tryz.prog 41 = some 3 ∧ tyRow Tryz.prog 5 = some 1) ∧ (tyRow Tryz.prog 54 = some 1 ∧ tyRow Tryz.prog 9 = some 1)) ∧ ((Tryz.prog.underlying 104 = some (TypeDesc.slice 9) ∧ Tryz.prog.underlying 25 = some (TypeDesc.slice 5)) ∧ (Tryz.prog.underlying 28 = some (TypeDesc.slice 107) ∧ Tryz.prog.underlying 3 = some (TypeDesc.int IntKind.i64))))) ∧ ((((Tryz.prog.underlying 39 = some (TypeDesc.slice 41) ∧ Tryz.prog.underlying 4 = some (TypeDesc.bool)) ∧ (Tryz.prog.underlying 5 = some (TypeDesc.int IntKind.u8) ∧ Tryz.prog.underlying 54 = some (TypeDesc.slice 3))) ∧ ((Tryz.prog.underlying 9 = some (TypeDesc.string) ∧ tyZero Tryz.prog 104 = some [Value.slice none 0 0]) ∧ (tyZero Tryz.prog 107 = some [Value.string ByteArray.empty, Value.int IntKind.i64 0, Value.int IntKind.i64 0, Value.bool false, Value.slice none 0 0, Value.slice none 0 0, Value.slice none 0 0, Value.slice none 0 0] ∧ tyZero Tryz.prog 25 = some [Value.slice none 0 0]))) ∧ (((tyZero Tryz.prog 28 = some [Value.slice none 0 0] ∧ tyZero Tryz.prog 3 = some [Value.int IntKind.i64 0]) ∧ (tyZero Tryz.prog 30 = some [Value.slice none 0 0] ∧ tyZero Tryz.prog 39 = some [Value.slice none 0 0])) ∧ ((tyZero Tryz.prog 4 = some [Value.bool false] ∧ tyZero Tryz.prog 41 = some [Value.int IntKind.i64 0, Value.slice none 0 0, Value.slice none 0 0]) ∧ (tyZero Tryz.prog 5 = some [Value.int IntKind.u8 0] ∧ (tyZero Tryz.prog 54 = some [Value.slice none 0 0] ∧ tyZero Tryz.prog 9 = some [Value.string ByteArray.empty]))))))) := ⟨⟨⟨⟨⟨⟨tb25, te104⟩, ⟨te25, te28⟩⟩, ⟨⟨te39, te54⟩, ⟨tf107_0, tf107_1⟩⟩⟩, ⟨⟨⟨tf107_2, tf107_3⟩, ⟨tf107_4, tf107_5⟩⟩, ⟨⟨tf107_6, tf107_7⟩, ⟨tf30_0, tf41_0⟩⟩⟩⟩, ⟨⟨⟨⟨tf41_1, tf41_2⟩, ⟨tk104, tk107⟩⟩, ⟨⟨tk25, tk28⟩, ⟨tk3, tk30⟩⟩⟩, ⟨⟨⟨tk39, tk4⟩, ⟨tk41, tk5⟩⟩, ⟨⟨tk54, tk9⟩, ⟨tp107, ⟨tp30, tp41⟩⟩⟩⟩⟩⟩, ⟨⟨⟨⟨⟨tr104, tr107⟩, ⟨tr25, tr28⟩⟩, ⟨⟨tr3, tr30⟩, ⟨tr39, tr4⟩⟩⟩, ⟨⟨⟨tr41, tr5⟩, ⟨tr54, tr9⟩⟩, ⟨⟨tu104, tu25⟩, ⟨tu28, tu3⟩⟩⟩⟩, ⟨⟨⟨⟨tu39, tu4⟩, ⟨tu5, tu54⟩⟩, ⟨⟨tu9, tz104⟩, ⟨tz107, tz25⟩⟩⟩, ⟨⟨⟨tz28, tz3⟩, ⟨tz30, tz39⟩⟩, ⟨⟨tz4, tz41⟩, ⟨tz5, ⟨tz54, tz9⟩⟩⟩⟩⟩⟩⟩
set_option maxRecDepth 100000 in
set_option maxHeartbeats 1000000 in
theorem l11Option_c (hD : DB M D) (hM : M ≤ 1048576) (hb : b.length ≤ 1048576) {f : Nat} (H : ReadOK D b f) {n : Nat} {r : RuleD} (hr : D[n]? = some r) (hn : n ≤ f) (G : GoodR D n r) (hk : r.kind = 8) (p : Nat) (hp : p ≤ b.length) : AC Tryz.prog 106 [.d (encD D), .d (encR r), .d (encB b), .d (iD p)] none (fun r' _ => r' = rdR (rd D b (f + 1) n p)) := by
  have hrb := hD.rule r (List.mem_of_getElem? hr)
  have g1 := G.k8 hk
  obtain ⟨x, ex, hx⟩ := kid_nat G (by omega)
  have hrd := ruleD_get hr
  have hnl : n < D.length := (List.getElem?_eq_some_iff.1 hr).1
  cases hc0 : b[p]? with
  | none =>
    have hpl : b.length ≤ p := List.getElem?_eq_none_iff.1 hc0
    refine calls_body Tryz.func106 rfl Tryz.call106 Tryz.ntmps106 (by simp) (by simp [ArgsOk]) (by simp [Rz.nkL, Rz.nk]) fun en hsz hks hk0 => ?_; simp only [St.init, frOf, Rz.addSL, Rz.addS, Rz.toAL, Rz.toA, Rz.nk, List.zipIdx_cons, List.zipIdx_nil, List.map_cons, List.map_nil, Nat.zero_add, Nat.reduceAdd]
    refine walkS ?_
    refine aw_condS rfl (fun hc => ?_) (fun hc => ?_)
    · refine walkS ?_
      (refine aw_ret ?_; (simp only [Fin, Tryz.results106]; refine finS ?_); refine ⟨_, [], .inr (.inl ⟨.tup [encV V0, iD (p : Int), iD 1], rfl, rfl, ?_⟩), List.nodup_nil, by rw [rd_8n hrd hk hc0]; rfl⟩; exact wkDS)
    · omega
  | some c =>
    have hpl := get_lt hc0
    have hle := u8le c
    by_cases h1 : 1 < c.toNat
    · refine calls_body Tryz.func106 rfl Tryz.call106 Tryz.ntmps106 (by simp) (by simp [ArgsOk]) (by simp [Rz.nkL, Rz.nk]) fun en hsz hks hk0 => ?_; simp only [St.init, frOf, Rz.addSL, Rz.addS, Rz.toAL, Rz.toA, Rz.nk, List.zipIdx_cons, List.zipIdx_nil, List.map_cons, List.map_nil, Nat.zero_add, Nat.reduceAdd]
      refine walkS ?_
      refine aw_condS rfl (fun hc => ?_) (fun hc => ?_)
      · omega
      refine walkS ?_
      refine aw_condS rfl (fun hc => ?_) (fun hc => ?_)
      · refine walkS ?_
        (refine aw_ret ?_; (simp only [Fin, Tryz.results106]; refine finS ?_); refine ⟨_, [], .inr (.inl ⟨.tup [encV V0, iD (p : Int), iD 4], rfl, rfl, ?_⟩), List.nodup_nil, by rw [rd_8f hrd hk hc0 h1]; rfl⟩; exact wkDS)
      · omega
    · have hfin := rd_8s (f := f) hrd hk hc0 h1
      rw [show (kid0 r).toNat = x by omega] at hfin
      have HI := l11Items_n H hrb hM 0 (by omega) (by omega) (by omega) c.toNat (by omega) (fun i => (itemK_8 (i := i) (n := 0) (.inl hk)).trans ex) ⟨by omega, by omega⟩ (p + 1) (by omega)
      refine calls_body Tryz.func106 rfl Tryz.call106 Tryz.ntmps106 (by simp) (by simp [ArgsOk]) (by simp [Rz.nkL, Rz.nk]) fun en hsz hks hk0 => ?_; simp only [St.init, frOf, Rz.addSL, Rz.addS, Rz.toAL, Rz.toA, Rz.nk, List.zipIdx_cons, List.zipIdx_nil, List.map_cons, List.map_nil, Nat.zero_add, Nat.reduceAdd]
      refine walkS ?_
      refine aw_condS rfl (fun hc => ?_) (fun hc => ?_)
      · omega
      refine walkS ?_
      refine aw_condS rfl (fun hc => ?_) (fun hc => ?_)
      · omega
      rw [← hfin] at HI
      (repeat (first | refine walkS ?_ | (refine callPre ?_; (first | refine callN_funS rfl (HI) ?_)) | (refine callPreL ?_; (first | refine callL_funS rfl (HI) ?_))))
      (refine aw_ret ?_; (simp only [Fin, Tryz.results106]; refine finS ?_); exact ⟨_, _, .inl ⟨rfl, rfl⟩, List.nodup_nil, rfl⟩)

set_option maxRecDepth 100000 in
set_option maxHeartbeats 1000000 in
theorem l11Checked_c (hD : DB M D) (hM : M ≤ 1048576) (hb : b.length ≤ 1048576) {f : Nat} (H : ReadOK D b f) {n : Nat} {r : RuleD} (hr : D[n]? = some r) (hn : n ≤ f) (G : GoodR D n r) (hk : r.kind = 9) (p : Nat) (hp : p ≤ b.length) : AC Tryz.prog 107 [.d (encD D), .d (encR r), .d (encB b), .d (iD p)] none (fun r' _ => r' = rdR (rd D b (f + 1) n p)) := by
  have hrb := hD.rule r (List.mem_of_getElem? hr)
  have g1 := G.k9 hk
  obtain ⟨x, ex, hx⟩ := kid_nat G (by omega)
  have hrd := ruleD_get hr
  have hnl : n < D.length := (List.getElem?_eq_some_iff.1 hr).1
  have HI := l11Items_1 H hrb hM 0 (by omega) (by omega) (by omega) (x := x) ⟨(itemK_8 (.inr hk)).trans ex, by omega, by omega⟩ p hp
  have hin := mkItems_in (n := 0) (rdItems_in (fun k p hp => rd_in D b f k p hp) [x] p hp)
  have ex' : (kid0 r).toNat = x := by omega
  cases hm : mkItems 0 (rdItems (rd D b f) [x] p) with
  | mk v y =>
    obtain ⟨q, c⟩ := y
    rw [hm] at HI hin
    obtain ⟨hin1, hin2⟩ := hin
    simp only at hin1 hin2
    rw [← ex'] at hm
    by_cases hc0 : c = 0
    · subst hc0
      cases hq : b[q]? with
      | none =>
        have hpl : b.length ≤ q := List.getElem?_eq_none_iff.1 hq
        have hfin := rd_9n hrd hk hm hq
        refine calls_body Tryz.func107 rfl Tryz.call107 Tryz.ntmps107 (by simp) (by simp [ArgsOk]) (by simp [Rz.nkL, Rz.nk]) fun en hsz hks hk0 => ?_; simp only [St.init, frOf, Rz.addSL, Rz.addS, Rz.toAL, Rz.toA, Rz.nk, List.zipIdx_cons, List.zipIdx_nil, List.map_cons, List.map_nil, Nat.zero_add, Nat.reduceAdd]
        (repeat (first | refine walkS ?_ | (refine callPre ?_; (first | refine callN_funS rfl (HI) ?_)) | (refine callPreL ?_; (first | refine callL_funS rfl (HI) ?_))))
        refine aw_condS rfl (fun hc => ?_) (fun hc => ?_)
        · exact absurd rfl hc
        refine walkS ?_
        refine aw_condS rfl (fun hc => ?_) (fun hc => ?_)
        · refine walkS ?_
          (refine aw_ret ?_; (simp only [Fin, Tryz.results107]; refine finS ?_); refine ⟨_, [], .inr (.inl ⟨.tup [encV V0, iD (q : Int), iD 1], rfl, rfl, ?_⟩), List.nodup_nil, by rw [hfin]; rfl⟩; exact wkDS)
        · omega
      | some s =>
        have hpl := get_lt hq
        have hle := u8le s
        by_cases hs : s.toNat = sumB ((b.drop p).take (q - p))
        · have hfin := rd_9s hrd hk hm hq hs
          refine calls_body Tryz.func107 rfl Tryz.call107 Tryz.ntmps107 (by simp) (by simp [ArgsOk]) (by simp [Rz.nkL, Rz.nk]) fun en hsz hks hk0 => ?_; simp only [St.init, frOf, Rz.addSL, Rz.addS, Rz.toAL, Rz.toA, Rz.nk, List.zipIdx_cons, List.zipIdx_nil, List.map_cons, List.map_nil, Nat.zero_add, Nat.reduceAdd]
          (repeat (first | refine walkS ?_ | (refine callPre ?_; (first | refine callN_funS rfl (HI) ?_)) | (refine callPreL ?_; (first | refine callL_funS rfl (HI) ?_))))
          refine aw_condS rfl (fun hc => ?_) (fun hc => ?_)
          · exact absurd rfl hc
          refine walkS ?_
          refine aw_condS rfl (fun hc => ?_) (fun hc => ?_)
          · omega
          (repeat (first | refine walkS ?_ | (refine callPre ?_; (first | refine callN_funS rfl ((sumS_c (l := List.take (q - p) (List.drop p b)) (by simp; omega))) ?_)) | (refine callPreL ?_; (first | refine callL_funS rfl ((sumS_c (l := List.take (q - p) (List.drop p b)) (by simp; omega))) ?_))))
          refine aw_condS rfl (fun hc => ?_) (fun hc => ?_)
          · omega
          · refine walkS ?_
            (refine aw_ret ?_; (simp only [Fin, Tryz.results107]; refine finS ?_); exact ⟨_, _, .inl ⟨rfl, rfl⟩, List.nodup_nil, by rw [hfin]; rfl⟩)
        · have hfin := rd_9f hrd hk hm hq hs
          refine calls_body Tryz.func107 rfl Tryz.call107 Tryz.ntmps107 (by simp) (by simp [ArgsOk]) (by simp [Rz.nkL, Rz.nk]) fun en hsz hks hk0 => ?_; simp only [St.init, frOf, Rz.addSL, Rz.addS, Rz.toAL, Rz.toA, Rz.nk, List.zipIdx_cons, List.zipIdx_nil, List.map_cons, List.map_nil, Nat.zero_add, Nat.reduceAdd]
          (repeat (first | refine walkS ?_ | (refine callPre ?_; (first | refine callN_funS rfl (HI) ?_)) | (refine callPreL ?_; (first | refine callL_funS rfl (HI) ?_))))
          refine aw_condS rfl (fun hc => ?_) (fun hc => ?_)
          · exact absurd rfl hc
          refine walkS ?_
          refine aw_condS rfl (fun hc => ?_) (fun hc => ?_)
          · omega
          (repeat (first | refine walkS ?_ | (refine callPre ?_; (first | refine callN_funS rfl ((sumS_c (l := List.take (q - p) (List.drop p b)) (by simp; omega))) ?_)) | (refine callPreL ?_; (first | refine callL_funS rfl ((sumS_c (l := List.take (q - p) (List.drop p b)) (by simp; omega))) ?_))))
          refine aw_condS rfl (fun hc => ?_) (fun hc => ?_)
          · refine walkS ?_
            (refine aw_ret ?_; (simp only [Fin, Tryz.results107]; refine finS ?_); refine ⟨_, [], .inr (.inl ⟨.tup [encV V0, iD (q : Int), iD 5], rfl, rfl, ?_⟩), List.nodup_nil, by rw [hfin]; rfl⟩; exact wkDS)
          · omega
    · have hfin := rd_9e hrd hk hm hc0
      refine calls_body Tryz.func107 rfl Tryz.call107 Tryz.ntmps107 (by simp) (by simp [ArgsOk]) (by simp [Rz.nkL, Rz.nk]) fun en hsz hks hk0 => ?_; simp only [St.init, frOf, Rz.addSL, Rz.addS, Rz.toAL, Rz.toA, Rz.nk, List.zipIdx_cons, List.zipIdx_nil, List.map_cons, List.map_nil, Nat.zero_add, Nat.reduceAdd]
      (repeat (first | refine walkS ?_ | (refine callPre ?_; (first | refine callN_funS rfl (HI) ?_)) | (refine callPreL ?_; (first | refine callL_funS rfl (HI) ?_))))
      refine aw_condS rfl (fun hc => ?_) (fun hc => ?_)
      · refine walkS ?_
        (refine aw_ret ?_; (simp only [Fin, Tryz.results107]; refine finS ?_); exact ⟨_, _, .inl ⟨rfl, rfl⟩, List.nodup_nil, by rw [hfin]⟩)
      · omega
end
end Go.Proofs.YtoegmaebdihnaaaGreatDoor.Eng
