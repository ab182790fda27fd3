/-
  The checker: what is checked; a value.
-/
import Derived.Test.YtoegmaebdihnaaaDoorKN13
set_option linter.unusedSimpArgs false
set_option linter.unusedVariables false
namespace Go.Proofs.YtoegmaebdihnaaaDoor.Eng
open Go Go.RowKit

section
variable {M : Nat} {D : List RuleD} {b : List UInt8}

private theorem tyF : ((((((bytesT Tryd.prog 25 = true ∧ tyElem Tryd.prog 25 = some 5) ∧ (tyElem Tryd.prog 28 = some 55 ∧ tyElem Tryd.prog 46 = some 9)) ∧ ((tyElem Tryd.prog 47 = some 3 ∧ tyField Tryd.prog 30 0 = some (0, 28)) ∧ (tyField Tryd.prog 55 0 = some (0, 9) ∧ (tyField Tryd.prog 55 1 = some (1, 3) ∧ tyField Tryd.prog 55 2 = some (2, 3))))) ∧ (((tyField Tryd.prog 55 3 = some (3, 4) ∧ tyField Tryd.prog 55 4 = some (4, 25)) ∧ (tyField Tryd.prog 55 5 = some (5, 46) ∧ tyField Tryd.prog 55 6 = some (6, 47))) ∧ ((tyField Tryd.prog 55 7 = some (7, 47) ∧ tyField Tryd.prog 86 0 = some (0, 3)) ∧ (tyField Tryd.prog 86 1 = some (1, 3) ∧ (tyField Tryd.prog 93 0 = some (0, 30) ∧ tyField Tryd.prog 93 1 = some (1, 25)))))) ∧ ((((tyField Tryd.prog 93 2 = some (2, 3) ∧ tyK Tryd.prog 25 = some (false, 1)) ∧ (tyK Tryd.prog 28 = some (false, 1) ∧ tyK Tryd.prog 3 = some (false, 1))) ∧ ((tyK Tryd.prog 30 = some (true, 1) ∧ tyK Tryd.prog 4 = some (false, 1)) ∧ (tyK Tryd.prog 46 = some (false, 1) ∧ (tyK Tryd.prog 47 = some (false, 1) ∧ tyK Tryd.prog 5 = some (false, 1))))) ∧ (((tyK Tryd.prog 55 = some (true, 8) ∧ tyK Tryd.prog 86 = some (true, 2)) ∧ (tyK Tryd.prog 9 = some (false, 1) ∧ tyK Tryd.prog 91 = some (false, 1))) ∧ ((tyK Tryd.prog 93 = some (true, 3) ∧ tyPlaces Tryd.prog 30 = some [(0, 1)]) ∧ (tyPlaces Tryd.prog 55 = some [(0, 1), (1, 1), (2, 1), (3, 1), (4, 1), (5, 1), (6, 1), (7, 1)] ∧ (tyPlaces Tryd.prog 86 = some [(0, 1), (1, 1)] ∧ tyPlaces Tryd.prog 93 = some [(0, 1), (1, 1), (2, 1)])))))) ∧ (((((tyFlat Tryd.prog 86 = some [0, 0] ∧ tyRow Tryd.prog 25 = some 1) ∧ (tyRow Tryd.prog 28 = some 1 ∧ tyRow Tryd.prog 3 = some 1)) ∧ ((tyRow Tryd.prog 30 = some 1 ∧ tyRow Tryd.prog 4 = some 1) ∧ (tyRow Tryd.prog 46 = some 1 ∧ (tyRow Tryd.prog 47 = some 1 ∧ tyRow Tryd.prog 5 = some 1)))) ∧ (((tyRow Tryd.prog 55 = some 8 ∧ tyRow Tryd.prog 86 = some 2) ∧ (tyRow Tryd.prog 9 = some 1 ∧ tyRow Tryd.prog 91 = some 1)) ∧ ((tyRow Tryd.prog 93 = some 3 ∧ Tryd.prog.underlying 25 = some (TypeDesc.slice 5)) ∧ (Tryd.prog.underlying 28 = some (TypeDesc.slice 55) ∧ (Tryd.prog.underlying 3 = some (TypeDesc.int IntKind.i64) ∧ Tryd.prog.underlying 4 = some (TypeDesc.bool)))))) ∧ ((((Tryd.prog.underlying 46 = some (TypeDesc.slice 9) ∧ Tryd.prog.underlying 47 = some (TypeDesc.slice 3)) ∧ (Tryd.prog.underlying 5 = some (TypeDesc.int IntKind.u8) ∧ Tryd.prog.underlying 9 = some (TypeDesc.string))) ∧ ((Tryd.prog.underlying 91 = some (TypeDesc.pointer 93) ∧ tyZero Tryd.prog 25 = some [Value.slice none 0 0]) ∧ (tyZero Tryd.prog 28 = some [Value.slice none 0 0] ∧ (tyZero Tryd.prog 3 = some [Value.int IntKind.i64 0] ∧ tyZero Tryd.prog 30 = some [Value.slice none 0 0])))) ∧ (((tyZero Tryd.prog 4 = some [Value.bool false] ∧ tyZero Tryd.prog 46 = some [Value.slice none 0 0]) ∧ (tyZero Tryd.prog 47 = some [Value.slice none 0 0] ∧ tyZero Tryd.prog 5 = some [Value.int IntKind.u8 0])) ∧ ((tyZero Tryd.prog 55 = some [Value.string ByteArray.empty, Value.int IntKind.i64 0, Value.int IntKind.i64 0, Value.bool false, Value.slice none 0 0, Value.slice none 0 0, Value.slice none 0 0, Value.slice none 0 0] ∧ tyZero Tryd.prog 86 = some [Value.int IntKind.i64 0, Value.int IntKind.i64 0]) ∧ (tyZero Tryd.prog 9 = some [Value.string ByteArray.empty] ∧ (tyZero Tryd.prog 91 = some [Value.pointer none] ∧ tyZero Tryd.prog 93 = some [Value.slice none 0 0, Value.slice none 0 0, Value.int IntKind.i64 0]))))))) := ⟨⟨⟨⟨⟨⟨tb25, te25⟩, ⟨te28, te46⟩⟩, ⟨⟨te47, tf30_0⟩, ⟨tf55_0, ⟨tf55_1, tf55_2⟩⟩⟩⟩, ⟨⟨⟨tf55_3, tf55_4⟩, ⟨tf55_5, tf55_6⟩⟩, ⟨⟨tf55_7, tf86_0⟩, ⟨tf86_1, ⟨tf93_0, tf93_1⟩⟩⟩⟩⟩, ⟨⟨⟨⟨tf93_2, tk25⟩, ⟨tk28, tk3⟩⟩, ⟨⟨tk30, tk4⟩, ⟨tk46, ⟨tk47, tk5⟩⟩⟩⟩, ⟨⟨⟨tk55, tk86⟩, ⟨tk9, tk91⟩⟩, ⟨⟨tk93, tp30⟩, ⟨tp55, ⟨tp86, tp93⟩⟩⟩⟩⟩⟩, ⟨⟨⟨⟨⟨tq86, tr25⟩, ⟨tr28, tr3⟩⟩, ⟨⟨tr30, tr4⟩, ⟨tr46, ⟨tr47, tr5⟩⟩⟩⟩, ⟨⟨⟨tr55, tr86⟩, ⟨tr9, tr91⟩⟩, ⟨⟨tr93, tu25⟩, ⟨tu28, ⟨tu3, tu4⟩⟩⟩⟩⟩, ⟨⟨⟨⟨tu46, tu47⟩, ⟨tu5, tu9⟩⟩, ⟨⟨tu91, tz25⟩, ⟨tz28, ⟨tz3, tz30⟩⟩⟩⟩, ⟨⟨⟨tz4, tz46⟩, ⟨tz47, tz5⟩⟩, ⟨⟨tz55, tz86⟩, ⟨tz9, ⟨tz91, tz93⟩⟩⟩⟩⟩⟩⟩
set_option maxRecDepth 100000 in
set_option maxHeartbeats 2000000 in
theorem checked_c (hD : DB M D) (hM : M ≤ 1048576) (hb : b.length ≤ 1048576) {f : Nat} (H : CkOK D b f) {n : Nat} {r : RuleD} (hr : D[n]? = some r) (hn : n ≤ f) (G : GoodR D n r) (hk : r.kind = 9) (p : Nat) (hp : p ≤ b.length) (a : Int) :
    AC Tryd.prog 57 [.ptr 0 0, .d (encR r), .d (iD p)] (some ((chk D b a).map .d)) (fun r' b' => r' = .d (spotD (rd D b (f + 1) n p).2) ∧ b' = some ((chk D b (a - 1 + (cnt D b (f + 1) n p : Nat))).map .d)) := by
  have g1 := G.k9 hk
  obtain ⟨kk, ex, hkk⟩ := kid_nat G (by omega)
  have hkid : r.kids[0]? = some (kk : Int) := by rw [kids0 (by omega), ex]
  have hrd := ruleD_get hr
  have hnl : n < D.length := (List.getElem?_eq_some_iff.1 hr).1
  have ex' : (kid0 r).toNat = kk := by omega
  have hC := cnt_9 (b := b) (f := f) (p := p) hrd hk
  rw [ex', cntItems_one] at hC
  have hT : a - 1 + (cnt D b (f + 1) n p : Nat) = a + (cnt D b f kk p : Nat) := by rw [hC]; omega
  have HV := H kk p a (by omega) (by omega) hp
  have hm2 : (mkItems 0 (rdItems (rd D b f) [(kid0 r).toNat] p)).2 = (rd D b f kk p).2 := by rw [mkItems_2, ex', rdItems_one2]
  have hin := rd_in D b f kk p hp
  rw [← hm2] at HV hin
  cases hm : mkItems 0 (rdItems (rd D b f) [(kid0 r).toNat] p) with
  | mk v y =>
    obtain ⟨q, c⟩ := y
    rw [hm] at HV hin
    obtain ⟨hin1, hin2⟩ := hin
    simp only at hin1 hin2
    by_cases hc0 : c = 0
    · subst hc0
      have HS := skip_c D hb (a + (cnt D b f kk p : Nat)) q hin2 1 (by omega)
      cases hq : b[q]? with
      | none =>
        have hpl : b.length ≤ q := List.getElem?_eq_none_iff.1 hq
        have hfin := rd_9n hrd hk hm hq
        have e : skipP b q 1 = (q, 1) := if_pos (by omega)
        rw [e] at HS
        refine calls_body Tryd.func57 rfl Tryd.call57 Tryd.ntmps57 (by simp) (by simp [ArgsOk]) (by simp [Rz.nkL, Rz.nk]) fun en hsz hks hk0 => ?_; simp only [St.init, frOf, Rz.addSL, Rz.addS, Rz.toAL, Rz.toA, Rz.nk, List.zipIdx_cons, List.zipIdx_nil, List.map_cons, List.map_nil, Nat.zero_add, Nat.reduceAdd]
        (repeat (first | refine walkS ?_ | (refine ow_call1d (k := 0) ?_ (fun x hx => by cases hx <;> (rw [hsz]; decide)) rfl (HV) rfl rfl ?_; (first | exact trivial | exact rfl); simp only [St.set, List.map_cons, List.map_nil, Nat.reduceAdd]) | (refine ol_call1d (k := 0) ?_ rfl (HV) rfl rfl ⟨0, List.mem_cons_self⟩ ?_; (first | exact trivial | exact rfl); simp only [St.set, List.map_cons, List.map_nil, Nat.reduceAdd])))
        refine aw_condS rfl (fun hc => ?_) (fun hc => ?_)
        · (first | exact absurd trivial hc | exact absurd rfl hc | (cases hc; done) | omega | exact absurd hc (by decide) | (simp at hc; done))
        (repeat (first | refine walkS ?_ | (refine ow_call1d (k := 0) ?_ (fun x hx => by cases hx <;> (rw [hsz]; decide)) rfl (HS) rfl rfl ?_; (first | exact trivial | exact rfl); simp only [St.set, List.map_cons, List.map_nil, Nat.reduceAdd]) | (refine ol_call1d (k := 0) ?_ rfl (HS) rfl rfl ⟨0, List.mem_cons_self⟩ ?_; (first | exact trivial | exact rfl); simp only [St.set, List.map_cons, List.map_nil, Nat.reduceAdd])))
        refine aw_condS rfl (fun hc => ?_) (fun hc => ?_)
        · (first | exact absurd trivial hc | exact absurd rfl hc | (cases hc; done) | omega | exact absurd hc (by decide) | (simp at hc; done))
        · refine walkS ?_
          (refine aw_ret ?_; (simp only [Fin, Tryd.results57]; refine finS ?_); exact ⟨_, [], .inl ⟨rfl, rfl⟩, _, (chk D b (a + (cnt D b f kk p : Nat)) : List Eng.D).map .d, [], rfl, toZL_d _ (chk D b (a + (cnt D b f kk p : Nat))), by simp, by rw [hfin], by rw [hT]; rfl⟩)
      | some s =>
        have hpl := get_lt hq
        have hle := u8le s
        have e : skipP b q 1 = (q + 1, 0) := if_neg (by omega)
        rw [e] at HS
        by_cases hs : s.toNat = sumB ((b.drop p).take (q - p))
        · have hfin := rd_9s hrd hk hm hq hs
          refine calls_body Tryd.func57 rfl Tryd.call57 Tryd.ntmps57 (by simp) (by simp [ArgsOk]) (by simp [Rz.nkL, Rz.nk]) fun en hsz hks hk0 => ?_; simp only [St.init, frOf, Rz.addSL, Rz.addS, Rz.toAL, Rz.toA, Rz.nk, List.zipIdx_cons, List.zipIdx_nil, List.map_cons, List.map_nil, Nat.zero_add, Nat.reduceAdd]
          (repeat (first | refine walkS ?_ | (refine ow_call1d (k := 0) ?_ (fun x hx => by cases hx <;> (rw [hsz]; decide)) rfl (HV) rfl rfl ?_; (first | exact trivial | exact rfl); simp only [St.set, List.map_cons, List.map_nil, Nat.reduceAdd]) | (refine ol_call1d (k := 0) ?_ rfl (HV) rfl rfl ⟨0, List.mem_cons_self⟩ ?_; (first | exact trivial | exact rfl); simp only [St.set, List.map_cons, List.map_nil, Nat.reduceAdd])))
          refine aw_condS rfl (fun hc => ?_) (fun hc => ?_)
          · (first | exact absurd trivial hc | exact absurd rfl hc | (cases hc; done) | omega | exact absurd hc (by decide) | (simp at hc; done))
          (repeat (first | refine walkS ?_ | (refine ow_call1d (k := 0) ?_ (fun x hx => by cases hx <;> (rw [hsz]; decide)) rfl (HS) rfl rfl ?_; (first | exact trivial | exact rfl); simp only [St.set, List.map_cons, List.map_nil, Nat.reduceAdd]) | (refine ol_call1d (k := 0) ?_ rfl (HS) rfl rfl ⟨0, List.mem_cons_self⟩ ?_; (first | exact trivial | exact rfl); simp only [St.set, List.map_cons, List.map_nil, Nat.reduceAdd]) | (refine callPre ?_; (first | refine callN_funS rfl ((sumI_c (l := List.take (q - p) (List.drop p b)) (by simp; omega))) ?_)) | (refine callPreL ?_; (first | refine callL_funS rfl ((sumI_c (l := List.take (q - p) (List.drop p b)) (by simp; omega))) ?_))))
          refine aw_condS rfl (fun hc => ?_) (fun hc => ?_)
          · omega
          · refine walkS ?_
            (refine aw_ret ?_; (simp only [Fin, Tryd.results57]; refine finS ?_); exact ⟨_, [], .inl ⟨rfl, rfl⟩, _, (chk D b (a + (cnt D b f kk p : Nat)) : List Eng.D).map .d, [], rfl, toZL_d _ (chk D b (a + (cnt D b f kk p : Nat))), by simp, by rw [hfin], by rw [hT]; rfl⟩)
        · have hfin := rd_9f hrd hk hm hq hs
          refine calls_body Tryd.func57 rfl Tryd.call57 Tryd.ntmps57 (by simp) (by simp [ArgsOk]) (by simp [Rz.nkL, Rz.nk]) fun en hsz hks hk0 => ?_; simp only [St.init, frOf, Rz.addSL, Rz.addS, Rz.toAL, Rz.toA, Rz.nk, List.zipIdx_cons, List.zipIdx_nil, List.map_cons, List.map_nil, Nat.zero_add, Nat.reduceAdd]
          (repeat (first | refine walkS ?_ | (refine ow_call1d (k := 0) ?_ (fun x hx => by cases hx <;> (rw [hsz]; decide)) rfl (HV) rfl rfl ?_; (first | exact trivial | exact rfl); simp only [St.set, List.map_cons, List.map_nil, Nat.reduceAdd]) | (refine ol_call1d (k := 0) ?_ rfl (HV) rfl rfl ⟨0, List.mem_cons_self⟩ ?_; (first | exact trivial | exact rfl); simp only [St.set, List.map_cons, List.map_nil, Nat.reduceAdd])))
          refine aw_condS rfl (fun hc => ?_) (fun hc => ?_)
          · (first | exact absurd trivial hc | exact absurd rfl hc | (cases hc; done) | omega | exact absurd hc (by decide) | (simp at hc; done))
          (repeat (first | refine walkS ?_ | (refine ow_call1d (k := 0) ?_ (fun x hx => by cases hx <;> (rw [hsz]; decide)) rfl (HS) rfl rfl ?_; (first | exact trivial | exact rfl); simp only [St.set, List.map_cons, List.map_nil, Nat.reduceAdd]) | (refine ol_call1d (k := 0) ?_ rfl (HS) rfl rfl ⟨0, List.mem_cons_self⟩ ?_; (first | exact trivial | exact rfl); simp only [St.set, List.map_cons, List.map_nil, Nat.reduceAdd]) | (refine callPre ?_; (first | refine callN_funS rfl ((sumI_c (l := List.take (q - p) (List.drop p b)) (by simp; omega))) ?_)) | (refine callPreL ?_; (first | refine callL_funS rfl ((sumI_c (l := List.take (q - p) (List.drop p b)) (by simp; omega))) ?_))))
          refine aw_condS rfl (fun hc => ?_) (fun hc => ?_)
          · refine walkS ?_
            (refine aw_ret ?_; (simp only [Fin, Tryd.results57]; refine finS ?_); exact ⟨_, [], .inl ⟨rfl, rfl⟩, _, (chk D b (a + (cnt D b f kk p : Nat)) : List Eng.D).map .d, [], rfl, toZL_d _ (chk D b (a + (cnt D b f kk p : Nat))), by simp, by rw [hfin]; rfl, by rw [hT]; rfl⟩)
          · omega
    · have hfin := rd_9e hrd hk hm hc0
      refine calls_body Tryd.func57 rfl Tryd.call57 Tryd.ntmps57 (by simp) (by simp [ArgsOk]) (by simp [Rz.nkL, Rz.nk]) fun en hsz hks hk0 => ?_; simp only [St.init, frOf, Rz.addSL, Rz.addS, Rz.toAL, Rz.toA, Rz.nk, List.zipIdx_cons, List.zipIdx_nil, List.map_cons, List.map_nil, Nat.zero_add, Nat.reduceAdd]
      (repeat (first | refine walkS ?_ | (refine ow_call1d (k := 0) ?_ (fun x hx => by cases hx <;> (rw [hsz]; decide)) rfl (HV) rfl rfl ?_; (first | exact trivial | exact rfl); simp only [St.set, List.map_cons, List.map_nil, Nat.reduceAdd]) | (refine ol_call1d (k := 0) ?_ rfl (HV) rfl rfl ⟨0, List.mem_cons_self⟩ ?_; (first | exact trivial | exact rfl); simp only [St.set, List.map_cons, List.map_nil, Nat.reduceAdd])))
      refine aw_condS rfl (fun hc => ?_) (fun hc => ?_)
      · refine walkS ?_
        (refine aw_ret ?_; (simp only [Fin, Tryd.results57]; refine finS ?_); exact ⟨_, [], .inl ⟨rfl, rfl⟩, _, (chk D b (a + (cnt D b f kk p : Nat)) : List Eng.D).map .d, [], rfl, toZL_d _ (chk D b (a + (cnt D b f kk p : Nat))), by simp, by rw [hfin], by rw [hT]; rfl⟩)
      · omega
end
end Go.Proofs.YtoegmaebdihnaaaDoor.Eng
