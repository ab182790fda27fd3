/-
  The checker: what is checked; a value.
-/
import Derived.Test.YtmpokibohbhoeaaKN13
set_option linter.unusedSimpArgs false
set_option linter.unusedVariables false
namespace Go.Proofs.Ytmpokibohbhoeaa.Eng
open Go Go.RowKit

section
variable {M : Nat} {D : List RuleD} {b : List UInt8}

private theorem tyF : ((((((bytesT Try.prog 22 = true ∧ tyElem Try.prog 106 = some 9) ∧ (tyElem Try.prog 107 = some 3 ∧ tyElem Try.prog 22 = some 5)) ∧ ((tyElem Try.prog 24 = some 109 ∧ tyField Try.prog 109 0 = some (0, 9)) ∧ (tyField Try.prog 109 1 = some (1, 3) ∧ (tyField Try.prog 109 2 = some (2, 3) ∧ tyField Try.prog 109 3 = some (3, 4))))) ∧ (((tyField Try.prog 109 4 = some (4, 22) ∧ tyField Try.prog 109 5 = some (5, 106)) ∧ (tyField Try.prog 109 6 = some (6, 107) ∧ tyField Try.prog 109 7 = some (7, 107))) ∧ ((tyField Try.prog 26 0 = some (0, 24) ∧ tyField Try.prog 74 0 = some (0, 26)) ∧ (tyField Try.prog 74 1 = some (1, 22) ∧ (tyField Try.prog 74 2 = some (2, 3) ∧ tyField Try.prog 76 0 = some (0, 3)))))) ∧ ((((tyField Try.prog 76 1 = some (1, 3) ∧ tyK Try.prog 106 = some (false, 1)) ∧ (tyK Try.prog 107 = some (false, 1) ∧ tyK Try.prog 109 = some (true, 8))) ∧ ((tyK Try.prog 22 = some (false, 1) ∧ tyK Try.prog 24 = some (false, 1)) ∧ (tyK Try.prog 26 = some (true, 1) ∧ (tyK Try.prog 3 = some (false, 1) ∧ tyK Try.prog 4 = some (false, 1))))) ∧ (((tyK Try.prog 5 = some (false, 1) ∧ tyK Try.prog 72 = some (false, 1)) ∧ (tyK Try.prog 74 = some (true, 3) ∧ tyK Try.prog 76 = some (true, 2))) ∧ ((tyK Try.prog 9 = some (false, 1) ∧ tyPlaces Try.prog 109 = some [(0, 1), (1, 1), (2, 1), (3, 1), (4, 1), (5, 1), (6, 1), (7, 1)]) ∧ (tyPlaces Try.prog 26 = some [(0, 1)] ∧ (tyPlaces Try.prog 74 = some [(0, 1), (1, 1), (2, 1)] ∧ tyPlaces Try.prog 76 = some [(0, 1), (1, 1)])))))) ∧ (((((tyFlat Try.prog 76 = some [0, 0] ∧ tyRow Try.prog 106 = some 1) ∧ (tyRow Try.prog 107 = some 1 ∧ tyRow Try.prog 109 = some 8)) ∧ ((tyRow Try.prog 22 = some 1 ∧ tyRow Try.prog 24 = some 1) ∧ (tyRow Try.prog 26 = some 1 ∧ (tyRow Try.prog 3 = some 1 ∧ tyRow Try.prog 4 = some 1)))) ∧ (((tyRow Try.prog 5 = some 1 ∧ tyRow Try.prog 72 = some 1) ∧ (tyRow Try.prog 74 = some 3 ∧ tyRow Try.prog 76 = some 2)) ∧ ((tyRow Try.prog 9 = some 1 ∧ Try.prog.underlying 106 = some (TypeDesc.slice 9)) ∧ (Try.prog.underlying 107 = some (TypeDesc.slice 3) ∧ (Try.prog.underlying 22 = some (TypeDesc.slice 5) ∧ Try.prog.underlying 24 = some (TypeDesc.slice 109)))))) ∧ ((((Try.prog.underlying 3 = some (TypeDesc.int IntKind.i64) ∧ Try.prog.underlying 4 = some (TypeDesc.bool)) ∧ (Try.prog.underlying 5 = some (TypeDesc.int IntKind.u8) ∧ Try.prog.underlying 72 = some (TypeDesc.pointer 74))) ∧ ((Try.prog.underlying 9 = some (TypeDesc.string) ∧ tyZero Try.prog 106 = some [Value.slice none 0 0]) ∧ (tyZero Try.prog 107 = some [Value.slice none 0 0] ∧ (tyZero Try.prog 109 = some [Value.string ByteArray.empty, Value.int IntKind.i64 0, Value.int IntKind.i64 0, Value.bool false, Value.slice none 0 0, Value.slice none 0 0, Value.slice none 0 0, Value.slice none 0 0] ∧ tyZero Try.prog 22 = some [Value.slice none 0 0])))) ∧ (((tyZero Try.prog 24 = some [Value.slice none 0 0] ∧ tyZero Try.prog 26 = some [Value.slice none 0 0]) ∧ (tyZero Try.prog 3 = some [Value.int IntKind.i64 0] ∧ tyZero Try.prog 4 = some [Value.bool false])) ∧ ((tyZero Try.prog 5 = some [Value.int IntKind.u8 0] ∧ tyZero Try.prog 72 = some [Value.pointer none]) ∧ (tyZero Try.prog 74 = some [Value.slice none 0 0, Value.slice none 0 0, Value.int IntKind.i64 0] ∧ (tyZero Try.prog 76 = some [Value.int IntKind.i64 0, Value.int IntKind.i64 0] ∧ tyZero Try.prog 9 = some [Value.string ByteArray.empty]))))))) := ⟨⟨⟨⟨⟨⟨tb22, te106⟩, ⟨te107, te22⟩⟩, ⟨⟨te24, tf109_0⟩, ⟨tf109_1, ⟨tf109_2, tf109_3⟩⟩⟩⟩, ⟨⟨⟨tf109_4, tf109_5⟩, ⟨tf109_6, tf109_7⟩⟩, ⟨⟨tf26_0, tf74_0⟩, ⟨tf74_1, ⟨tf74_2, tf76_0⟩⟩⟩⟩⟩, ⟨⟨⟨⟨tf76_1, tk106⟩, ⟨tk107, tk109⟩⟩, ⟨⟨tk22, tk24⟩, ⟨tk26, ⟨tk3, tk4⟩⟩⟩⟩, ⟨⟨⟨tk5, tk72⟩, ⟨tk74, tk76⟩⟩, ⟨⟨tk9, tp109⟩, ⟨tp26, ⟨tp74, tp76⟩⟩⟩⟩⟩⟩, ⟨⟨⟨⟨⟨tq76, tr106⟩, ⟨tr107, tr109⟩⟩, ⟨⟨tr22, tr24⟩, ⟨tr26, ⟨tr3, tr4⟩⟩⟩⟩, ⟨⟨⟨tr5, tr72⟩, ⟨tr74, tr76⟩⟩, ⟨⟨tr9, tu106⟩, ⟨tu107, ⟨tu22, tu24⟩⟩⟩⟩⟩, ⟨⟨⟨⟨tu3, tu4⟩, ⟨tu5, tu72⟩⟩, ⟨⟨tu9, tz106⟩, ⟨tz107, ⟨tz109, tz22⟩⟩⟩⟩, ⟨⟨⟨tz24, tz26⟩, ⟨tz3, tz4⟩⟩, ⟨⟨tz5, tz72⟩, ⟨tz74, ⟨tz76, tz9⟩⟩⟩⟩⟩⟩⟩
set_option maxRecDepth 100000 in
set_option maxHeartbeats 2000000 in
theorem checked_c (hD : DB M D) (hM : M ≤ 1048576) (hb : b.length ≤ 1048576) {f : Nat} (H : CkOK D b f) {n : Nat} {r : RuleD} (hr : D[n]? = some r) (hn : n ≤ f) (G : GoodR D n r) (hk : r.kind = 9) (p : Nat) (hp : p ≤ b.length) (a : Int) :
    AC Try.prog 101 [.ptr 0 0, .d (encR r), .d (iD p)] (some ((chk D b a).map .d)) (fun r' b' => r' = .d (spotD (rd D b (f + 1) n p).2) ∧ b' = some ((chk D b (a - 1 + (cnt D b (f + 1) n p : Nat))).map .d)) := by
  have g1 := G.k9 hk
  obtain ⟨kk, ex, hkk⟩ := kid_nat G (by omega)
  have hkid : r.kids[0]? = some (kk : Int) := by rw [kids0 (by omega), ex]
  have hrd := ruleD_get hr
  have hnl : n < D.length := (List.getElem?_eq_some_iff.1 hr).1
  have ex' : (kid0 r).toNat = kk := by omega
  have hC := cnt_9 (b := b) (f := f) (p := p) hrd hk
  rw [ex', cntItems_one] at hC
  have hT : a - 1 + (cnt D b (f + 1) n p : Nat) = a + (cnt D b f kk p : Nat) := by rw [hC]; omega
  have HV := H kk p a (by omega) (by omega) hp
  have hm2 : (mkItems 0 (rdItems (rd D b f) [(kid0 r).toNat] p)).2 = (rd D b f kk p).2 := by rw [mkItems_2, ex', rdItems_one2]
  have hin := rd_in D b f kk p hp
  rw [← hm2] at HV hin
  cases hm : mkItems 0 (rdItems (rd D b f) [(kid0 r).toNat] p) with
  | mk v y =>
    obtain ⟨q, c⟩ := y
    rw [hm] at HV hin
    obtain ⟨hin1, hin2⟩ := hin
    simp only at hin1 hin2
    by_cases hc0 : c = 0
    · subst hc0
      have HS := skip_c D hb (a + (cnt D b f kk p : Nat)) q hin2 1 (by omega)
      cases hq : b[q]? with
      | none =>
        have hpl : b.length ≤ q := List.getElem?_eq_none_iff.1 hq
        have hfin := rd_9n hrd hk hm hq
        have e : skipP b q 1 = (q, 1) := if_pos (by omega)
        rw [e] at HS
        refine calls_body Try.func101 rfl Try.call101 Try.ntmps101 (by simp) (by simp [ArgsOk]) (by simp [Rz.nkL, Rz.nk]) fun en hsz hks hk0 => ?_; simp only [St.init, frOf, Rz.addSL, Rz.addS, Rz.toAL, Rz.toA, Rz.nk, List.zipIdx_cons, List.zipIdx_nil, List.map_cons, List.map_nil, Nat.zero_add, Nat.reduceAdd]
        (repeat (first | refine walkS ?_ | (refine ow_call1d (k := 0) ?_ (fun x hx => by cases hx <;> (rw [hsz]; decide)) rfl (HV) rfl rfl ?_; (first | exact trivial | exact rfl); simp only [St.set, List.map_cons, List.map_nil, Nat.reduceAdd]) | (refine ol_call1d (k := 0) ?_ rfl (HV) rfl rfl ⟨0, List.mem_cons_self⟩ ?_; (first | exact trivial | exact rfl); simp only [St.set, List.map_cons, List.map_nil, Nat.reduceAdd])))
        refine aw_condS rfl (fun hc => ?_) (fun hc => ?_)
        · (first | exact absurd trivial hc | exact absurd rfl hc | (cases hc; done) | omega | exact absurd hc (by decide) | (simp at hc; done))
        (repeat (first | refine walkS ?_ | (refine ow_call1d (k := 0) ?_ (fun x hx => by cases hx <;> (rw [hsz]; decide)) rfl (HS) rfl rfl ?_; (first | exact trivial | exact rfl); simp only [St.set, List.map_cons, List.map_nil, Nat.reduceAdd]) | (refine ol_call1d (k := 0) ?_ rfl (HS) rfl rfl ⟨0, List.mem_cons_self⟩ ?_; (first | exact trivial | exact rfl); simp only [St.set, List.map_cons, List.map_nil, Nat.reduceAdd])))
        refine aw_condS rfl (fun hc => ?_) (fun hc => ?_)
        · (first | exact absurd trivial hc | exact absurd rfl hc | (cases hc; done) | omega | exact absurd hc (by decide) | (simp at hc; done))
        · refine walkS ?_
          (refine aw_ret ?_; (simp only [Fin, Try.results101]; refine finS ?_); exact ⟨_, [], .inl ⟨rfl, rfl⟩, _, (chk D b (a + (cnt D b f kk p : Nat)) : List Eng.D).map .d, [], rfl, toZL_d _ (chk D b (a + (cnt D b f kk p : Nat))), by simp, by rw [hfin], by rw [hT]; rfl⟩)
      | some s =>
        have hpl := get_lt hq
        have hle := u8le s
        have e : skipP b q 1 = (q + 1, 0) := if_neg (by omega)
        rw [e] at HS
        by_cases hs : s.toNat = sumB ((b.drop p).take (q - p))
        · have hfin := rd_9s hrd hk hm hq hs
          refine calls_body Try.func101 rfl Try.call101 Try.ntmps101 (by simp) (by simp [ArgsOk]) (by simp [Rz.nkL, Rz.nk]) fun en hsz hks hk0 => ?_; simp only [St.init, frOf, Rz.addSL, Rz.addS, Rz.toAL, Rz.toA, Rz.nk, List.zipIdx_cons, List.zipIdx_nil, List.map_cons, List.map_nil, Nat.zero_add, Nat.reduceAdd]
          (repeat (first | refine walkS ?_ | (refine ow_call1d (k := 0) ?_ (fun x hx => by cases hx <;> (rw [hsz]; decide)) rfl (HV) rfl rfl ?_; (first | exact trivial | exact rfl); simp only [St.set, List.map_cons, List.map_nil, Nat.reduceAdd]) | (refine ol_call1d (k := 0) ?_ rfl (HV) rfl rfl ⟨0, List.mem_cons_self⟩ ?_; (first | exact trivial | exact rfl); simp only [St.set, List.map_cons, List.map_nil, Nat.reduceAdd])))
          refine aw_condS rfl (fun hc => ?_) (fun hc => ?_)
          · (first | exact absurd trivial hc | exact absurd rfl hc | (cases hc; done) | omega | exact absurd hc (by decide) | (simp at hc; done))
          (repeat (first | refine walkS ?_ | (refine ow_call1d (k := 0) ?_ (fun x hx => by cases hx <;> (rw [hsz]; decide)) rfl (HS) rfl rfl ?_; (first | exact trivial | exact rfl); simp only [St.set, List.map_cons, List.map_nil, Nat.reduceAdd]) | (refine ol_call1d (k := 0) ?_ rfl (HS) rfl rfl ⟨0, List.mem_cons_self⟩ ?_; (first | exact trivial | exact rfl); simp only [St.set, List.map_cons, List.map_nil, Nat.reduceAdd]) | (refine callPre ?_; (first | refine callN_funS rfl ((sumI_c (l := List.take (q - p) (List.drop p b)) (by simp; omega))) ?_)) | (refine callPreL ?_; (first | refine callL_funS rfl ((sumI_c (l := List.take (q - p) (List.drop p b)) (by simp; omega))) ?_))))
          refine aw_condS rfl (fun hc => ?_) (fun hc => ?_)
          · omega
          · refine walkS ?_
            (refine aw_ret ?_; (simp only [Fin, Try.results101]; refine finS ?_); exact ⟨_, [], .inl ⟨rfl, rfl⟩, _, (chk D b (a + (cnt D b f kk p : Nat)) : List Eng.D).map .d, [], rfl, toZL_d _ (chk D b (a + (cnt D b f kk p : Nat))), by simp, by rw [hfin], by rw [hT]; rfl⟩)
        · have hfin := rd_9f hrd hk hm hq hs
          refine calls_body Try.func101 rfl Try.call101 Try.ntmps101 (by simp) (by simp [ArgsOk]) (by simp [Rz.nkL, Rz.nk]) fun en hsz hks hk0 => ?_; simp only [St.init, frOf, Rz.addSL, Rz.addS, Rz.toAL, Rz.toA, Rz.nk, List.zipIdx_cons, List.zipIdx_nil, List.map_cons, List.map_nil, Nat.zero_add, Nat.reduceAdd]
          (repeat (first | refine walkS ?_ | (refine ow_call1d (k := 0) ?_ (fun x hx => by cases hx <;> (rw [hsz]; decide)) rfl (HV) rfl rfl ?_; (first | exact trivial | exact rfl); simp only [St.set, List.map_cons, List.map_nil, Nat.reduceAdd]) | (refine ol_call1d (k := 0) ?_ rfl (HV) rfl rfl ⟨0, List.mem_cons_self⟩ ?_; (first | exact trivial | exact rfl); simp only [St.set, List.map_cons, List.map_nil, Nat.reduceAdd])))
          refine aw_condS rfl (fun hc => ?_) (fun hc => ?_)
          · (first | exact absurd trivial hc | exact absurd rfl hc | (cases hc; done) | omega | exact absurd hc (by decide) | (simp at hc; done))
          (repeat (first | refine walkS ?_ | (refine ow_call1d (k := 0) ?_ (fun x hx => by cases hx <;> (rw [hsz]; decide)) rfl (HS) rfl rfl ?_; (first | exact trivial | exact rfl); simp only [St.set, List.map_cons, List.map_nil, Nat.reduceAdd]) | (refine ol_call1d (k := 0) ?_ rfl (HS) rfl rfl ⟨0, List.mem_cons_self⟩ ?_; (first | exact trivial | exact rfl); simp only [St.set, List.map_cons, List.map_nil, Nat.reduceAdd]) | (refine callPre ?_; (first | refine callN_funS rfl ((sumI_c (l := List.take (q - p) (List.drop p b)) (by simp; omega))) ?_)) | (refine callPreL ?_; (first | refine callL_funS rfl ((sumI_c (l := List.take (q - p) (List.drop p b)) (by simp; omega))) ?_))))
          refine aw_condS rfl (fun hc => ?_) (fun hc => ?_)
          · refine walkS ?_
            (refine aw_ret ?_; (simp only [Fin, Try.results101]; refine finS ?_); exact ⟨_, [], .inl ⟨rfl, rfl⟩, _, (chk D b (a + (cnt D b f kk p : Nat)) : List Eng.D).map .d, [], rfl, toZL_d _ (chk D b (a + (cnt D b f kk p : Nat))), by simp, by rw [hfin]; rfl, by rw [hT]; rfl⟩)
          · omega
    · have hfin := rd_9e hrd hk hm hc0
      refine calls_body Try.func101 rfl Try.call101 Try.ntmps101 (by simp) (by simp [ArgsOk]) (by simp [Rz.nkL, Rz.nk]) fun en hsz hks hk0 => ?_; simp only [St.init, frOf, Rz.addSL, Rz.addS, Rz.toAL, Rz.toA, Rz.nk, List.zipIdx_cons, List.zipIdx_nil, List.map_cons, List.map_nil, Nat.zero_add, Nat.reduceAdd]
      (repeat (first | refine walkS ?_ | (refine ow_call1d (k := 0) ?_ (fun x hx => by cases hx <;> (rw [hsz]; decide)) rfl (HV) rfl rfl ?_; (first | exact trivial | exact rfl); simp only [St.set, List.map_cons, List.map_nil, Nat.reduceAdd]) | (refine ol_call1d (k := 0) ?_ rfl (HV) rfl rfl ⟨0, List.mem_cons_self⟩ ?_; (first | exact trivial | exact rfl); simp only [St.set, List.map_cons, List.map_nil, Nat.reduceAdd])))
      refine aw_condS rfl (fun hc => ?_) (fun hc => ?_)
      · refine walkS ?_
        (refine aw_ret ?_; (simp only [Fin, Try.results101]; refine finS ?_); exact ⟨_, [], .inl ⟨rfl, rfl⟩, _, (chk D b (a + (cnt D b f kk p : Nat)) : List Eng.D).map .d, [], rfl, toZL_d _ (chk D b (a + (cnt D b f kk p : Nat))), by simp, by rw [hfin], by rw [hT]; rfl⟩)
      · omega
end
end Go.Proofs.Ytmpokibohbhoeaa.Eng
