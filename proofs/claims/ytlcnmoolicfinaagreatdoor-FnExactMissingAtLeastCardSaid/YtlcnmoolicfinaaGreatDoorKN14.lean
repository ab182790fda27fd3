/-
  The checker: what is checked; a value.
-/
import Derived.Test.YtlcnmoolicfinaaGreatDoorKN13
set_option linter.unusedSimpArgs false
set_option linter.unusedVariables false
set_option linter.defProp false
set_option maxRecDepth 100000
set_option maxHeartbeats 4000000
namespace Go.Proofs.YtlcnmoolicfinaaGreatDoor.Eng
open Go Go.RowKit

section
variable {M : Nat} {D : List RuleD} {b : List UInt8}

private def tyF := And.intro (And.intro (And.intro (And.intro (And.intro (And.intro tb25 te25) (And.intro te28 te44)) (And.intro (And.intro te45 tf102_0) (And.intro tf102_1 (And.intro tf108_0 tf108_1)))) (And.intro (And.intro (And.intro tf108_2 tf30_0) (And.intro tf52_0 tf52_1)) (And.intro (And.intro tf52_2 tf52_3) (And.intro tf52_4 (And.intro tf52_5 tf52_6))))) (And.intro (And.intro (And.intro (And.intro tf52_7 tk102) (And.intro tk106 tk108)) (And.intro (And.intro tk25 tk28) (And.intro tk3 (And.intro tk30 tk4)))) (And.intro (And.intro (And.intro tk44 tk45) (And.intro tk5 tk52)) (And.intro (And.intro tk9 tp102) (And.intro tp108 (And.intro tp30 tp52)))))) (And.intro (And.intro (And.intro (And.intro (And.intro tq102 tr102) (And.intro tr106 tr108)) (And.intro (And.intro tr25 tr28) (And.intro tr3 (And.intro tr30 tr4)))) (And.intro (And.intro (And.intro tr44 tr45) (And.intro tr5 tr52)) (And.intro (And.intro tr9 tu106) (And.intro tu25 (And.intro tu28 tu3))))) (And.intro (And.intro (And.intro (And.intro tu4 tu44) (And.intro tu45 tu5)) (And.intro (And.intro tu9 tz102) (And.intro tz106 (And.intro tz108 tz25)))) (And.intro (And.intro (And.intro tz28 tz3) (And.intro tz30 tz4)) (And.intro (And.intro tz44 tz45) (And.intro tz5 (And.intro tz52 tz9))))))
theorem checked_c (hD : DB M D) (hM : M ≤ 1048576) (hb : b.length ≤ 1048576) {f : Nat} (H : CkOK D b f) {n : Nat} {r : RuleD} (hr : D[n]? = some r) (hn : n ≤ f) (G : GoodR D n r) (hk : r.kind = 9) (p : Nat) (hp : p ≤ b.length) (a : Int) :
    AC Tryz.prog 83 [.ptr 0 0, .d (encR r), .d (iD p)] (some ((chk D b a).map .d)) (fun r' b' => r' = .d (spotD (rd D b (f + 1) n p).2) ∧ b' = some ((chk D b (a - 1 + (cnt D b (f + 1) n p : Nat))).map .d)) := by
  have g1 := G.k9 hk
  obtain ⟨kk, ex, hkk⟩ := kid_nat G (by omega)
  have hkid : r.kids[0]? = some (kk : Int) := by rw [kids0 (by omega), ex]
  have hrd := ruleD_get hr
  have hnl : n < D.length := (List.getElem?_eq_some_iff.1 hr).1
  have ex' : (kid0 r).toNat = kk := by omega
  have hC := cnt_9 (b := b) (f := f) (p := p) hrd hk
  rw [ex', cntItems_one] at hC
  have hT : a - 1 + (cnt D b (f + 1) n p : Nat) = a + (cnt D b f kk p : Nat) := by rw [hC]; omega
  have HV := H kk p a (by omega) (by omega) hp
  have hm2 : (mkItems 0 (rdItems (rd D b f) [(kid0 r).toNat] p)).2 = (rd D b f kk p).2 := by rw [mkItems_2, ex', rdItems_one2]
  have hin := rd_in D b f kk p hp
  rw [← hm2] at HV hin
  cases hm : mkItems 0 (rdItems (rd D b f) [(kid0 r).toNat] p) with
  | mk v y =>
    obtain ⟨q, c⟩ := y
    rw [hm] at HV hin
    obtain ⟨hin1, hin2⟩ := hin
    simp only at hin1 hin2
    by_cases hc0 : c = 0
    · subst hc0
      have HS := skip_c D hb (a + (cnt D b f kk p : Nat)) q hin2 1 (by omega)
      cases hq : b[q]? with
      | none =>
        have hpl : b.length ≤ q := List.getElem?_eq_none_iff.1 hq
        have hfin := rd_9n hrd hk hm hq
        have e : skipP b q 1 = (q, 1) := if_pos (by omega)
        rw [e] at HS
        refine calls_body Tryz.func83 rfl Tryz.call83 Tryz.ntmps83 (by simp) (by simp [ArgsOk]) (by simp [Rz.nkL, Rz.nk]) fun en hsz hks hk0 => ?_; refine enS ?_
        (repeat (first | refine walkS ?_ | (refine ol_call1r (k := 0) ?_ rfl (HV) rfl rfl ⟨0, List.mem_cons_self⟩ ?_; (first | exact trivial | exact rfl); simp only [St.set, List.map_cons, List.map_nil, Nat.reduceAdd, Nat.reduceMul]) | (refine ow_call1d (k := 0) ?_ (fun x hx => by cases hx <;> (rw [hsz]; decide)) rfl (HV) rfl rfl ?_; (first | exact trivial | exact rfl); simp only [St.set, List.map_cons, List.map_nil, Nat.reduceAdd]) | (refine ol_call1d (k := 0) ?_ rfl (HV) rfl rfl ⟨0, List.mem_cons_self⟩ ?_; (first | exact trivial | exact rfl); simp only [St.set, List.map_cons, List.map_nil, Nat.reduceAdd])))
        refine aw_condS rfl (fun hc => ?_) (fun hc => ?_)
        · (first | exact absurd trivial hc | exact absurd rfl hc | (cases hc; done) | omega | exact absurd hc (by decide) | (simp at hc; done))
        (repeat (first | refine walkS ?_ | (refine ol_call1r (k := 0) ?_ rfl (HS) rfl rfl ⟨0, List.mem_cons_self⟩ ?_; (first | exact trivial | exact rfl); simp only [St.set, List.map_cons, List.map_nil, Nat.reduceAdd, Nat.reduceMul]) | (refine ow_call1d (k := 0) ?_ (fun x hx => by cases hx <;> (rw [hsz]; decide)) rfl (HS) rfl rfl ?_; (first | exact trivial | exact rfl); simp only [St.set, List.map_cons, List.map_nil, Nat.reduceAdd]) | (refine ol_call1d (k := 0) ?_ rfl (HS) rfl rfl ⟨0, List.mem_cons_self⟩ ?_; (first | exact trivial | exact rfl); simp only [St.set, List.map_cons, List.map_nil, Nat.reduceAdd])))
        refine aw_condS rfl (fun hc => ?_) (fun hc => ?_)
        · (first | exact absurd trivial hc | exact absurd rfl hc | (cases hc; done) | omega | exact absurd hc (by decide) | (simp at hc; done))
        · refine walkS ?_
          (refine aw_ret ?_; (simp only [Fin, Tryz.results83]; refine finS ?_); exact ⟨_, [], .inl ⟨rfl, rfl⟩, _, (chk D b (a + (cnt D b f kk p : Nat)) : List Eng.D).map .d, [], rfl, toZL_d _ (chk D b (a + (cnt D b f kk p : Nat))), by simp, by rw [hfin], by rw [hT]; rfl⟩)
      | some s =>
        have hpl := get_lt hq
        have hle := u8le s
        have e : skipP b q 1 = (q + 1, 0) := if_neg (by omega)
        rw [e] at HS
        by_cases hs : s.toNat = sumB ((b.drop p).take (q - p))
        · have hfin := rd_9s hrd hk hm hq hs
          refine calls_body Tryz.func83 rfl Tryz.call83 Tryz.ntmps83 (by simp) (by simp [ArgsOk]) (by simp [Rz.nkL, Rz.nk]) fun en hsz hks hk0 => ?_; refine enS ?_
          (repeat (first | refine walkS ?_ | (refine ol_call1r (k := 0) ?_ rfl (HV) rfl rfl ⟨0, List.mem_cons_self⟩ ?_; (first | exact trivial | exact rfl); simp only [St.set, List.map_cons, List.map_nil, Nat.reduceAdd, Nat.reduceMul]) | (refine ow_call1d (k := 0) ?_ (fun x hx => by cases hx <;> (rw [hsz]; decide)) rfl (HV) rfl rfl ?_; (first | exact trivial | exact rfl); simp only [St.set, List.map_cons, List.map_nil, Nat.reduceAdd]) | (refine ol_call1d (k := 0) ?_ rfl (HV) rfl rfl ⟨0, List.mem_cons_self⟩ ?_; (first | exact trivial | exact rfl); simp only [St.set, List.map_cons, List.map_nil, Nat.reduceAdd])))
          refine aw_condS rfl (fun hc => ?_) (fun hc => ?_)
          · (first | exact absurd trivial hc | exact absurd rfl hc | (cases hc; done) | omega | exact absurd hc (by decide) | (simp at hc; done))
          (repeat (first | refine walkS ?_ | (refine ol_call1r (k := 0) ?_ rfl (HS) rfl rfl ⟨0, List.mem_cons_self⟩ ?_; (first | exact trivial | exact rfl); simp only [St.set, List.map_cons, List.map_nil, Nat.reduceAdd, Nat.reduceMul]) | (refine ow_call1d (k := 0) ?_ (fun x hx => by cases hx <;> (rw [hsz]; decide)) rfl (HS) rfl rfl ?_; (first | exact trivial | exact rfl); simp only [St.set, List.map_cons, List.map_nil, Nat.reduceAdd]) | (refine ol_call1d (k := 0) ?_ rfl (HS) rfl rfl ⟨0, List.mem_cons_self⟩ ?_; (first | exact trivial | exact rfl); simp only [St.set, List.map_cons, List.map_nil, Nat.reduceAdd]) | (refine callPre ?_; (first | refine callN_funS rfl ((sumI_c (l := List.take (q - p) (List.drop p b)) (by simp; omega))) ?_)) | (refine callPreL ?_; (first | refine callL_funS rfl ((sumI_c (l := List.take (q - p) (List.drop p b)) (by simp; omega))) ?_))))
          refine aw_condS rfl (fun hc => ?_) (fun hc => ?_)
          · omega
          · refine walkS ?_
            (refine aw_ret ?_; (simp only [Fin, Tryz.results83]; refine finS ?_); exact ⟨_, [], .inl ⟨rfl, rfl⟩, _, (chk D b (a + (cnt D b f kk p : Nat)) : List Eng.D).map .d, [], rfl, toZL_d _ (chk D b (a + (cnt D b f kk p : Nat))), by simp, by rw [hfin], by rw [hT]; rfl⟩)
        · have hfin := rd_9f hrd hk hm hq hs
          refine calls_body Tryz.func83 rfl Tryz.call83 Tryz.ntmps83 (by simp) (by simp [ArgsOk]) (by simp [Rz.nkL, Rz.nk]) fun en hsz hks hk0 => ?_; refine enS ?_
          (repeat (first | refine walkS ?_ | (refine ol_call1r (k := 0) ?_ rfl (HV) rfl rfl ⟨0, List.mem_cons_self⟩ ?_; (first | exact trivial | exact rfl); simp only [St.set, List.map_cons, List.map_nil, Nat.reduceAdd, Nat.reduceMul]) | (refine ow_call1d (k := 0) ?_ (fun x hx => by cases hx <;> (rw [hsz]; decide)) rfl (HV) rfl rfl ?_; (first | exact trivial | exact rfl); simp only [St.set, List.map_cons, List.map_nil, Nat.reduceAdd]) | (refine ol_call1d (k := 0) ?_ rfl (HV) rfl rfl ⟨0, List.mem_cons_self⟩ ?_; (first | exact trivial | exact rfl); simp only [St.set, List.map_cons, List.map_nil, Nat.reduceAdd])))
          refine aw_condS rfl (fun hc => ?_) (fun hc => ?_)
          · (first | exact absurd trivial hc | exact absurd rfl hc | (cases hc; done) | omega | exact absurd hc (by decide) | (simp at hc; done))
          (repeat (first | refine walkS ?_ | (refine ol_call1r (k := 0) ?_ rfl (HS) rfl rfl ⟨0, List.mem_cons_self⟩ ?_; (first | exact trivial | exact rfl); simp only [St.set, List.map_cons, List.map_nil, Nat.reduceAdd, Nat.reduceMul]) | (refine ow_call1d (k := 0) ?_ (fun x hx => by cases hx <;> (rw [hsz]; decide)) rfl (HS) rfl rfl ?_; (first | exact trivial | exact rfl); simp only [St.set, List.map_cons, List.map_nil, Nat.reduceAdd]) | (refine ol_call1d (k := 0) ?_ rfl (HS) rfl rfl ⟨0, List.mem_cons_self⟩ ?_; (first | exact trivial | exact rfl); simp only [St.set, List.map_cons, List.map_nil, Nat.reduceAdd]) | (refine callPre ?_; (first | refine callN_funS rfl ((sumI_c (l := List.take (q - p) (List.drop p b)) (by simp; omega))) ?_)) | (refine callPreL ?_; (first | refine callL_funS rfl ((sumI_c (l := List.take (q - p) (List.drop p b)) (by simp; omega))) ?_))))
          refine aw_condS rfl (fun hc => ?_) (fun hc => ?_)
          · refine walkS ?_
            (refine aw_ret ?_; (simp only [Fin, Tryz.results83]; refine finS ?_); exact ⟨_, [], .inl ⟨rfl, rfl⟩, _, (chk D b (a + (cnt D b f kk p : Nat)) : List Eng.D).map .d, [], rfl, toZL_d _ (chk D b (a + (cnt D b f kk p : Nat))), by simp, by rw [hfin]; rfl, by rw [hT]; rfl⟩)
          · omega
    · have hfin := rd_9e hrd hk hm hc0
      refine calls_body Tryz.func83 rfl Tryz.call83 Tryz.ntmps83 (by simp) (by simp [ArgsOk]) (by simp [Rz.nkL, Rz.nk]) fun en hsz hks hk0 => ?_; refine enS ?_
      (repeat (first | refine walkS ?_ | (refine ol_call1r (k := 0) ?_ rfl (HV) rfl rfl ⟨0, List.mem_cons_self⟩ ?_; (first | exact trivial | exact rfl); simp only [St.set, List.map_cons, List.map_nil, Nat.reduceAdd, Nat.reduceMul]) | (refine ow_call1d (k := 0) ?_ (fun x hx => by cases hx <;> (rw [hsz]; decide)) rfl (HV) rfl rfl ?_; (first | exact trivial | exact rfl); simp only [St.set, List.map_cons, List.map_nil, Nat.reduceAdd]) | (refine ol_call1d (k := 0) ?_ rfl (HV) rfl rfl ⟨0, List.mem_cons_self⟩ ?_; (first | exact trivial | exact rfl); simp only [St.set, List.map_cons, List.map_nil, Nat.reduceAdd])))
      refine aw_condS rfl (fun hc => ?_) (fun hc => ?_)
      · refine walkS ?_
        (refine aw_ret ?_; (simp only [Fin, Tryz.results83]; refine finS ?_); exact ⟨_, [], .inl ⟨rfl, rfl⟩, _, (chk D b (a + (cnt D b f kk p : Nat)) : List Eng.D).map .d, [], rfl, toZL_d _ (chk D b (a + (cnt D b f kk p : Nat))), by simp, by rw [hfin], by rw [hT]; rfl⟩)
      · omega
end
end Go.Proofs.YtlcnmoolicfinaaGreatDoor.Eng
