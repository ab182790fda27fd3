/-
  Migrating, the reference: a value from rule to rule.
-/
import Derived.Test.YtmpokibohbhoeaaKP3
set_option linter.unusedSimpArgs false
set_option linter.unusedVariables false
set_option linter.defProp false
set_option maxRecDepth 100000
set_option maxHeartbeats 4000000
namespace Go.Proofs.Ytmpokibohbhoeaa.Eng
open Go Go.RowKit

section
variable {M : Nat} {Da Dz : List RuleD} {f : Nat}
section
variable {g : Int → Int → V → V × Bool} {a b : Int} {p q : RuleD} {n : Int} {bs : List UInt8} {vs : List V}
theorem preM_k (ha : ruleD Da a = p) (hb : ruleD Dz b = q) (h : p.kind = q.kind) : preM g Da Dz a b n bs vs = alikeM g Dz p q n bs vs := by unfold preM; rw [ha, hb, if_pos h]
theorem preM_t (ha : ruleD Da a = p) (hb : ruleD Dz b = q) (h : p.kind ≠ q.kind) (ht : (isTx p.kind && isTx q.kind) = true) : preM g Da Dz a b n bs vs = (.mk 0 bs [], true) := by unfold preM; rw [ha, hb, if_neg h, if_pos ht]
theorem preM_8 (ha : ruleD Da a = p) (hb : ruleD Dz b = q) (h : p.kind ≠ q.kind) (ht : (isTx p.kind && isTx q.kind) = false) (h8 : q.kind = 8) : preM g Da Dz a b n bs vs = (.mk 0 [] [(g a (kid0 q) (.mk n bs vs)).1], (g a (kid0 q) (.mk n bs vs)).2) := by unfold preM; rw [ha, hb, if_neg h, if_neg (by rw [ht]; simp), if_pos h8]
theorem preM_x (ha : ruleD Da a = p) (hb : ruleD Dz b = q) (h : p.kind ≠ q.kind) (ht : (isTx p.kind && isTx q.kind) = false) (h8 : q.kind ≠ 8) (hx : p.kind = 8 ∧ vs.length = 1) : preM g Da Dz a b n bs vs = g (kid0 p) b (vs.getD 0 V0) := by unfold preM; rw [ha, hb, if_neg h, if_neg (by rw [ht]; simp), if_neg h8, if_pos hx]
theorem preM_o (ha : ruleD Da a = p) (hb : ruleD Dz b = q) (h : p.kind ≠ q.kind) (ht : (isTx p.kind && isTx q.kind) = false) (h8 : q.kind ≠ 8) (hx : ¬ (p.kind = 8 ∧ vs.length = 1)) : preM g Da Dz a b n bs vs = (V0, false) := by unfold preM; rw [ha, hb, if_neg h, if_neg (by rw [ht]; simp), if_neg h8, if_neg hx]
end
theorem kid0_at {r : RuleD} (h : 0 < r.kids.length) : r.kids[0]? = some (kid0 r) ∧ r.kids[0] = kid0 r := by
  have e := kids0 (r := r) (by omega)
  exact ⟨e, by rw [List.getElem?_eq_getElem (by omega)] at e; exact Option.some.inj e⟩
private def tyF := And.intro (And.intro (And.intro (And.intro (And.intro (And.intro tb22 te106) (And.intro te107 te22)) (And.intro (And.intro te24 te42) (And.intro tf109_0 tf109_1))) (And.intro (And.intro (And.intro tf109_2 tf109_3) (And.intro tf109_4 tf109_5)) (And.intro (And.intro tf109_6 tf109_7) (And.intro tf26_0 tf44_0)))) (And.intro (And.intro (And.intro (And.intro tf44_1 tf44_2) (And.intro tk106 tk107)) (And.intro (And.intro tk109 tk22) (And.intro tk24 tk26))) (And.intro (And.intro (And.intro tk3 tk4) (And.intro tk42 tk44)) (And.intro (And.intro tk5 tk9) (And.intro tp109 (And.intro tp26 tp44)))))) (And.intro (And.intro (And.intro (And.intro (And.intro tr106 tr107) (And.intro tr109 tr22)) (And.intro (And.intro tr24 tr26) (And.intro tr3 tr4))) (And.intro (And.intro (And.intro tr42 tr44) (And.intro tr5 tr9)) (And.intro (And.intro tu106 tu107) (And.intro tu22 tu24)))) (And.intro (And.intro (And.intro (And.intro tu3 tu4) (And.intro tu42 tu5)) (And.intro (And.intro tu9 tz106) (And.intro tz107 tz109))) (And.intro (And.intro (And.intro tz22 tz24) (And.intro tz26 tz3)) (And.intro (And.intro tz4 tz42) (And.intro tz44 (And.intro tz5 tz9))))))
theorem migS_step (hDa : DB M Da) (hDz : DB M Dz) (hM : M ≤ 1048576) (hVa : descP Da) (hVz : descP Dz) (H : MgS Da Dz f) : MgS Da Dz (f + 1) := fun a b v ha0 ha1 hb0 hb1 hf hv hval => by
  obtain ⟨ia, rfl⟩ := Int.eq_ofNat_of_zero_le ha0
  obtain ⟨iz, rfl⟩ := Int.eq_ofNat_of_zero_le hb0
  have hia : ia < Da.length := by omega
  have hiz : iz < Dz.length := by omega
  obtain ⟨p, hp⟩ : ∃ p, Da[ia]? = some p := ⟨_, List.getElem?_eq_getElem hia⟩
  obtain ⟨q, hq⟩ : ∃ q, Dz[iz]? = some q := ⟨_, List.getElem?_eq_getElem hiz⟩
  have Gp : GoodR Da ia p := good_of hVa hp
  have Gq : GoodR Dz iz q := good_of hVz hq
  have hpb := hDa.rule p (List.mem_of_getElem? hp)
  have hqb := hDz.rule q (List.mem_of_getElem? hq)
  have hpD := ruleD_get hp
  have hqD := ruleD_get hq
  obtain ⟨n, bs, vs⟩ := v
  have hA : p.kind = q.kind → _ := fun h => alikeS_c hDa hDz hM hVa hVz H hp hq h (by omega) hv hval
  have h8q : q.kind = 8 → q.kids[0]? = some (kid0 q) ∧ AC Try.prog 125 [.d (encD Da), .d (iD (ia : Nat)), .d (encD Dz), .d (iD (kid0 q)), .d (encV (.mk n bs vs))] none (fun r' _ => r' = mgR (mig Da Dz f ia (kid0 q) (.mk n bs vs))) := fun h => by
    obtain ⟨e1, e2⟩ := kid0_at (r := q) (by have := Gq.k8 h; omega)
    have g := Gq.kid 0 (by have := Gq.k8 h; omega)
    rw [e2] at g
    exact ⟨e1, H ia (kid0 q) _ (by omega) (by omega) (by omega) (by omega) (by omega) hv hval⟩
  have h8p : p.kind = 8 ∧ vs.length = 1 → p.kids[0]? = some (kid0 p) ∧ vs[0]? = some (vs.getD 0 V0) ∧ AC Try.prog 125 [.d (encD Da), .d (iD (kid0 p)), .d (encD Dz), .d (iD (iz : Nat)), .d (encV (vs.getD 0 V0))] none (fun r' _ => r' = mgR (mig Da Dz f (kid0 p) iz (vs.getD 0 V0))) := fun ⟨h, hl⟩ => by
    obtain ⟨e1, e2⟩ := kid0_at (r := p) (by have := Gp.k8 h; omega)
    have g := Gp.kid 0 (by have := Gp.k8 h; omega)
    rw [e2] at g
    have hv' := hv
    unfold VB at hv'
    rw [validV, hpD, Bool.and_eq_true] at hval
    have h3 := validVs_at hval.2 (j := 0) (by omega)
    rw [itemK_8 (.inl h)] at h3
    have e3 : vs.getD 0 V0 = vs[0] := by simp [List.getD, hl]
    refine ⟨e1, by rw [List.getElem?_eq_getElem (by omega), e3], H (kid0 p) iz _ (by omega) (by omega) (by omega) (by omega) (by omega) (getD_VB hv'.2.2 0) (by rw [e3]; exact h3)⟩
  have hpv := preM_VB (Da := Da) hVz (g := mig Da Dz f) (fun a b v h => mig_VB hVz f a b v h) ia iz hv
  have HV := fun (w : V) (hw : VB 1048576 w) => l9Valid_all hDz hM hVz _ (v := w) (i := iz) hiz (Nat.le_refl _) hw
  have hmig : mig Da Dz (f + 1) ia iz (.mk n bs vs) = mfin Dz iz (preM (mig Da Dz f) Da Dz ia iz n bs vs) := by rw [mig]
  rw [hmig]
  clear hmig hval
  have hvl : vs.length ≤ 1048576 := by unfold VB at hv; exact hv.2.1
  have hbl : bs.length ≤ 1048576 := by unfold VB at hv; exact hv.1
  have HT1 := text_c p.kind
  have HT2 := text_c q.kind
  have pk := fun h => preM_k (Da := Da) (Dz := Dz) (g := mig Da Dz f) (n := n) (bs := bs) (vs := vs) hpD hqD h
  have pt := fun h h' => preM_t (Da := Da) (Dz := Dz) (g := mig Da Dz f) (n := n) (bs := bs) (vs := vs) hpD hqD h h'
  have p8 := fun h h' h8 => preM_8 (Da := Da) (Dz := Dz) (g := mig Da Dz f) (n := n) (bs := bs) (vs := vs) hpD hqD h h' h8
  have px := fun h h' h8 hx => preM_x (Da := Da) (Dz := Dz) (g := mig Da Dz f) (n := n) (bs := bs) (vs := vs) hpD hqD h h' h8 hx
  have po := fun h h' h8 hx => preM_o (Da := Da) (Dz := Dz) (g := mig Da Dz f) (n := n) (bs := bs) (vs := vs) hpD hqD h h' h8 hx
  generalize preM (mig Da Dz f) Da Dz ia iz n bs vs = Z at hpv pk pt p8 px po
  have hev := encV_mk n bs vs
  rw [encVs_eq] at hev
  simp only [hev] at hA h8q ⊢
  refine calls_body Try.func125 rfl Try.call125 Try.ntmps125 (by simp) (by simp [ArgsOk]) (by simp [Rz.nkL, Rz.nk]) fun en hsz hks hk0 => ?_; refine enS ?_
  refine walkJS ?_
  refine aw_joinS [3, 7, 10, 11, 14] (fun _ _ => []) (fun _ z => [(15, .d (bD z.2))]) [112] (fun _ z => [(112, some ((encVc z.1).map .d))]) [] (fun _ _ => []) (fun z : V × Bool => z = Z) hks (fun _ => rfl) (fun x hx => ?_) ?_; rotate_left
  · refine walkS ?_
    refine aw_condS rfl (fun hk => ?_) (fun hk => ?_)
    · have HA := hA hk
      rw [← pk hk] at HA
      (repeat (first | refine walkS ?_ | (refine callPre ?_; (first | refine callN_funS rfl (HA) ?_)) | (refine callPreL ?_; (first | refine callL_funS rfl (HA) ?_))))
      refine ⟨Z, rfl, ?_⟩
      exact wkS
    · have hkk : p.kind ≠ q.kind := by first | exact hk | simpa using hk
      have TX : ∀ c : Bool, (isTx p.kind && isTx q.kind) = c → (isTx p.kind && isTx q.kind) = c := fun _ h => h
      cases t1 : isTx p.kind with
      | true =>
        cases t2 : isTx q.kind with
        | true =>
          rw [t1] at HT1
          rw [t2] at HT2
          (repeat (first | refine walkS ?_ | (refine callPre ?_; (first | refine callN_funS rfl (HT1) ?_ | refine callN_funS rfl (HT2) ?_)) | (refine callPreL ?_; (first | refine callL_funS rfl (HT1) ?_ | refine callL_funS rfl (HT2) ?_))))
          refine aw_condS rfl (fun hc => ?_) (fun hc => ?_)
          · refine walkS ?_
            refine ⟨(.mk 0 bs [], true), (pt hkk (by rw [t1, t2]; rfl)).symm, ?_⟩
            exact wkS2
          · (first | exact absurd trivial hc | exact absurd rfl hc | (cases hc; done) | omega | exact absurd hc (by decide) | (simp at hc; done))
        | false =>
          rw [t1] at HT1
          rw [t2] at HT2
          have ht : (isTx p.kind && isTx q.kind) = false := by rw [t1, t2]; rfl
          (repeat (first | refine walkS ?_ | (refine callPre ?_; (first | refine callN_funS rfl (HT1) ?_ | refine callN_funS rfl (HT2) ?_)) | (refine callPreL ?_; (first | refine callL_funS rfl (HT1) ?_ | refine callL_funS rfl (HT2) ?_))))
          refine aw_condS rfl (fun hc => ?_) (fun hc => ?_)
          · (first | exact absurd trivial hc | exact absurd rfl hc | (cases hc; done) | omega | exact absurd hc (by decide) | (simp at hc; done))
          refine walkS ?_
          refine aw_condS rfl (fun h8 => ?_) (fun h8 => ?_)
          · obtain ⟨e1, HM⟩ := h8q h8
            have e8 := p8 hkk ht h8
            generalize mig Da Dz f ia (kid0 q) (.mk n bs vs) = y at HM e8
            obtain ⟨w, ok⟩ := y
            (repeat (first | refine walkS ?_ | (refine callPre ?_; (first | refine callN_funS rfl (HM) ?_)) | (refine callPreL ?_; (first | refine callL_funS rfl (HM) ?_))))
            refine ⟨(.mk 0 [] [w], ok), e8.symm, ?_⟩
            exact wkS2
          have h8' : q.kind ≠ 8 := by first | exact h8 | simpa using h8
          by_cases x8 : p.kind = 8
          · have ex : (p.kind == 8) = true := by simpa using x8
            by_cases xl : vs.length = 1
            · have el : ((vs.length : Int) == 1) = true := by rw [beq_iff_eq]; omega
              obtain ⟨e1, e2, HM⟩ := h8p ⟨x8, xl⟩
              have ez := px hkk ht h8' ⟨x8, xl⟩
              generalize vs.getD 0 V0 = v0 at *
              generalize mig Da Dz f (kid0 p) iz v0 = y at HM ez
              obtain ⟨w, ok⟩ := y
              (repeat (first | refine ctlS ?_ | (refine ol_go ?_ (fun K1 hK1 => ?_); (first | exact trivial | exact rfl); refine evS ?_; (try simp only [ex, el]); refine hK1 _ _ ?_; clear hK1 K1) | (refine ow_go ?_ (fun x hx => by cases hx <;> (rw [hsz]; decide)) (fun K1 hK1 => ?_); (first | exact trivial | exact rfl); refine evS ?_; (try simp only [ex, el]); refine hK1 _ ?_; clear hK1 K1) | refine skipS ?_))
              refine aw_condS rfl (fun hc => ?_) (fun hc => ?_)
              · (repeat (first | refine walkS ?_ | (refine callPre ?_; (first | refine callN_funS rfl (HM) ?_)) | (refine callPreL ?_; (first | refine callL_funS rfl (HM) ?_))))
                refine ⟨(w, ok), ez.symm, ?_⟩
                exact wkS2
              · (first | exact absurd trivial hc | exact absurd rfl hc | (cases hc; done) | omega | exact absurd hc (by decide) | (simp at hc; done))
            · have el : ((vs.length : Int) == 1) = false := by rw [beq_eq_false_iff_ne]; omega
              have ez := po hkk ht h8' (fun h => xl h.2)
              (repeat (first | refine ctlS ?_ | (refine ol_go ?_ (fun K1 hK1 => ?_); (first | exact trivial | exact rfl); refine evS ?_; (try simp only [ex, el]); refine hK1 _ _ ?_; clear hK1 K1) | (refine ow_go ?_ (fun x hx => by cases hx <;> (rw [hsz]; decide)) (fun K1 hK1 => ?_); (first | exact trivial | exact rfl); refine evS ?_; (try simp only [ex, el]); refine hK1 _ ?_; clear hK1 K1) | refine skipS ?_))
              refine aw_condS rfl (fun hc => ?_) (fun hc => ?_)
              · (first | exact absurd trivial hc | exact absurd rfl hc | (cases hc; done) | omega | exact absurd hc (by decide) | (simp at hc; done))
              · refine walkS ?_
                refine ⟨(V0, false), ez.symm, ?_⟩
                exact wkS2
          · have ex : (p.kind == 8) = false := by simpa using x8
            have ez := po hkk ht h8' (fun h => x8 h.1)
            (repeat (first | refine ctlS ?_ | (refine ol_go ?_ (fun K1 hK1 => ?_); (first | exact trivial | exact rfl); refine evS ?_; (try simp only [ex]); refine hK1 _ _ ?_; clear hK1 K1) | (refine ow_go ?_ (fun x hx => by cases hx <;> (rw [hsz]; decide)) (fun K1 hK1 => ?_); (first | exact trivial | exact rfl); refine evS ?_; (try simp only [ex]); refine hK1 _ ?_; clear hK1 K1) | refine skipS ?_))
            refine aw_condS rfl (fun hc => ?_) (fun hc => ?_)
            · (first | exact absurd trivial hc | exact absurd rfl hc | (cases hc; done) | omega | exact absurd hc (by decide) | (simp at hc; done))
            · refine walkS ?_
              refine ⟨(V0, false), ez.symm, ?_⟩
              exact wkS2
      | false =>
        rw [t1] at HT1
        have ht : (isTx p.kind && isTx q.kind) = false := by rw [t1]; rfl
        (repeat (first | refine walkS ?_ | (refine callPre ?_; (first | refine callN_funS rfl (HT1) ?_ | refine callN_funS rfl (HT2) ?_)) | (refine callPreL ?_; (first | refine callL_funS rfl (HT1) ?_ | refine callL_funS rfl (HT2) ?_))))
        refine aw_condS rfl (fun hc => ?_) (fun hc => ?_)
        · (first | exact absurd trivial hc | exact absurd rfl hc | (cases hc; done) | omega | exact absurd hc (by decide) | (simp at hc; done))
        refine walkS ?_
        refine aw_condS rfl (fun h8 => ?_) (fun h8 => ?_)
        · obtain ⟨e1, HM⟩ := h8q h8
          have e8 := p8 hkk ht h8
          generalize mig Da Dz f ia (kid0 q) (.mk n bs vs) = y at HM e8
          obtain ⟨w, ok⟩ := y
          (repeat (first | refine walkS ?_ | (refine callPre ?_; (first | refine callN_funS rfl (HM) ?_)) | (refine callPreL ?_; (first | refine callL_funS rfl (HM) ?_))))
          refine ⟨(.mk 0 [] [w], ok), e8.symm, ?_⟩
          exact wkS2
        have h8' : q.kind ≠ 8 := by first | exact h8 | simpa using h8
        by_cases x8 : p.kind = 8
        · have ex : (p.kind == 8) = true := by simpa using x8
          by_cases xl : vs.length = 1
          · have el : ((vs.length : Int) == 1) = true := by rw [beq_iff_eq]; omega
            obtain ⟨e1, e2, HM⟩ := h8p ⟨x8, xl⟩
            have ez := px hkk ht h8' ⟨x8, xl⟩
            generalize vs.getD 0 V0 = v0 at *
            generalize mig Da Dz f (kid0 p) iz v0 = y at HM ez
            obtain ⟨w, ok⟩ := y
            (repeat (first | refine ctlS ?_ | (refine ol_go ?_ (fun K1 hK1 => ?_); (first | exact trivial | exact rfl); refine evS ?_; (try simp only [ex, el]); refine hK1 _ _ ?_; clear hK1 K1) | (refine ow_go ?_ (fun x hx => by cases hx <;> (rw [hsz]; decide)) (fun K1 hK1 => ?_); (first | exact trivial | exact rfl); refine evS ?_; (try simp only [ex, el]); refine hK1 _ ?_; clear hK1 K1) | refine skipS ?_))
            refine aw_condS rfl (fun hc => ?_) (fun hc => ?_)
            · (repeat (first | refine walkS ?_ | (refine callPre ?_; (first | refine callN_funS rfl (HM) ?_)) | (refine callPreL ?_; (first | refine callL_funS rfl (HM) ?_))))
              refine ⟨(w, ok), ez.symm, ?_⟩
              exact wkS2
            · (first | exact absurd trivial hc | exact absurd rfl hc | (cases hc; done) | omega | exact absurd hc (by decide) | (simp at hc; done))
          · have el : ((vs.length : Int) == 1) = false := by rw [beq_eq_false_iff_ne]; omega
            have ez := po hkk ht h8' (fun h => xl h.2)
            (repeat (first | refine ctlS ?_ | (refine ol_go ?_ (fun K1 hK1 => ?_); (first | exact trivial | exact rfl); refine evS ?_; (try simp only [ex, el]); refine hK1 _ _ ?_; clear hK1 K1) | (refine ow_go ?_ (fun x hx => by cases hx <;> (rw [hsz]; decide)) (fun K1 hK1 => ?_); (first | exact trivial | exact rfl); refine evS ?_; (try simp only [ex, el]); refine hK1 _ ?_; clear hK1 K1) | refine skipS ?_))
            refine aw_condS rfl (fun hc => ?_) (fun hc => ?_)
            · (first | exact absurd trivial hc | exact absurd rfl hc | (cases hc; done) | omega | exact absurd hc (by decide) | (simp at hc; done))
            · refine walkS ?_
              refine ⟨(V0, false), ez.symm, ?_⟩
              exact wkS2
        · have ex : (p.kind == 8) = false := by simpa using x8
          have ez := po hkk ht h8' (fun h => x8 h.1)
          (repeat (first | refine ctlS ?_ | (refine ol_go ?_ (fun K1 hK1 => ?_); (first | exact trivial | exact rfl); refine evS ?_; (try simp only [ex]); refine hK1 _ _ ?_; clear hK1 K1) | (refine ow_go ?_ (fun x hx => by cases hx <;> (rw [hsz]; decide)) (fun K1 hK1 => ?_); (first | exact trivial | exact rfl); refine evS ?_; (try simp only [ex]); refine hK1 _ ?_; clear hK1 K1) | refine skipS ?_))
          refine aw_condS rfl (fun hc => ?_) (fun hc => ?_)
          · (first | exact absurd trivial hc | exact absurd rfl hc | (cases hc; done) | omega | exact absurd hc (by decide) | (simp at hc; done))
          · refine walkS ?_
            refine ⟨(V0, false), ez.symm, ?_⟩
            exact wkS2
  · obtain rfl := hx
    refine headS ?_
    obtain ⟨w, ok⟩ := x
    have HVw := HV w hpv
    cases ok with
    | false =>
      rw [mfin_f rfl]
      refine walkS ?_
      refine aw_condS rfl (fun hc => ?_) (fun hc => ?_)
      · refine walkS ?_
        (refine aw_ret ?_; (simp only [Fin, Try.results125]; refine finS ?_); refine ⟨_, [], .inr (.inl ⟨.tup [encV V0, bD false], rfl, rfl, ?_⟩), List.nodup_nil, rfl⟩; exact wkDS)
      · (first | exact absurd trivial hc | exact absurd rfl hc | (cases hc; done) | omega | exact absurd hc (by decide) | (simp at hc; done))
    | true =>
      cases hvd : validV Dz iz w with
      | false =>
        rw [hvd] at HVw
        rw [mfin_v hvd]
        (repeat (first | refine walkS ?_ | (refine callPre ?_; (first | refine callN_funS rfl (HVw) ?_)) | (refine callPreL ?_; (first | refine callL_funS rfl (HVw) ?_))))
        refine aw_condS rfl (fun hc => ?_) (fun hc => ?_)
        · refine walkS ?_
          (refine aw_ret ?_; (simp only [Fin, Try.results125]; refine finS ?_); refine ⟨_, [], .inr (.inl ⟨.tup [encV V0, bD false], rfl, rfl, ?_⟩), List.nodup_nil, rfl⟩; exact wkDS)
        · (first | exact absurd trivial hc | exact absurd rfl hc | (cases hc; done) | omega | exact absurd hc (by decide) | (simp at hc; done))
      | true =>
        rw [hvd] at HVw
        rw [mfin_t rfl hvd]
        (repeat (first | refine walkS ?_ | (refine callPre ?_; (first | refine callN_funS rfl (HVw) ?_)) | (refine callPreL ?_; (first | refine callL_funS rfl (HVw) ?_))))
        refine aw_condS rfl (fun hc => ?_) (fun hc => ?_)
        · (first | exact absurd trivial hc | exact absurd rfl hc | (cases hc; done) | omega | exact absurd hc (by decide) | (simp at hc; done))
        · refine walkS ?_
          (refine aw_ret ?_; (simp only [Fin, Try.results125]; refine finS ?_); refine ⟨_, [], .inr (.inl ⟨.tup [encV w, bD true], rfl, rfl, ?_⟩), List.nodup_nil, rfl⟩; exact wkDS)
end
end Go.Proofs.Ytmpokibohbhoeaa.Eng
