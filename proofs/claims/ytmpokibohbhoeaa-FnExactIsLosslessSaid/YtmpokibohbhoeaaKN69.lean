/-
  Migrating, the program: a value from rule to rule.
-/
import Derived.Test.YtmpokibohbhoeaaKN68
import Derived.Test.YtmpokibohbhoeaaKN66
set_option linter.unusedSimpArgs false
set_option linter.unusedVariables false
set_option linter.defProp false
set_option maxRecDepth 100000
set_option maxHeartbeats 4000000
namespace Go.Proofs.Ytmpokibohbhoeaa.Eng
open Go Go.RowKit

section
variable {M : Nat} {Da Dz : List RuleD} {f : Nat}
private def tyF := And.intro (And.intro (And.intro (And.intro (And.intro (And.intro tb22 te106) (And.intro te107 (And.intro te22 te24))) (And.intro (And.intro te42 tf109_0) (And.intro tf109_1 (And.intro tf109_2 tf109_3)))) (And.intro (And.intro (And.intro tf109_4 tf109_5) (And.intro tf109_6 (And.intro tf109_7 tf138_0))) (And.intro (And.intro tf138_1 tf26_0) (And.intro tf44_0 (And.intro tf44_1 tf44_2))))) (And.intro (And.intro (And.intro (And.intro tk106 tk107) (And.intro tk109 (And.intro tk136 tk138))) (And.intro (And.intro tk22 tk24) (And.intro tk26 (And.intro tk3 tk4)))) (And.intro (And.intro (And.intro tk42 tk44) (And.intro tk5 (And.intro tk9 tk99))) (And.intro (And.intro tp109 tp138) (And.intro tp26 (And.intro tp44 tr106)))))) (And.intro (And.intro (And.intro (And.intro (And.intro tr107 tr109) (And.intro tr136 (And.intro tr138 tr22))) (And.intro (And.intro tr24 tr26) (And.intro tr3 (And.intro tr4 tr42)))) (And.intro (And.intro (And.intro tr44 tr5) (And.intro tr9 (And.intro tr99 tu106))) (And.intro (And.intro tu107 tu136) (And.intro tu22 (And.intro tu24 tu3))))) (And.intro (And.intro (And.intro (And.intro tu4 tu42) (And.intro tu5 (And.intro tu9 tu99))) (And.intro (And.intro tz106 tz107) (And.intro tz109 (And.intro tz136 tz138)))) (And.intro (And.intro (And.intro tz22 tz24) (And.intro tz26 (And.intro tz3 tz4))) (And.intro (And.intro tz42 tz44) (And.intro tz5 (And.intro tz9 tz99))))))
theorem migI_step (hDa : DB M Da) (hDz : DB M Dz) (hM : M ≤ 1048576) (hVa : descP Da) (hVz : descP Dz) (H : MgI Da Dz f) : MgI Da Dz (f + 1) := fun a b v ha0 ha1 hb0 hb1 hf hv hval => by
  obtain ⟨ia, rfl⟩ := Int.eq_ofNat_of_zero_le ha0
  obtain ⟨iz, rfl⟩ := Int.eq_ofNat_of_zero_le hb0
  have hia : ia < Da.length := by omega
  have hiz : iz < Dz.length := by omega
  obtain ⟨p, hp⟩ : ∃ p, Da[ia]? = some p := ⟨_, List.getElem?_eq_getElem hia⟩
  obtain ⟨q, hq⟩ : ∃ q, Dz[iz]? = some q := ⟨_, List.getElem?_eq_getElem hiz⟩
  have Gp : GoodR Da ia p := good_of hVa hp
  have Gq : GoodR Dz iz q := good_of hVz hq
  have hpb := hDa.rule p (List.mem_of_getElem? hp)
  have hqb := hDz.rule q (List.mem_of_getElem? hq)
  have hpD := ruleD_get hp
  have hqD := ruleD_get hq
  obtain ⟨n, bs, vs⟩ := v
  have hA : p.kind = q.kind → _ := fun h => sameI_c hDa hDz hM hVa hVz H hp hq h (by omega) hv hval
  have h8q : q.kind = 8 → q.kids[0]? = some (kid0 q) ∧ AC Try.prog 126 [.d (.rp [encDs Da, encDs Dz]), .d (iD (ia : Nat)), .d (iD (kid0 q)), .d (.rp (encVc (.mk n bs vs)))] none (fun r' _ => r' = mgR (mig Da Dz f ia (kid0 q) (.mk n bs vs))) := fun h => by
    obtain ⟨e1, e2⟩ := kid0_at (r := q) (by have := Gq.k8 h; omega)
    have g := Gq.kid 0 (by have := Gq.k8 h; omega)
    rw [e2] at g
    exact ⟨e1, H ia (kid0 q) _ (by omega) (by omega) (by omega) (by omega) (by omega) hv hval⟩
  have h8p : p.kind = 8 ∧ vs.length = 1 → p.kids[0]? = some (kid0 p) ∧ vs[0]? = some (vs.getD 0 V0) ∧ AC Try.prog 126 [.d (.rp [encDs Da, encDs Dz]), .d (iD (kid0 p)), .d (iD (iz : Nat)), .d (.rp (encVc (vs.getD 0 V0)))] none (fun r' _ => r' = mgR (mig Da Dz f (kid0 p) iz (vs.getD 0 V0))) := fun ⟨h, hl⟩ => by
    obtain ⟨e1, e2⟩ := kid0_at (r := p) (by have := Gp.k8 h; omega)
    have g := Gp.kid 0 (by have := Gp.k8 h; omega)
    rw [e2] at g
    have hv' := hv
    unfold VB at hv'
    rw [validV, hpD, Bool.and_eq_true] at hval
    have h3 := validVs_at hval.2 (j := 0) (by omega)
    rw [itemK_8 (.inl h)] at h3
    have e3 : vs.getD 0 V0 = vs[0] := by simp [List.getD, hl]
    refine ⟨e1, by rw [List.getElem?_eq_getElem (by omega), e3], H (kid0 p) iz _ (by omega) (by omega) (by omega) (by omega) (by omega) (getD_VB hv'.2.2 0) (by rw [e3]; exact h3)⟩
  have hpv := preM_VB (Da := Da) hVz (g := mig Da Dz f) (fun a b v h => mig_VB hVz f a b v h) ia iz hv
  have hsv := fun h => same_VB (p := p) hVz hq h (fun a b v h => mig_VB (Da := Da) hVz f a b v h) hv
  have HV := fun (w : V) (hw : VB 1048576 w) => validI_all hDz hM hVz _ (v := w) (i := iz) hiz (Nat.le_refl _) hw
  have hmig : mig Da Dz (f + 1) ia iz (.mk n bs vs) = mfin Dz iz (preM (mig Da Dz f) Da Dz ia iz n bs vs) := by rw [mig]
  have hown : ownV Da p n bs.length vs.length = true := by
    rw [validV, hpD, Bool.and_eq_true] at hval
    exact hval.1
  rw [hmig]
  clear hmig hval
  have hvl : vs.length ≤ 1048576 := by unfold VB at hv; exact hv.2.1
  have hbl : bs.length ≤ 1048576 := by unfold VB at hv; exact hv.1
  have HT1 := holds_c p.kind
  have HT2 := holds_c q.kind
  have pk := fun h => (same_alike (g := mig Da Dz f) (vs := vs) hVz hq h Gp hown).trans (congrArg (mfin Dz iz) (preM_k (Da := Da) (Dz := Dz) (g := mig Da Dz f) (n := n) (bs := bs) (vs := vs) hpD hqD h).symm)
  have pt := fun h h' => preM_t (Da := Da) (Dz := Dz) (g := mig Da Dz f) (n := n) (bs := bs) (vs := vs) hpD hqD h h'
  have p8 := fun h h' h8 => preM_8 (Da := Da) (Dz := Dz) (g := mig Da Dz f) (n := n) (bs := bs) (vs := vs) hpD hqD h h' h8
  have px := fun h h' h8 hx => (congrArg (mfin Dz iz) (preM_x (Da := Da) (Dz := Dz) (g := mig Da Dz f) (n := n) (bs := bs) (vs := vs) hpD hqD h h' h8 hx)).trans mfin_mig
  have po := fun h h' h8 hx => preM_o (Da := Da) (Dz := Dz) (g := mig Da Dz f) (n := n) (bs := bs) (vs := vs) hpD hqD h h' h8 hx
  generalize preM (mig Da Dz f) Da Dz ia iz n bs vs = Z at hpv pk pt p8 px po
  have hev := encVc_mk n bs vs
  rw [encVs_eq] at hev
  simp only [hev] at hA h8q ⊢
  refine calls_body Try.func126 rfl Try.call126 Try.ntmps126 (by simp) (by simp [ArgsOk]) (by simp [Rz.nkL, Rz.nk]) fun en hsz hks hk0 => ?_; refine enS ?_
  refine walkJS ?_
  refine aw_joinS [0, 2, 8, 9, 12] (fun _ _ => []) (fun _ z => [(13, .d (bD z.2))]) [352] (fun _ z => [(352, some ((encVc z.1).map .d))]) [] (fun _ _ => []) (fun z : V × Bool => mfin Dz iz z = mfin Dz iz Z ∧ VB 1048576 z.1) hks (fun _ => rfl) (fun x hx => ?_) ?_; rotate_left
  · refine walkS ?_
    refine aw_condS rfl (fun hk => ?_) (fun hk => ?_)
    · have HA := hA hk
      have e1 := pk hk
      have e2 := hsv hk
      generalize sameM (mig Da Dz f) Dz iz p q n bs vs = y at HA e1 e2
      (repeat (first | refine walkS ?_ | (refine callPre ?_; (first | refine callN_funS rfl (HA) ?_)) | (refine callPreL ?_; (first | refine callL_funS rfl (HA) ?_))))
      refine ⟨y, ⟨e1, e2⟩, ?_⟩
      exact wkS
    · have hkk : p.kind ≠ q.kind := by first | exact hk | simpa using hk
      cases t1 : isTx p.kind with
      | true =>
        cases t2 : isTx q.kind with
        | true =>
          rw [t1] at HT1
          rw [t2] at HT2
          (repeat (first | refine walkS ?_ | (refine callPre ?_; (first | refine callN_funS rfl (HT1) ?_ | refine callN_funS rfl (HT2) ?_)) | (refine callPreL ?_; (first | refine callL_funS rfl (HT1) ?_ | refine callL_funS rfl (HT2) ?_))))
          refine aw_condS rfl (fun hc => ?_) (fun hc => ?_)
          · refine walkS ?_
            have e1 := pt hkk (by rw [t1, t2]; rfl)
            have e2 := hpv
            rw [e1] at e2
            refine ⟨(.mk 0 bs [], true), ⟨by rw [e1], e2⟩, ?_⟩
            exact wkS2
          · (first | exact absurd trivial hc | exact absurd rfl hc | (cases hc; done) | omega | exact absurd hc (by decide) | (simp at hc; done))
        | false =>
          rw [t1] at HT1
          rw [t2] at HT2
          have ht : (isTx p.kind && isTx q.kind) = false := by rw [t1, t2]; rfl
          (repeat (first | refine walkS ?_ | (refine callPre ?_; (first | refine callN_funS rfl (HT1) ?_ | refine callN_funS rfl (HT2) ?_)) | (refine callPreL ?_; (first | refine callL_funS rfl (HT1) ?_ | refine callL_funS rfl (HT2) ?_))))
          refine aw_condS rfl (fun hc => ?_) (fun hc => ?_)
          · (first | exact absurd trivial hc | exact absurd rfl hc | (cases hc; done) | omega | exact absurd hc (by decide) | (simp at hc; done))
          refine walkS ?_
          refine aw_condS rfl (fun h8 => ?_) (fun h8 => ?_)
          · obtain ⟨e1, HM⟩ := h8q h8
            have e8 := p8 hkk ht h8
            have hpz := hpv
            rw [e8] at hpz
            generalize mig Da Dz f ia (kid0 q) (.mk n bs vs) = y at HM e8 hpz
            obtain ⟨w, ok⟩ := y
            (repeat (first | refine walkS ?_ | (refine callPre ?_; (first | refine callN_funS rfl (HM) ?_)) | (refine callPreL ?_; (first | refine callL_funS rfl (HM) ?_))))
            refine ⟨(.mk 0 [] [w], ok), ⟨by rw [e8], hpz⟩, ?_⟩
            exact wkS2
          have h8' : q.kind ≠ 8 := by first | exact h8 | simpa using h8
          by_cases x8 : p.kind = 8
          · have ex : (p.kind == 8) = true := by simpa using x8
            by_cases xl : vs.length = 1
            · have el : ((vs.length : Int) == 1) = true := by rw [beq_iff_eq]; omega
              obtain ⟨e1, e2, HM⟩ := h8p ⟨x8, xl⟩
              have ez := px hkk ht h8' ⟨x8, xl⟩
              generalize vs.getD 0 V0 = v0 at *
              generalize mig Da Dz f (kid0 p) iz v0 = y at HM ez
              obtain ⟨w, ok⟩ := y
              (repeat (first | refine ctlS ?_ | (refine ol_go ?_ (fun K1 hK1 => ?_); (first | exact trivial | exact rfl); refine evS ?_; (try simp only [ex, el]); refine hK1 _ _ ?_; clear hK1 K1) | (refine ow_go ?_ (fun x hx => by cases hx <;> (rw [hsz]; decide)) (fun K1 hK1 => ?_); (first | exact trivial | exact rfl); refine evS ?_; (try simp only [ex, el]); refine hK1 _ ?_; clear hK1 K1) | refine skipS ?_))
              refine aw_condS rfl (fun hc => ?_) (fun hc => ?_)
              · (repeat (first | refine walkS ?_ | (refine callPre ?_; (first | refine callN_funS rfl (HM) ?_)) | (refine callPreL ?_; (first | refine callL_funS rfl (HM) ?_))))
                (refine aw_ret ?_; (simp only [Fin, Try.results126]; refine finS ?_); refine ⟨_, [], .inr (.inl ⟨.tup [encV w, bD ok], rfl, rfl, ?_⟩), List.nodup_nil, by rw [ez]⟩; exact wkDS)
              · (first | exact absurd trivial hc | exact absurd rfl hc | (cases hc; done) | omega | exact absurd hc (by decide) | (simp at hc; done))
            · have el : ((vs.length : Int) == 1) = false := by rw [beq_eq_false_iff_ne]; omega
              have ez := po hkk ht h8' (fun h => xl h.2)
              (repeat (first | refine ctlS ?_ | (refine ol_go ?_ (fun K1 hK1 => ?_); (first | exact trivial | exact rfl); refine evS ?_; (try simp only [ex, el]); refine hK1 _ _ ?_; clear hK1 K1) | (refine ow_go ?_ (fun x hx => by cases hx <;> (rw [hsz]; decide)) (fun K1 hK1 => ?_); (first | exact trivial | exact rfl); refine evS ?_; (try simp only [ex, el]); refine hK1 _ ?_; clear hK1 K1) | refine skipS ?_))
              refine aw_condS rfl (fun hc => ?_) (fun hc => ?_)
              · (first | exact absurd trivial hc | exact absurd rfl hc | (cases hc; done) | omega | exact absurd hc (by decide) | (simp at hc; done))
              · refine walkS ?_
                refine ⟨(V0, false), ⟨by rw [ez], VB_V0⟩, ?_⟩
                exact wkS2
          · have ex : (p.kind == 8) = false := by simpa using x8
            have ez := po hkk ht h8' (fun h => x8 h.1)
            (repeat (first | refine ctlS ?_ | (refine ol_go ?_ (fun K1 hK1 => ?_); (first | exact trivial | exact rfl); refine evS ?_; (try simp only [ex]); refine hK1 _ _ ?_; clear hK1 K1) | (refine ow_go ?_ (fun x hx => by cases hx <;> (rw [hsz]; decide)) (fun K1 hK1 => ?_); (first | exact trivial | exact rfl); refine evS ?_; (try simp only [ex]); refine hK1 _ ?_; clear hK1 K1) | refine skipS ?_))
            refine aw_condS rfl (fun hc => ?_) (fun hc => ?_)
            · (first | exact absurd trivial hc | exact absurd rfl hc | (cases hc; done) | omega | exact absurd hc (by decide) | (simp at hc; done))
            · refine walkS ?_
              refine ⟨(V0, false), ⟨by rw [ez], VB_V0⟩, ?_⟩
              exact wkS2
      | false =>
        rw [t1] at HT1
        have ht : (isTx p.kind && isTx q.kind) = false := by rw [t1]; rfl
        (repeat (first | refine walkS ?_ | (refine callPre ?_; (first | refine callN_funS rfl (HT1) ?_ | refine callN_funS rfl (HT2) ?_)) | (refine callPreL ?_; (first | refine callL_funS rfl (HT1) ?_ | refine callL_funS rfl (HT2) ?_))))
        refine aw_condS rfl (fun hc => ?_) (fun hc => ?_)
        · (first | exact absurd trivial hc | exact absurd rfl hc | (cases hc; done) | omega | exact absurd hc (by decide) | (simp at hc; done))
        refine walkS ?_
        refine aw_condS rfl (fun h8 => ?_) (fun h8 => ?_)
        · obtain ⟨e1, HM⟩ := h8q h8
          have e8 := p8 hkk ht h8
          have hpz := hpv
          rw [e8] at hpz
          generalize mig Da Dz f ia (kid0 q) (.mk n bs vs) = y at HM e8 hpz
          obtain ⟨w, ok⟩ := y
          (repeat (first | refine walkS ?_ | (refine callPre ?_; (first | refine callN_funS rfl (HM) ?_)) | (refine callPreL ?_; (first | refine callL_funS rfl (HM) ?_))))
          refine ⟨(.mk 0 [] [w], ok), ⟨by rw [e8], hpz⟩, ?_⟩
          exact wkS2
        have h8' : q.kind ≠ 8 := by first | exact h8 | simpa using h8
        by_cases x8 : p.kind = 8
        · have ex : (p.kind == 8) = true := by simpa using x8
          by_cases xl : vs.length = 1
          · have el : ((vs.length : Int) == 1) = true := by rw [beq_iff_eq]; omega
            obtain ⟨e1, e2, HM⟩ := h8p ⟨x8, xl⟩
            have ez := px hkk ht h8' ⟨x8, xl⟩
            generalize vs.getD 0 V0 = v0 at *
            generalize mig Da Dz f (kid0 p) iz v0 = y at HM ez
            obtain ⟨w, ok⟩ := y
            (repeat (first | refine ctlS ?_ | (refine ol_go ?_ (fun K1 hK1 => ?_); (first | exact trivial | exact rfl); refine evS ?_; (try simp only [ex, el]); refine hK1 _ _ ?_; clear hK1 K1) | (refine ow_go ?_ (fun x hx => by cases hx <;> (rw [hsz]; decide)) (fun K1 hK1 => ?_); (first | exact trivial | exact rfl); refine evS ?_; (try simp only [ex, el]); refine hK1 _ ?_; clear hK1 K1) | refine skipS ?_))
            refine aw_condS rfl (fun hc => ?_) (fun hc => ?_)
            · (repeat (first | refine walkS ?_ | (refine callPre ?_; (first | refine callN_funS rfl (HM) ?_)) | (refine callPreL ?_; (first | refine callL_funS rfl (HM) ?_))))
              (refine aw_ret ?_; (simp only [Fin, Try.results126]; refine finS ?_); refine ⟨_, [], .inr (.inl ⟨.tup [encV w, bD ok], rfl, rfl, ?_⟩), List.nodup_nil, by rw [ez]⟩; exact wkDS)
            · (first | exact absurd trivial hc | exact absurd rfl hc | (cases hc; done) | omega | exact absurd hc (by decide) | (simp at hc; done))
          · have el : ((vs.length : Int) == 1) = false := by rw [beq_eq_false_iff_ne]; omega
            have ez := po hkk ht h8' (fun h => xl h.2)
            (repeat (first | refine ctlS ?_ | (refine ol_go ?_ (fun K1 hK1 => ?_); (first | exact trivial | exact rfl); refine evS ?_; (try simp only [ex, el]); refine hK1 _ _ ?_; clear hK1 K1) | (refine ow_go ?_ (fun x hx => by cases hx <;> (rw [hsz]; decide)) (fun K1 hK1 => ?_); (first | exact trivial | exact rfl); refine evS ?_; (try simp only [ex, el]); refine hK1 _ ?_; clear hK1 K1) | refine skipS ?_))
            refine aw_condS rfl (fun hc => ?_) (fun hc => ?_)
            · (first | exact absurd trivial hc | exact absurd rfl hc | (cases hc; done) | omega | exact absurd hc (by decide) | (simp at hc; done))
            · refine walkS ?_
              refine ⟨(V0, false), ⟨by rw [ez], VB_V0⟩, ?_⟩
              exact wkS2
        · have ex : (p.kind == 8) = false := by simpa using x8
          have ez := po hkk ht h8' (fun h => x8 h.1)
          (repeat (first | refine ctlS ?_ | (refine ol_go ?_ (fun K1 hK1 => ?_); (first | exact trivial | exact rfl); refine evS ?_; (try simp only [ex]); refine hK1 _ _ ?_; clear hK1 K1) | (refine ow_go ?_ (fun x hx => by cases hx <;> (rw [hsz]; decide)) (fun K1 hK1 => ?_); (first | exact trivial | exact rfl); refine evS ?_; (try simp only [ex]); refine hK1 _ ?_; clear hK1 K1) | refine skipS ?_))
          refine aw_condS rfl (fun hc => ?_) (fun hc => ?_)
          · (first | exact absurd trivial hc | exact absurd rfl hc | (cases hc; done) | omega | exact absurd hc (by decide) | (simp at hc; done))
          · refine walkS ?_
            refine ⟨(V0, false), ⟨by rw [ez], VB_V0⟩, ?_⟩
            exact wkS2
  · obtain ⟨w, ok⟩ := x
    obtain ⟨hx1, hx2⟩ := hx
    rw [← hx1]
    refine headS ?_
    refine aw_freezeB 12 352 (encVc w) rfl rfl hks (by decide) ?_
    have HVw := HV w hx2
    cases ok with
    | false =>
      rw [mfin_f rfl]
      refine walkS ?_
      refine aw_condS rfl (fun hc => ?_) (fun hc => ?_)
      · refine walkS ?_
        (refine aw_ret ?_; (simp only [Fin, Try.results126]; refine finS ?_); refine ⟨_, [], .inr (.inl ⟨.tup [encV V0, bD false], rfl, rfl, ?_⟩), List.nodup_nil, rfl⟩; exact wkDS)
      · (first | exact absurd trivial hc | exact absurd rfl hc | (cases hc; done) | omega | exact absurd hc (by decide) | (simp at hc; done))
    | true =>
      cases hvd : validV Dz iz w with
      | false =>
        rw [hvd] at HVw
        rw [mfin_v hvd]
        (repeat (first | refine walkS ?_ | (refine callPre ?_; (first | refine callN_funS rfl (HVw) ?_)) | (refine callPreL ?_; (first | refine callL_funS rfl (HVw) ?_))))
        refine aw_condS rfl (fun hc => ?_) (fun hc => ?_)
        · refine walkS ?_
          (refine aw_ret ?_; (simp only [Fin, Try.results126]; refine finS ?_); refine ⟨_, [], .inr (.inl ⟨.tup [encV V0, bD false], rfl, rfl, ?_⟩), List.nodup_nil, rfl⟩; exact wkDS)
        · (first | exact absurd trivial hc | exact absurd rfl hc | (cases hc; done) | omega | exact absurd hc (by decide) | (simp at hc; done))
      | true =>
        rw [hvd] at HVw
        rw [mfin_t rfl hvd]
        (repeat (first | refine walkS ?_ | (refine callPre ?_; (first | refine callN_funS rfl (HVw) ?_)) | (refine callPreL ?_; (first | refine callL_funS rfl (HVw) ?_))))
        refine aw_condS rfl (fun hc => ?_) (fun hc => ?_)
        · (first | exact absurd trivial hc | exact absurd rfl hc | (cases hc; done) | omega | exact absurd hc (by decide) | (simp at hc; done))
        · refine walkS ?_
          (refine aw_ret ?_; (simp only [Fin, Try.results126]; refine finS ?_); refine ⟨_, [], .inr (.inl ⟨.tup [encV w, bD true], rfl, rfl, ?_⟩), List.nodup_nil, rfl⟩; exact wkDS)
end
end Go.Proofs.Ytmpokibohbhoeaa.Eng
