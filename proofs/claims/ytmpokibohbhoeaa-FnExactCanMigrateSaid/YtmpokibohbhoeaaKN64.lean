/-
  Migrating, the reference: sequences.
-/
import Derived.Test.YtmpokibohbhoeaaKNM
set_option linter.unusedSimpArgs false
set_option linter.unusedVariables false
set_option linter.defProp false
set_option maxRecDepth 100000
set_option maxHeartbeats 4000000
namespace Go.Proofs.Ytmpokibohbhoeaa.Eng
open Go Go.RowKit

section
variable {M : Nat} {Da Dz : List RuleD}
theorem splice_V (w w' : V) : splice ((encVc w).map A.d) ((encVc w').map A.d) 0 = (encVc w').map A.d := by
  obtain ⟨n, bs, vs⟩ := w
  obtain ⟨n', bs', vs'⟩ := w'
  simp [splice, encVc]
theorem known_of {D : List RuleD} (hV : descP D) {i : Int} (h0 : 0 ≤ i) (h1 : i < D.length) : vKnown D i = true := by
  unfold vKnown
  rw [vDesc_yes hV, decide_eq_true ⟨h0, h1⟩]
  rfl
private def tyF := And.intro (And.intro (And.intro (And.intro (And.intro (And.intro tb22 te106) (And.intro te107 te22)) (And.intro (And.intro te24 te42) (And.intro tf109_0 tf109_1))) (And.intro (And.intro (And.intro tf109_2 tf109_3) (And.intro tf109_4 tf109_5)) (And.intro (And.intro tf109_6 tf109_7) (And.intro tf26_0 tf44_0)))) (And.intro (And.intro (And.intro (And.intro tf44_1 tf44_2) (And.intro tk106 tk107)) (And.intro (And.intro tk109 tk22) (And.intro tk24 tk26))) (And.intro (And.intro (And.intro tk3 tk4) (And.intro tk42 tk44)) (And.intro (And.intro tk5 tk9) (And.intro tp109 (And.intro tp26 tp44)))))) (And.intro (And.intro (And.intro (And.intro (And.intro tr106 tr107) (And.intro tr109 tr22)) (And.intro (And.intro tr24 tr26) (And.intro tr3 tr4))) (And.intro (And.intro (And.intro tr42 tr44) (And.intro tr5 tr9)) (And.intro (And.intro tu106 tu107) (And.intro tu22 tu24)))) (And.intro (And.intro (And.intro (And.intro tu3 tu4) (And.intro tu42 tu5)) (And.intro (And.intro tu9 tz106) (And.intro tz107 tz109))) (And.intro (And.intro (And.intro tz22 tz24) (And.intro tz26 tz3)) (And.intro (And.intro tz4 tz42) (And.intro tz44 (And.intro tz5 tz9))))))
theorem seqS_c (hDa : DB M Da) (hDz : DB M Dz) (hM : M ≤ 1048576) (hVz : descP Dz) {f : Nat} (H : MgS Da Dz f) {p q : RuleD} (hp : RB M p) (hq : RB M q)
    (hxk : p.kids.length = p.names.length) (hyk : q.kids.length = q.names.length) (hyg : ∀ i (hi : i < q.kids.length), 0 ≤ q.kids[i] ∧ q.kids[i] < Dz.length) (hdis : ∀ i (hi : i < p.names.length) j (hj : j < p.names.length), p.names[i] = p.names[j] → i = j)
    (n : Int) (bs : List UInt8) {vs : List V} (hvl : vs.length = p.kids.length) (hv : VBs 1048576 vs)
    (hg : ∀ i j (hi : i < p.kids.length) (hj : j < q.kids.length) (hiv : i < vs.length), (0 ≤ p.kids[i] ∧ p.kids[i] < Da.length) ∧ p.kids[i] + q.kids[j] < f ∧ validV Da p.kids[i] vs[i] = true) :
    AC Try.prog 186 [.d (encD Da), .d (encR p), .d (encD Dz), .d (encR q), .d (encV (.mk n bs vs))] none (fun r' _ => r' = mgR (if (allM (partM (mig Da Dz f) Dz p q vs) q.names.length 0).2 = true then (.mk 0 [] (allM (partM (mig Da Dz f) Dz p q vs) q.names.length 0).1, true) else (V0, false))) := by
  have hxn := hp.ln
  have hyn := hq.ln
  have hxk' := hp.lk
  generalize hZ : allM (partM (mig Da Dz f) Dz p q vs) q.names.length 0 = Z
  rw [encV_mk, encVs_eq]
  refine calls_body Try.func186 rfl Try.call186 Try.ntmps186 (by simp) (by simp [ArgsOk]) (by simp [Rz.nkL, Rz.nk]) fun en hsz hks hk0 => ?_; refine enS ?_
  refine walkS ?_
  refine aw_loopS [5, 6, 7, 8, 9, 10, 11, 12] (fun κ s' => [(κ, keyB s' 112 2)]) (fun κ z => [(13, .d (iD (z.1 : Nat)))]) [112] (fun κ z => [(112, some [.d (iD 0), .d (.v (.slice none 0 0)), .own κ 44 3 (encVs z.2)])]) [] (fun κ z => [(κ, some (z.2.length, 44, 3))]) (fun z : Nat × List V => z.1 ≤ q.names.length ∧ z.2.length = z.1 ∧ Z = joinM z.2 (allM (partM (mig Da Dz f) Dz p q vs) (q.names.length - z.1) z.1)) (fun z => q.names.length - z.1) ((0, [])) hks (fun _ => rfl) ⟨Nat.zero_le _, rfl, by rw [joinM_nil]; exact hZ.symm⟩ wkS ?_; intro x hx; refine headS ?_
  obtain ⟨i, out⟩ := x
  simp only at hx ⊢
  obtain ⟨hx1, hx2, hx3⟩ := hx
  refine walkS ?_
  refine aw_condS rfl (fun hk => ?_) (fun hk => ?_)
  · have hil : i < q.names.length := by omega
    have hik : i < q.kids.length := by omega
    have eq1 : q.kids.getD i 0 = q.kids[i] := by simp [List.getD, hik]
    have eq2 : q.names.getD i .empty = q.names[i] := by simp [List.getD, hil]
    have i1 : q.kids[i]? = some q.kids[i] := List.getElem?_eq_getElem hik
    have i2 : q.names[i]? = some q.names[i] := List.getElem?_eq_getElem hil
    have g1 := hyg i hik
    have HD : AC Try.prog 87 [.d (encD Dz), .d (iD q.kids[i])] none (fun r' _ => r' = .d (encV (dflt Dz Dz.length q.kids[i]))) := by
      have := defaultS_c hDz hM q.kids[i]
      rwa [dfV, if_pos (known_of hVz g1.1 g1.2)] at this
    (repeat (first | refine walkS ?_ | (refine callPre ?_; (first | refine callN_funS rfl (HD) ?_)) | (refine callPreL ?_; (first | refine callL_funS rfl (HD) ?_))))
    generalize hR : partM (mig Da Dz f) Dz p q vs i = R
    rw [show q.names.length - i = (q.names.length - (i + 1)) + 1 by omega] at hx3
    have jo := joinM_ok (g := partM (mig Da Dz f) Dz p q vs) (out := out) (c := q.names.length - (i + 1)) (i := i)
    have jb := joinM_bad (g := partM (mig Da Dz f) Dz p q vs) (out := out) (c := q.names.length - (i + 1)) (i := i)
    rw [hR] at jo jb
    refine aw_loopS [5, 6, 7, 8, 9, 10, 11, 12, 13, 14] (fun _ _ => []) (fun _ z => [(15, .d (iD (z.1 : Nat)))]) [256] (fun _ z => [(256, some ((encVc z.2).map .d))]) [] (fun _ _ => []) (fun z : Nat × V => z.1 ≤ p.names.length ∧ (((∀ j (hj : j < p.names.length), j < z.1 → p.names[j] ≠ q.names[i]) ∧ z.2 = dflt Dz Dz.length q.kids[i]) ∨ ((∃ j, ∃ hj : j < p.names.length, j < z.1 ∧ p.names[j] = q.names[i]) ∧ R = (z.2, true)))) (fun z => p.names.length - z.1) ((0, dflt Dz Dz.length q.kids[i])) hks (fun _ => rfl) ⟨Nat.zero_le _, .inl ⟨fun _ _ h => absurd h (Nat.not_lt_zero _), rfl⟩⟩ wkS ?_; intro x hx; refine headS ?_
    obtain ⟨k, w⟩ := x
    simp only at hx ⊢
    obtain ⟨hy1, hy2⟩ := hx
    refine walkS ?_
    refine aw_condS rfl (fun hkk => ?_) (fun hkk => ?_)
    · have hkl : k < p.names.length := by omega
      have hkk' : k < p.kids.length := by omega
      have i3 : p.names[k]? = some p.names[k] := List.getElem?_eq_getElem hkl
      have i4 : p.kids[k]? = some p.kids[k] := List.getElem?_eq_getElem hkk'
      refine walkS ?_
      refine aw_condS rfl (fun he => ?_) (fun he => ?_)
      · have hne : p.names[k] ≠ q.names[i] := by first | exact he | simpa using he
        refine walkS ?_
        refine ⟨(k + 1, w), ⟨by simp only; omega, ?_⟩, by simp only; omega, ?_⟩
        · simp only
          rcases hy2 with ⟨h1, h2⟩ | ⟨⟨j, h1, h2, h3⟩, h4⟩
          · refine .inl ⟨fun j h3 h4 => ?_, h2⟩
            by_cases e : j = k
            · subst e; exact hne
            · exact h1 j h3 (by omega)
          · exact .inr ⟨⟨j, h1, by omega, h3⟩, h4⟩
        exact wkS
      · have heq : p.names[k] = q.names[i] := by first | exact he | simpa using he
        have hbefore : ∀ j (hj : j < p.names.length), j < k → p.names[j] ≠ q.names[i] := fun j hj h h2 => by
          have := hdis j hj k hkl (h2.trans heq.symm)
          omega
        have hkv : k < vs.length := by omega
        have hRv : R = mig Da Dz f p.kids[k] q.kids[i] vs[k] := by
          rw [← hR, partM, eq2, nameIx_hit hkl heq hbefore, eq1]
          simp [List.getD, hkk', hkv]
        obtain ⟨m1, m2, m3⟩ := hg k i hkk' hik hkv
        have HM := H _ _ _ m1.1 m1.2 g1.1 g1.2 m2 (hv.el _ (List.getElem_mem hkv)) m3
        have i5 : vs[k]? = some vs[k] := List.getElem?_eq_getElem hkv
        rw [← hRv] at HM
        clear hRv hR
        obtain ⟨w', ok⟩ := R
        cases ok with
        | false =>
          rw [jb rfl] at hx3
          (repeat (first | refine walkS ?_ | (refine callPre ?_; (first | refine callN_funS rfl (HM) ?_)) | (refine callPreL ?_; (first | refine callL_funS rfl (HM) ?_))))
          refine aw_condS rfl (fun hc => ?_) (fun hc => ?_)
          · refine walkS ?_
            (refine aw_ret ?_; (simp only [Fin, Try.results186]; refine finS ?_); refine ⟨_, [], .inr (.inl ⟨.tup [encV V0, bD false], rfl, rfl, ?_⟩), List.nodup_nil, by rw [hx3, if_neg (by simp)]⟩; exact wkDS)
          · (first | exact absurd trivial hc | exact absurd rfl hc | (cases hc; done) | omega | exact absurd hc (by decide) | (simp at hc; done))
        | true =>
          (repeat (first | refine walkS ?_ | (refine callPre ?_; (first | refine callN_funS rfl (HM) ?_)) | (refine callPreL ?_; (first | refine callL_funS rfl (HM) ?_))))
          refine aw_condS rfl (fun hc => ?_) (fun hc => ?_)
          · (first | exact absurd trivial hc | exact absurd rfl hc | (cases hc; done) | omega | exact absurd hc (by decide) | (simp at hc; done))
          · refine walkS ?_
            simp only [splice_V]
            refine ⟨(k + 1, w'), ⟨by simp only; omega, .inr ⟨⟨k, hkl, by simp only; omega, heq⟩, rfl⟩⟩, by simp only; omega, ?_⟩
            exact wkS
    · have hkl : k = p.names.length := by omega
      have hRw : R = (w, true) := by
        rcases hy2 with ⟨h1, h2⟩ | ⟨_, h4⟩
        · rw [← hR, partM, eq2, nameIx_none (fun j hj => h1 j hj (by omega)), eq1, h2]
        · exact h4
      rw [hRw] at jo
      rw [jo rfl] at hx3
      refine walkS ?_
      refine ⟨(i + 1, out ++ [w]), ⟨by simp only; omega, by simp [hx2], hx3⟩, by simp only; omega, ?_⟩
      exact wkS
  · rw [show q.names.length - i = 0 by omega, joinM_0] at hx3
    refine walkS ?_
    (refine aw_ret ?_; (simp only [Fin, Try.results186]; refine finS ?_); refine ⟨_, [], .inr (.inl ⟨.tup [encV (.mk 0 [] out), bD true], rfl, rfl, ?_⟩), List.nodup_nil, by rw [hx3, if_pos rfl]⟩; exact wkDS)
end
end Go.Proofs.Ytmpokibohbhoeaa.Eng
