/-
  Migrating, the program: items, parts of sequences.
-/
import Derived.Test.YtmpokibohbhoeaaKP3
set_option linter.unusedSimpArgs false
set_option linter.unusedVariables false
set_option linter.defProp false
set_option maxRecDepth 100000
set_option maxHeartbeats 4000000
namespace Go.Proofs.Ytmpokibohbhoeaa.Eng
open Go Go.RowKit

def MgI (Da Dz : List RuleD) (f : Nat) : Prop := ∀ (a b : Int) (v : V), 0 ≤ a → a < Da.length → 0 ≤ b → b < Dz.length → a + b < f → VB 1048576 v → validV Da a v = true →
  AC Try.prog 126 [.d (.rp [encDs Da, encDs Dz]), .d (iD a), .d (iD b), .d (.rp (encVc v))] none (fun r' _ => r' = mgR (mig Da Dz f a b v))
section
variable {M : Nat} {Da Dz : List RuleD} {f : Nat}
private def tyF := And.intro (And.intro (And.intro (And.intro (And.intro (And.intro tb22 te106) (And.intro te107 (And.intro te22 te24))) (And.intro (And.intro te42 tf109_0) (And.intro tf109_1 (And.intro tf109_2 tf109_3)))) (And.intro (And.intro (And.intro tf109_4 tf109_5) (And.intro tf109_6 (And.intro tf109_7 tf138_0))) (And.intro (And.intro tf138_1 (And.intro tf26_0 tf44_0)) (And.intro tf44_1 (And.intro tf44_2 tk106))))) (And.intro (And.intro (And.intro (And.intro tk107 tk109) (And.intro tk115 (And.intro tk136 tk138))) (And.intro (And.intro tk22 tk24) (And.intro tk26 (And.intro tk3 tk4)))) (And.intro (And.intro (And.intro tk42 tk44) (And.intro tk5 (And.intro tk9 tk99))) (And.intro (And.intro tp109 (And.intro tp138 tp26)) (And.intro tp44 (And.intro tr106 tr107)))))) (And.intro (And.intro (And.intro (And.intro (And.intro tr109 tr115) (And.intro tr136 (And.intro tr138 tr22))) (And.intro (And.intro tr24 tr26) (And.intro tr3 (And.intro tr4 tr42)))) (And.intro (And.intro (And.intro tr44 tr5) (And.intro tr9 (And.intro tr99 tu106))) (And.intro (And.intro tu107 (And.intro tu115 tu136)) (And.intro tu22 (And.intro tu24 tu3))))) (And.intro (And.intro (And.intro (And.intro tu4 tu42) (And.intro tu5 (And.intro tu9 tu99))) (And.intro (And.intro tz106 tz107) (And.intro tz109 (And.intro tz115 tz136)))) (And.intro (And.intro (And.intro tz138 tz22) (And.intro tz24 (And.intro tz26 tz3))) (And.intro (And.intro tz4 (And.intro tz42 tz44)) (And.intro tz5 (And.intro tz9 tz99))))))
theorem itemsM_c (H : MgI Da Dz f) (ka kb : Int) (n : Int) (bs : List UInt8) {vs : List V} (hl : vs.length ≤ 1048576) (hv : VBs 1048576 vs)
    (hg : ∀ i (hi : i < vs.length), (0 ≤ ka ∧ ka < Da.length) ∧ (0 ≤ kb ∧ kb < Dz.length) ∧ ka + kb < f ∧ validV Da ka vs[i] = true) :
    AC Try.prog 189 [.d (.rp [encDs Da, encDs Dz]), .d (iD ka), .d (iD kb), .d (.rp (encVc (.mk n bs vs)))] none (fun r' _ => r' = mgR (okM (allM (fun i => mig Da Dz f ka kb (vs.getD i V0)) vs.length 0))) := by
  rw [encVc_mk, encVs_eq]
  generalize hZ : allM (fun i => mig Da Dz f ka kb (vs.getD i V0)) vs.length 0 = Z
  refine calls_body Try.func189 rfl Try.call189 Try.ntmps189 (by simp) (by simp [ArgsOk]) (by simp [Rz.nkL, Rz.nk]) fun en hsz hks hk0 => ?_; refine enS ?_
  refine walkS ?_
  refine aw_loopS [0, 1, 2, 3, 8, 9, 10, 19] (fun κ s' => [(κ, keyB s' 32 2)]) (fun κ x => [(20, .d (iD (x.1 : Nat)))]) [32] (fun κ x => [(32, some [.d (iD 0), .d (.v (.slice none 0 0)), .own κ 44 3 (encVs x.2)])]) [] (fun κ x => [(κ, some (x.2.length, 44, 3))]) (fun x : Nat × List V => x.1 ≤ vs.length ∧ x.2.length = x.1 ∧ Z = joinM x.2 (allM (fun i => mig Da Dz f ka kb (vs.getD i V0)) (vs.length - x.1) x.1)) (fun x => vs.length - x.1) ((0, [])) hks (fun _ => rfl) ⟨Nat.zero_le _, rfl, by rw [joinM_nil]; exact hZ.symm⟩ wkS ?_; intro x hx; refine headS ?_
  obtain ⟨k, out⟩ := x
  simp only at hx ⊢
  obtain ⟨hx1, hx2, hx3⟩ := hx
  refine walkS ?_
  refine aw_condS rfl (fun hk => ?_) (fun hk => ?_)
  · have hkl : k < vs.length := by omega
    obtain ⟨g1, g2, g3, g4⟩ := hg k hkl
    have i3 : vs.getD k V0 = vs[k] := by simp [List.getD, hkl]
    have HM := H _ _ _ g1.1 g1.2 g2.1 g2.2 g3 (hv.el _ (List.getElem_mem hkl)) g4
    rw [show vs.length - k = (vs.length - (k + 1)) + 1 by omega] at hx3
    have jo := joinM_ok (g := fun i => mig Da Dz f ka kb (vs.getD i V0)) (out := out) (c := vs.length - (k + 1)) (i := k)
    have jb := joinM_bad (g := fun i => mig Da Dz f ka kb (vs.getD i V0)) (out := out) (c := vs.length - (k + 1)) (i := k)
    simp only [i3] at jo jb
    generalize mig Da Dz f ka kb vs[k] = z at *
    obtain ⟨w, ok⟩ := z
    cases ok with
    | false =>
      rw [jb rfl] at hx3
      (repeat (first | refine walkS ?_ | (refine callPre ?_; (first | refine callN_funS rfl (HM) ?_)) | (refine callPreL ?_; (first | refine callL_funS rfl (HM) ?_))))
      refine aw_condS rfl (fun hc => ?_) (fun hc => ?_)
      · refine walkS ?_
        (refine aw_ret ?_; (simp only [Fin, Try.results189]; refine finS ?_); refine ⟨_, [], .inr (.inl ⟨.tup [encV V0, bD false], rfl, rfl, ?_⟩), List.nodup_nil, by rw [hx3]; rfl⟩; exact wkDS)
      · (first | exact absurd trivial hc | exact absurd rfl hc | (cases hc; done) | omega | exact absurd hc (by decide) | (simp at hc; done))
    | true =>
      rw [jo rfl] at hx3
      (repeat (first | refine walkS ?_ | (refine callPre ?_; (first | refine callN_funS rfl (HM) ?_)) | (refine callPreL ?_; (first | refine callL_funS rfl (HM) ?_))))
      refine aw_condS rfl (fun hc => ?_) (fun hc => ?_)
      · (first | exact absurd trivial hc | exact absurd rfl hc | (cases hc; done) | omega | exact absurd hc (by decide) | (simp at hc; done))
      · refine walkS ?_
        refine ⟨(k + 1, out ++ [w]), ⟨by simp only; omega, by simp [hx2], hx3⟩, by simp only; omega, ?_⟩
        exact wkS
  · rw [show vs.length - k = 0 by omega, joinM_0] at hx3
    refine walkS ?_
    (refine aw_ret ?_; (simp only [Fin, Try.results189]; refine finS ?_); refine ⟨_, [], .inr (.inl ⟨.tup [encV (.mk 0 [] out), bD true], rfl, rfl, ?_⟩), List.nodup_nil, by rw [hx3]; rfl⟩; exact wkDS)
theorem partsM_c (hDz : DB M Dz) (hM : M ≤ 1048576) (hVz : descP Dz) (H : MgI Da Dz f) {p q : RuleD} (hp : RB M p) (hq : RB M q)
    (hpk : p.kids.length = p.names.length) (hqk : q.kids.length = q.names.length) (hqg : ∀ i (hi : i < q.kids.length), 0 ≤ q.kids[i] ∧ q.kids[i] < Dz.length)
    (n : Int) (bs : List UInt8) {vs : List V} (hvl : vs.length = p.kids.length) (hv : VBs 1048576 vs)
    (hg : ∀ i j (hi : i < p.kids.length) (hj : j < q.kids.length) (hiv : i < vs.length), (0 ≤ p.kids[i] ∧ p.kids[i] < Da.length) ∧ p.kids[i] + q.kids[j] < f ∧ validV Da p.kids[i] vs[i] = true) :
    AC Try.prog 190 [.d (.rp [encDs Da, encDs Dz]), .d (encR p), .d (encR q), .d (.rp (encVc (.mk n bs vs)))] none (fun r' _ => r' = mgR (okM (allM (partM (mig Da Dz f) Dz p q vs) q.names.length 0))) := by
  have hpn := hp.ln
  have hqn := hq.ln
  have hpk' := hp.lk
  rw [encVc_mk, encVs_eq]
  generalize hZ : allM (partM (mig Da Dz f) Dz p q vs) q.names.length 0 = Z
  refine calls_body Try.func190 rfl Try.call190 Try.ntmps190 (by simp) (by simp [ArgsOk]) (by simp [Rz.nkL, Rz.nk]) fun en hsz hks hk0 => ?_; refine enS ?_
  refine walkS ?_
  refine aw_loopS [0, 3, 5, 6, 8, 9, 10, 18, 19] (fun κ s' => [(κ, keyB s' 64 2)]) (fun κ z => [(20, .d (iD (z.1 : Nat)))]) [64] (fun κ z => [(64, some [.d (iD 0), .d (.v (.slice none 0 0)), .own κ 44 3 (encVs z.2)])]) [] (fun κ z => [(κ, some (z.2.length, 44, 3))]) (fun z : Nat × List V => z.1 ≤ q.names.length ∧ z.2.length = z.1 ∧ Z = joinM z.2 (allM (partM (mig Da Dz f) Dz p q vs) (q.names.length - z.1) z.1)) (fun z => q.names.length - z.1) ((0, [])) hks (fun _ => rfl) ⟨Nat.zero_le _, rfl, by rw [joinM_nil]; exact hZ.symm⟩ wkS ?_; intro x hx; refine headS ?_
  obtain ⟨i, out⟩ := x
  simp only at hx ⊢
  obtain ⟨hx1, hx2, hx3⟩ := hx
  refine walkS ?_
  refine aw_condS rfl (fun hk => ?_) (fun hk => ?_)
  · have hil : i < q.names.length := by omega
    have hik : i < q.kids.length := by omega
    have eq1 : q.kids.getD i 0 = q.kids[i] := by simp [List.getD, hik]
    have eq2 : q.names.getD i .empty = q.names[i] := by simp [List.getD, hil]
    have i1 : q.kids[i]? = some q.kids[i] := List.getElem?_eq_getElem hik
    have i2 : q.names[i]? = some q.names[i] := List.getElem?_eq_getElem hil
    have g1 := hqg i hik
    have HD := dfltI_all hDz hM hVz Dz.length q.kids[i] g1.1 g1.2 g1.2
    have HI := ixStr_c (l := p.names) (by omega) q.names[i]
    generalize hR : partM (mig Da Dz f) Dz p q vs i = R
    rw [show q.names.length - i = (q.names.length - (i + 1)) + 1 by omega] at hx3
    have jo := joinM_ok (g := partM (mig Da Dz f) Dz p q vs) (out := out) (c := q.names.length - (i + 1)) (i := i)
    have jb := joinM_bad (g := partM (mig Da Dz f) Dz p q vs) (out := out) (c := q.names.length - (i + 1)) (i := i)
    rw [hR] at jo jb
    (iterate 12 (first | refine aw_seq ?_ | refine aw_region ?_ | refine aw_block ?_ | (refine aw_exit ?_; (try simp (decide := true) only [reduceIte])) | (refine aw_skip ?_; try dsimp only) | (refine aw_any (by kernel_rfl) (by kernel_rfl) (by simp only [hsz]; kernel_rfl) ?_) | (refine ow_nil ?_; try dsimp only) | (refine ol_go ?_ (fun K1 hK1 => ?_); (first | exact trivial | exact rfl); refine evS ?_; refine hK1 _ _ ?_; clear hK1 K1) | (refine ol_skip rfl rfl ?_ ?_; (focus (intro hne; cases hne; done)); simp only [St.set]) | (refine ol_nil ⟨by kernel_rfl, ?_⟩; try dsimp only) | (refine ow_go ?_ (fun x hx => by cases hx <;> (rw [hsz]; decide)) (fun K1 hK1 => ?_); (first | exact trivial | exact rfl); refine evS ?_; refine hK1 _ ?_; clear hK1 K1) | (refine ow_skip rfl rfl ?_ (fun x hx => by cases hx <;> (rw [hsz]; decide)) ?_; (focus (intro hne; cases hne; done)); simp only [St.set])))
    refine aw_freezeB 12 96 [sD q.names[i]] rfl rfl hks (by decide) ?_
    cases hix : nameIx p.names q.names[i] with
    | none =>
      rw [hix] at HI
      have HI' : AC Try.prog 193 [.d (encS p.names), .clo 194 [] [.d (.rp [sD q.names[i]])]] none (fun r' _ => r' = .d (iD (-1))) := HI
      have hR' : R = (dflt Dz Dz.length q.kids[i], true) := by rw [← hR, partM, eq2, hix, eq1]
      rw [hR'] at jo
      rw [jo rfl] at hx3
      (repeat (first | refine walkS ?_ | (refine callPre ?_; (first | refine callN_funS rfl (HI') ?_)) | (refine callPreL ?_; (first | refine callL_funS rfl (HI') ?_))))
      refine aw_condS rfl (fun hc => ?_) (fun hc => ?_)
      · (repeat (first | refine walkS ?_ | (refine callPre ?_; (first | refine callN_funS rfl (HD) ?_)) | (refine callPreL ?_; (first | refine callL_funS rfl (HD) ?_))))
        refine ⟨(i + 1, out ++ [dflt Dz Dz.length q.kids[i]]), ⟨by simp only; omega, by simp [hx2], hx3⟩, by simp only; omega, ?_⟩
        exact wkS
      · (first | exact absurd trivial hc | exact absurd rfl hc | (cases hc; done) | omega | exact absurd hc (by decide) | (simp at hc; done))
    | some k =>
      rw [hix] at HI
      have HI' : AC Try.prog 193 [.d (encS p.names), .clo 194 [] [.d (.rp [sD q.names[i]])]] none (fun r' _ => r' = .d (iD (k : Nat))) := HI
      have hkl : k < p.names.length := by
        have h := hix
        unfold nameIx at h
        rw [List.findIdx?_eq_some_iff_getElem] at h
        exact h.1
      have hkk : k < p.kids.length := by omega
      have hkv : k < vs.length := by omega
      have i4 : p.kids[k]? = some p.kids[k] := List.getElem?_eq_getElem hkk
      have i5 : vs[k]? = some vs[k] := List.getElem?_eq_getElem hkv
      have hRv : R = mig Da Dz f p.kids[k] q.kids[i] vs[k] := by
        rw [← hR, partM, eq2, hix, eq1]
        simp [List.getD, hkk, hkv]
      obtain ⟨m1, m2, m3⟩ := hg k i hkk hik hkv
      have HM := H _ _ _ m1.1 m1.2 g1.1 g1.2 m2 (hv.el _ (List.getElem_mem hkv)) m3
      rw [← hRv] at HM
      have hneg : decide ((k : Int) < 0) = false := decide_eq_false (by omega)
      clear hRv hR
      obtain ⟨w, ok⟩ := R
      cases ok with
      | false =>
        rw [jb rfl] at hx3
        (repeat (first | refine ctlS ?_ | (refine ol_go ?_ (fun K1 hK1 => ?_); (first | exact trivial | exact rfl); refine evS ?_; (try simp only [hneg]); refine hK1 _ _ ?_; clear hK1 K1) | (refine ow_go ?_ (fun x hx => by cases hx <;> (rw [hsz]; decide)) (fun K1 hK1 => ?_); (first | exact trivial | exact rfl); refine evS ?_; (try simp only [hneg]); refine hK1 _ ?_; clear hK1 K1) | refine skipS ?_ | (refine callPre ?_; (first | refine callN_funS rfl (HI') ?_)) | (refine callPreL ?_; (first | refine callL_funS rfl (HI') ?_))))
        refine aw_condS rfl (fun hc => ?_) (fun hc => ?_)
        · (first | exact absurd trivial hc | exact absurd rfl hc | (cases hc; done) | omega | exact absurd hc (by decide) | (simp at hc; done))
        (repeat (first | refine walkS ?_ | (refine callPre ?_; (first | refine callN_funS rfl (HM) ?_)) | (refine callPreL ?_; (first | refine callL_funS rfl (HM) ?_))))
        refine aw_condS rfl (fun hc => ?_) (fun hc => ?_)
        · refine walkS ?_
          (refine aw_ret ?_; (simp only [Fin, Try.results190]; refine finS ?_); refine ⟨_, [], .inr (.inl ⟨.tup [encV V0, bD false], rfl, rfl, ?_⟩), List.nodup_nil, by rw [hx3]; rfl⟩; exact wkDS)
        · (first | exact absurd trivial hc | exact absurd rfl hc | (cases hc; done) | omega | exact absurd hc (by decide) | (simp at hc; done))
      | true =>
        rw [jo rfl] at hx3
        (repeat (first | refine ctlS ?_ | (refine ol_go ?_ (fun K1 hK1 => ?_); (first | exact trivial | exact rfl); refine evS ?_; (try simp only [hneg]); refine hK1 _ _ ?_; clear hK1 K1) | (refine ow_go ?_ (fun x hx => by cases hx <;> (rw [hsz]; decide)) (fun K1 hK1 => ?_); (first | exact trivial | exact rfl); refine evS ?_; (try simp only [hneg]); refine hK1 _ ?_; clear hK1 K1) | refine skipS ?_ | (refine callPre ?_; (first | refine callN_funS rfl (HI') ?_)) | (refine callPreL ?_; (first | refine callL_funS rfl (HI') ?_))))
        refine aw_condS rfl (fun hc => ?_) (fun hc => ?_)
        · (first | exact absurd trivial hc | exact absurd rfl hc | (cases hc; done) | omega | exact absurd hc (by decide) | (simp at hc; done))
        (repeat (first | refine walkS ?_ | (refine callPre ?_; (first | refine callN_funS rfl (HM) ?_)) | (refine callPreL ?_; (first | refine callL_funS rfl (HM) ?_))))
        refine aw_condS rfl (fun hc => ?_) (fun hc => ?_)
        · (first | exact absurd trivial hc | exact absurd rfl hc | (cases hc; done) | omega | exact absurd hc (by decide) | (simp at hc; done))
        · refine walkS ?_
          refine ⟨(i + 1, out ++ [w]), ⟨by simp only; omega, by simp [hx2], hx3⟩, by simp only; omega, ?_⟩
          exact wkS
  · rw [show q.names.length - i = 0 by omega, joinM_0] at hx3
    refine walkS ?_
    (refine aw_ret ?_; (simp only [Fin, Try.results190]; refine finS ?_); refine ⟨_, [], .inr (.inl ⟨.tup [encV (.mk 0 [] out), bD true], rfl, rfl, ?_⟩), List.nodup_nil, by rw [hx3]; rfl⟩; exact wkDS)
end
end Go.Proofs.Ytmpokibohbhoeaa.Eng
