/-
  Equal values: the reference.
-/
import Derived.Test.YtnndpimlfibncaaDoorKTy
import Derived.Test.YtnndpimlfibncaaDoorKN0
import Derived.Test.YtnndpimlfibncaaDoorKP2
import Derived.Test.YtnndpimlfibncaaDoorKNE
set_option linter.unusedSimpArgs false
set_option linter.unusedVariables false
set_option linter.defProp false
set_option maxRecDepth 100000
set_option maxHeartbeats 4000000
namespace Go.Proofs.YtnndpimlfibncaaDoor.Eng
open Go Go.RowKit

theorem eqVs_len {n m : Int} {bs cs : List UInt8} {vs ws : List V} : eqV (.mk n bs vs) (.mk m cs ws) = (n == m && (bs == cs && (vs.length == ws.length && eqVs vs ws))) := by rw [eqV]
private def tyF := And.intro (And.intro (And.intro (And.intro tb22 (And.intro te22 te27)) (And.intro (And.intro tf29_0 tf29_1) (And.intro tf29_2 tk22))) (And.intro (And.intro (And.intro tk27 tk29) (And.intro tk3 tk4)) (And.intro (And.intro tk5 tp29) (And.intro tr22 tr27)))) (And.intro (And.intro (And.intro tr29 (And.intro tr3 tr4)) (And.intro (And.intro tr5 tu22) (And.intro tu27 tu3))) (And.intro (And.intro (And.intro tu4 tu5) (And.intro tz22 tz27)) (And.intro (And.intro tz29 tz3) (And.intro tz4 tz5))))
theorem eqValS_step {n m : Int} {bs cs : List UInt8} {vs ws : List V} (hv : VB 1048576 (.mk n bs vs)) (hw : VB 1048576 (.mk m cs ws)) (H : ∀ v ∈ vs, ∀ w ∈ ws, AC Tryd.prog 10 [.d (encV v), .d (encV w)] none (fun r' _ => r' = .d (bD (eqV v w)))) : AC Tryd.prog 10 [.d (encV (.mk n bs vs)), .d (encV (.mk m cs ws))] none (fun r' _ => r' = .d (bD (eqV (.mk n bs vs) (.mk m cs ws)))) := by
  unfold VB at hv hw
  obtain ⟨v1, v2, _⟩ := hv
  obtain ⟨w1, w2, _⟩ := hw
  have HB := eqBytesS_c v1 w1
  rw [eqVs_len, encV_mk, encV_mk, encVs_eq, encVs_eq]
  by_cases hn : n = m
  · have e1 : (n == m) = true := by simpa using hn
    have e1' : (n != m) = false := by simpa using hn
    cases hb : bs == cs with
    | false =>
      rw [hb] at HB
      refine calls_body Tryd.func10 rfl Tryd.call10 Tryd.ntmps10 (by simp) (by simp [ArgsOk]) (by simp [Rz.nkL, Rz.nk]) fun en hsz hks hk0 => ?_; refine enS ?_
      (repeat (first | refine ctlS ?_ | (refine ol_go ?_ (fun K1 hK1 => ?_); (first | exact trivial | exact rfl); refine evS ?_; (try simp only [e1, e1']); refine hK1 _ _ ?_; clear hK1 K1) | (refine ow_go ?_ (fun x hx => by cases hx <;> (rw [hsz]; decide)) (fun K1 hK1 => ?_); (first | exact trivial | exact rfl); refine evS ?_; (try simp only [e1, e1']); refine hK1 _ ?_; clear hK1 K1) | refine skipS ?_ | (refine callPre ?_; (first | refine callN_funS rfl (HB) ?_)) | (refine callPreL ?_; (first | refine callL_funS rfl (HB) ?_))))
      refine aw_condS rfl (fun hc => ?_) (fun hc => ?_)
      · refine walkS ?_
        (refine aw_ret ?_; (simp only [Fin, Tryd.results10]; refine finS ?_); exact ⟨_, _, .inl ⟨rfl, rfl⟩, List.nodup_nil, by rw [e1]; rfl⟩)
      · (first | exact absurd trivial hc | exact absurd rfl hc | (cases hc; done) | omega | exact absurd hc (by decide) | (simp at hc; done))
    | true =>
      rw [hb] at HB
      by_cases hl : vs.length = ws.length
      · have e2 : (vs.length == ws.length) = true := by simpa using hl
        have e2' : ((vs.length : Int) != ws.length) = false := by simp [hl]
        refine calls_body Tryd.func10 rfl Tryd.call10 Tryd.ntmps10 (by simp) (by simp [ArgsOk]) (by simp [Rz.nkL, Rz.nk]) fun en hsz hks hk0 => ?_; refine enS ?_
        (repeat (first | refine ctlS ?_ | (refine ol_go ?_ (fun K1 hK1 => ?_); (first | exact trivial | exact rfl); refine evS ?_; (try simp only [e1, e1', e2']); refine hK1 _ _ ?_; clear hK1 K1) | (refine ow_go ?_ (fun x hx => by cases hx <;> (rw [hsz]; decide)) (fun K1 hK1 => ?_); (first | exact trivial | exact rfl); refine evS ?_; (try simp only [e1, e1', e2']); refine hK1 _ ?_; clear hK1 K1) | refine skipS ?_ | (refine callPre ?_; (first | refine callN_funS rfl (HB) ?_)) | (refine callPreL ?_; (first | refine callL_funS rfl (HB) ?_))))
        refine aw_condS rfl (fun hc => ?_) (fun hc => ?_)
        · (first | exact absurd trivial hc | exact absurd rfl hc | (cases hc; done) | omega | exact absurd hc (by decide) | (simp at hc; done))
        refine walkS ?_
        refine aw_loopS [2, 3, 4] (fun _ _ => []) (fun _ k => [(5, .d (iD (k : Nat)))]) [] (fun _ _ => []) [] (fun _ _ => []) (fun k => k ≤ vs.length ∧ eqVs vs ws = eqVs (vs.drop k) (ws.drop k)) (fun k => vs.length - k) (0) hks (fun _ => rfl) ⟨Nat.zero_le _, rfl⟩ wkS ?_; intro x hx; refine headS ?_
        obtain ⟨hx1, hx2⟩ := hx
        refine walkS ?_
        refine aw_condS rfl (fun hk => ?_) (fun hk => ?_)
        · rw [eqVs_step (by omega) (by omega)] at hx2
          have HV := H (vs[x]'(by omega)) (List.getElem_mem _) (ws[x]'(by omega)) (List.getElem_mem _)
          cases he : eqV (vs[x]'(by omega)) (ws[x]'(by omega)) with
          | false =>
            rw [he] at hx2 HV
            (repeat (first | refine walkS ?_ | (refine callPre ?_; (first | refine callN_funS rfl (HV) ?_)) | (refine callPreL ?_; (first | refine callL_funS rfl (HV) ?_))))
            refine aw_condS rfl (fun hc => ?_) (fun hc => ?_)
            · refine walkS ?_
              (refine aw_ret ?_; (simp only [Fin, Tryd.results10]; refine finS ?_); exact ⟨_, _, .inl ⟨rfl, rfl⟩, List.nodup_nil, by rw [e1, e2, hx2]; rfl⟩)
            · (first | exact absurd trivial hc | exact absurd rfl hc | (cases hc; done) | omega | exact absurd hc (by decide) | (simp at hc; done))
          | true =>
            rw [he] at hx2 HV
            (repeat (first | refine walkS ?_ | (refine callPre ?_; (first | refine callN_funS rfl (HV) ?_)) | (refine callPreL ?_; (first | refine callL_funS rfl (HV) ?_))))
            refine aw_condS rfl (fun hc => ?_) (fun hc => ?_)
            · (first | exact absurd trivial hc | exact absurd rfl hc | (cases hc; done) | omega | exact absurd hc (by decide) | (simp at hc; done))
            · refine walkS ?_
              refine ⟨x + 1, ⟨by omega, hx2⟩, by omega, ?_⟩
              exact wkS
        · rw [List.drop_eq_nil_of_le (by omega)] at hx2
          refine walkS ?_
          (refine aw_ret ?_; (simp only [Fin, Tryd.results10]; refine finS ?_); exact ⟨_, _, .inl ⟨rfl, rfl⟩, List.nodup_nil, by rw [e1, e2, hx2]; rfl⟩)
      · have e2 : (vs.length == ws.length) = false := by simpa using hl
        have e2' : ((vs.length : Int) != ws.length) = true := by simp; omega
        refine calls_body Tryd.func10 rfl Tryd.call10 Tryd.ntmps10 (by simp) (by simp [ArgsOk]) (by simp [Rz.nkL, Rz.nk]) fun en hsz hks hk0 => ?_; refine enS ?_
        (repeat (first | refine ctlS ?_ | (refine ol_go ?_ (fun K1 hK1 => ?_); (first | exact trivial | exact rfl); refine evS ?_; (try simp only [e1, e1', e2']); refine hK1 _ _ ?_; clear hK1 K1) | (refine ow_go ?_ (fun x hx => by cases hx <;> (rw [hsz]; decide)) (fun K1 hK1 => ?_); (first | exact trivial | exact rfl); refine evS ?_; (try simp only [e1, e1', e2']); refine hK1 _ ?_; clear hK1 K1) | refine skipS ?_ | (refine callPre ?_; (first | refine callN_funS rfl (HB) ?_)) | (refine callPreL ?_; (first | refine callL_funS rfl (HB) ?_))))
        refine aw_condS rfl (fun hc => ?_) (fun hc => ?_)
        · refine walkS ?_
          (refine aw_ret ?_; (simp only [Fin, Tryd.results10]; refine finS ?_); exact ⟨_, _, .inl ⟨rfl, rfl⟩, List.nodup_nil, by rw [e1, e2]; rfl⟩)
        · (first | exact absurd trivial hc | exact absurd rfl hc | (cases hc; done) | omega | exact absurd hc (by decide) | (simp at hc; done))
  · have e1 : (n == m) = false := by simpa using hn
    have e1' : (n != m) = true := by simpa using hn
    refine calls_body Tryd.func10 rfl Tryd.call10 Tryd.ntmps10 (by simp) (by simp [ArgsOk]) (by simp [Rz.nkL, Rz.nk]) fun en hsz hks hk0 => ?_; refine enS ?_
    (repeat (first | refine ctlS ?_ | (refine ol_go ?_ (fun K1 hK1 => ?_); (first | exact trivial | exact rfl); refine evS ?_; (try simp only [e1, e1']); refine hK1 _ _ ?_; clear hK1 K1) | (refine ow_go ?_ (fun x hx => by cases hx <;> (rw [hsz]; decide)) (fun K1 hK1 => ?_); (first | exact trivial | exact rfl); refine evS ?_; (try simp only [e1, e1']); refine hK1 _ ?_; clear hK1 K1) | refine skipS ?_))
    refine aw_condS rfl (fun hc => ?_) (fun hc => ?_)
    · refine walkS ?_
      (refine aw_ret ?_; (simp only [Fin, Tryd.results10]; refine finS ?_); exact ⟨_, _, .inl ⟨rfl, rfl⟩, List.nodup_nil, by rw [e1]; rfl⟩)
    · (first | exact absurd trivial hc | exact absurd rfl hc | (cases hc; done) | omega | exact absurd hc (by decide) | (simp at hc; done))
theorem eqValS_all : ∀ N : Nat, ∀ {v w : V}, SizeOf.sizeOf v ≤ N → VB 1048576 v → VB 1048576 w → AC Tryd.prog 10 [.d (encV v), .d (encV w)] none (fun r' _ => r' = .d (bD (eqV v w)))
  | 0, .mk n bs vs, w, h, _, _ => by simp only [V.mk.sizeOf_spec] at h; omega
  | N + 1, .mk n bs vs, .mk m cs ws, h, hv, hw => eqValS_step hv hw fun v hvm w hwm => eqValS_all N (by have := item_lt (n := n) (bs := bs) hvm; omega) (by unfold VB at hv; exact hv.2.2.el v hvm) (by unfold VB at hw; exact hw.2.2.el w hwm)
theorem eqValS_c {v w : V} (hv : VB 1048576 v) (hw : VB 1048576 w) : AC Tryd.prog 10 [.d (encV v), .d (encV w)] none (fun r' _ => r' = .d (bD (eqV v w))) := eqValS_all _ (Nat.le_refl _) hv hw

end Go.Proofs.YtnndpimlfibncaaDoor.Eng
