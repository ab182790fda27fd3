/-
  Equal bytes, equal values: both sides.
-/
import Derived.Test.YtoegmaebdihnaaaGreatDoorKTy
import Derived.Test.YtoegmaebdihnaaaGreatDoorKN0
import Derived.Test.YtoegmaebdihnaaaGreatDoorKPure12
import Derived.Test.YtoegmaebdihnaaaGreatDoorKN3
set_option linter.unusedSimpArgs false
set_option linter.unusedVariables false
namespace Go.Proofs.YtoegmaebdihnaaaGreatDoor.Eng
open Go Go.RowKit

theorem beq_bytes {l m : List UInt8} (h : l.length = m.length) : ∀ k, k ≤ l.length → (∀ j (h1 : j < l.length) (h2 : j < m.length), j < k → l[j] = m[j]) → (l == m) = (l.drop k == m.drop k)
  | 0, _, _ => by simp
  | k + 1, hk, hh => by
    rw [beq_bytes h k (by omega) (fun j h1 h2 hj => hh j h1 h2 (by omega)), List.drop_eq_getElem_cons (show k < l.length by omega), List.drop_eq_getElem_cons (show k < m.length by omega), hh k (by omega) (by omega) (by omega), List.cons_beq_cons, beq_self_eq_true, Bool.true_and]
theorem beq_bytes_no {l m : List UInt8} {k : Nat} (h1 : k < l.length) (h2 : k < m.length) (h : l[k] ≠ m[k]) : (l == m) = false := by
  rw [beq_eq_false_iff_ne]
  rintro rfl
  exact h rfl
private theorem tyF : (((((bytesT Tryz.prog 25 = true ∧ tyElem Tryz.prog 25 = some 5) ∧ (tyElem Tryz.prog 39 = some 41 ∧ tyField Tryz.prog 41 0 = some (0, 3))) ∧ ((tyField Tryz.prog 41 1 = some (1, 25) ∧ tyField Tryz.prog 41 2 = some (2, 39)) ∧ (tyK Tryz.prog 25 = some (false, 1) ∧ tyK Tryz.prog 3 = some (false, 1)))) ∧ (((tyK Tryz.prog 39 = some (false, 1) ∧ tyK Tryz.prog 4 = some (false, 1)) ∧ (tyK Tryz.prog 41 = some (true, 3) ∧ tyK Tryz.prog 5 = some (false, 1))) ∧ ((tyK Tryz.prog 9 = some (false, 1) ∧ tyPlaces Tryz.prog 41 = some [(0, 1), (1, 1), (2, 1)]) ∧ (tyRow Tryz.prog 25 = some 1 ∧ (tyRow Tryz.prog 3 = some 1 ∧ tyRow Tryz.prog 39 = some 1))))) ∧ ((((tyRow Tryz.prog 4 = some 1 ∧ tyRow Tryz.prog 41 = some 3) ∧ (tyRow Tryz.prog 5 = some 1 ∧ tyRow Tryz.prog 9 = some 1)) ∧ ((Tryz.prog.underlying 25 = some (TypeDesc.slice 5) ∧ Tryz.prog.underlying 3 = some (TypeDesc.int IntKind.i64)) ∧ (Tryz.prog.underlying 39 = some (TypeDesc.slice 41) ∧ Tryz.prog.underlying 4 = some (TypeDesc.bool)))) ∧ (((Tryz.prog.underlying 5 = some (TypeDesc.int IntKind.u8) ∧ Tryz.prog.underlying 9 = some (TypeDesc.string)) ∧ (tyZero Tryz.prog 25 = some [Value.slice none 0 0] ∧ tyZero Tryz.prog 3 = some [Value.int IntKind.i64 0])) ∧ ((tyZero Tryz.prog 39 = some [Value.slice none 0 0] ∧ tyZero Tryz.prog 4 = some [Value.bool false]) ∧ (tyZero Tryz.prog 41 = some [Value.int IntKind.i64 0, Value.slice none 0 0, Value.slice none 0 0] ∧ (tyZero Tryz.prog 5 = some [Value.int IntKind.u8 0] ∧ tyZero Tryz.prog 9 = some [Value.string ByteArray.empty])))))) := ⟨⟨⟨⟨⟨tb25, te25⟩, ⟨te39, tf41_0⟩⟩, ⟨⟨tf41_1, tf41_2⟩, ⟨tk25, tk3⟩⟩⟩, ⟨⟨⟨tk39, tk4⟩, ⟨tk41, tk5⟩⟩, ⟨⟨tk9, tp41⟩, ⟨tr25, ⟨tr3, tr39⟩⟩⟩⟩⟩, ⟨⟨⟨⟨tr4, tr41⟩, ⟨tr5, tr9⟩⟩, ⟨⟨tu25, tu3⟩, ⟨tu39, tu4⟩⟩⟩, ⟨⟨⟨tu5, tu9⟩, ⟨tz25, tz3⟩⟩, ⟨⟨tz39, tz4⟩, ⟨tz41, ⟨tz5, tz9⟩⟩⟩⟩⟩⟩
set_option maxRecDepth 100000 in
set_option maxHeartbeats 1000000 in
theorem eqBytesS_c {l m : List UInt8} (hl : l.length ≤ 1048576) (hm : m.length ≤ 1048576) : AC Tryz.prog 85 [.d (encB l), .d (encB m)] none (fun r' _ => r' = .d (bD (l == m))) := by
  refine calls_body Tryz.func85 rfl Tryz.call85 Tryz.ntmps85 (by simp) (by simp [ArgsOk]) (by simp [Rz.nkL, Rz.nk]) fun en hsz hks hk0 => ?_; simp only [St.init, frOf, Rz.addSL, Rz.addS, Rz.toAL, Rz.toA, Rz.nk, List.zipIdx_cons, List.zipIdx_nil, List.map_cons, List.map_nil, Nat.zero_add, Nat.reduceAdd]
  refine walkS ?_
  refine aw_condS rfl (fun h => ?_) (fun h => ?_)
  · refine walkS ?_
    (refine aw_ret ?_; (simp only [Fin, Tryz.results85]; refine finS ?_); exact ⟨_, _, .inl ⟨rfl, rfl⟩, List.nodup_nil, by rw [show (l == m) = false by rw [beq_eq_false_iff_ne]; rintro rfl; exact h rfl]⟩)
  · have hlm : l.length = m.length := by omega
    refine walkS ?_
    refine aw_loopS [0, 1, 4] (fun _ _ => []) (fun _ k => [(5, .d (iD (k : Nat)))]) [] (fun _ _ => []) [] (fun _ _ => []) (fun k => k ≤ l.length ∧ ∀ j (h1 : j < l.length) (h2 : j < m.length), j < k → l[j] = m[j]) (fun k => l.length - k) (0) hks (fun _ => rfl) ⟨Nat.zero_le _, fun _ _ _ h => absurd h (Nat.not_lt_zero _)⟩ wkS ?_; intro x hx; simp (decide := true) only [St.head, List.map_cons, List.map_nil, lk, rmv, List.cons_append, List.nil_append, List.append_nil, reduceIte, Nat.reduceAdd]
    obtain ⟨hx1, hx2⟩ := hx
    refine walkS ?_
    refine aw_condS rfl (fun hk => ?_) (fun hk => ?_)
    · have i1 : l[x]? = some (l[x]'(by omega)) := List.getElem?_eq_getElem (by omega)
      have i2 : m[x]? = some (m[x]'(by omega)) := List.getElem?_eq_getElem (by omega)
      refine walkS ?_
      refine aw_condS rfl (fun he => ?_) (fun he => ?_)
      · refine walkS ?_
        (refine aw_ret ?_; (simp only [Fin, Tryz.results85]; refine finS ?_); exact ⟨_, _, .inl ⟨rfl, rfl⟩, List.nodup_nil, by rw [beq_bytes_no (by omega) (by omega) (u8_ninj he)]⟩)
      · refine walkS ?_
        refine ⟨x + 1, ⟨by omega, fun j h1 h2 hj => ?_⟩, by omega, ?_⟩
        · by_cases e : j = x
          · subst e; exact u8_inj he
          · exact hx2 j h1 h2 (by omega)
        exact wkS
    · refine walkS ?_
      (refine aw_ret ?_; (simp only [Fin, Tryz.results85]; refine finS ?_); exact ⟨_, _, .inl ⟨rfl, rfl⟩, List.nodup_nil, by rw [beq_bytes hlm l.length (Nat.le_refl _) (fun j h1 h2 _ => hx2 j h1 h2 (by omega)), List.drop_length, hlm, List.drop_length]; rfl⟩)

theorem eqVs_len {n m : Int} {bs cs : List UInt8} {vs ws : List V} : eqV (.mk n bs vs) (.mk m cs ws) = (n == m && (bs == cs && (vs.length == ws.length && eqVs vs ws))) := by rw [eqV]
set_option maxRecDepth 100000 in
set_option maxHeartbeats 2000000 in
theorem eqValS_step {n m : Int} {bs cs : List UInt8} {vs ws : List V} (hv : VB 1048576 (.mk n bs vs)) (hw : VB 1048576 (.mk m cs ws)) (H : ∀ v ∈ vs, ∀ w ∈ ws, AC Tryz.prog 66 [.d (encV v), .d (encV w)] none (fun r' _ => r' = .d (bD (eqV v w)))) : AC Tryz.prog 66 [.d (encV (.mk n bs vs)), .d (encV (.mk m cs ws))] none (fun r' _ => r' = .d (bD (eqV (.mk n bs vs) (.mk m cs ws)))) := by
  unfold VB at hv hw
  obtain ⟨v1, v2, _⟩ := hv
  obtain ⟨w1, w2, _⟩ := hw
  have HB := eqBytesS_c v1 w1
  rw [eqVs_len, encV_mk, encV_mk, encVs_eq, encVs_eq]
  by_cases hn : n = m
  · have e1 : (n == m) = true := by simpa using hn
    have e1' : (n != m) = false := by simpa using hn
    cases hb : bs == cs with
    | false =>
      rw [hb] at HB
      refine calls_body Tryz.func66 rfl Tryz.call66 Tryz.ntmps66 (by simp) (by simp [ArgsOk]) (by simp [Rz.nkL, Rz.nk]) fun en hsz hks hk0 => ?_; simp only [St.init, frOf, Rz.addSL, Rz.addS, Rz.toAL, Rz.toA, Rz.nk, List.zipIdx_cons, List.zipIdx_nil, List.map_cons, List.map_nil, Nat.zero_add, Nat.reduceAdd]
      (repeat (first | refine aw_seq ?_ | refine aw_region ?_ | refine aw_block ?_ | (refine aw_exit ?_; (try simp (decide := true) only [reduceIte])) | (refine aw_skip ?_; try dsimp only) | (refine aw_any (by kernel_rfl) (by kernel_rfl) (by simp only [hsz]; kernel_rfl) ?_) | (refine ow_nil ?_; try dsimp only) | (refine ol_go ?_ (fun K1 hK1 => ?_); (first | exact trivial | exact rfl); refine evS ?_; (try simp only [e1, e1']); refine hK1 _ _ ?_; clear hK1 K1) | (refine ol_skip rfl rfl ?_ ?_; (focus (intro hne; cases hne; done)); simp only [St.set]) | (refine ol_nil ⟨by kernel_rfl, ?_⟩; try dsimp only) | (refine ow_go ?_ (fun x hx => by cases hx <;> (rw [hsz]; decide)) (fun K1 hK1 => ?_); (first | exact trivial | exact rfl); refine evS ?_; (try simp only [e1, e1']); refine hK1 _ ?_; clear hK1 K1) | (refine ow_skip rfl rfl ?_ (fun x hx => by cases hx <;> (rw [hsz]; decide)) ?_; (focus (intro hne; cases hne; done)); simp only [St.set]) | (refine callPre ?_; (first | refine callN_funS rfl (HB) ?_)) | (refine callPreL ?_; (first | refine callL_funS rfl (HB) ?_))))
      refine aw_condS rfl (fun hc => ?_) (fun hc => ?_)
      · refine walkS ?_
        (refine aw_ret ?_; (simp only [Fin, Tryz.results66]; refine finS ?_); exact ⟨_, _, .inl ⟨rfl, rfl⟩, List.nodup_nil, by rw [e1]; rfl⟩)
      · (first | exact absurd trivial hc | exact absurd rfl hc | (cases hc; done) | omega | exact absurd hc (by decide) | (simp at hc; done))
    | true =>
      rw [hb] at HB
      by_cases hl : vs.length = ws.length
      · have e2 : (vs.length == ws.length) = true := by simpa using hl
        have e2' : ((vs.length : Int) != ws.length) = false := by simp [hl]
        refine calls_body Tryz.func66 rfl Tryz.call66 Tryz.ntmps66 (by simp) (by simp [ArgsOk]) (by simp [Rz.nkL, Rz.nk]) fun en hsz hks hk0 => ?_; simp only [St.init, frOf, Rz.addSL, Rz.addS, Rz.toAL, Rz.toA, Rz.nk, List.zipIdx_cons, List.zipIdx_nil, List.map_cons, List.map_nil, Nat.zero_add, Nat.reduceAdd]
        (repeat (first | refine aw_seq ?_ | refine aw_region ?_ | refine aw_block ?_ | (refine aw_exit ?_; (try simp (decide := true) only [reduceIte])) | (refine aw_skip ?_; try dsimp only) | (refine aw_any (by kernel_rfl) (by kernel_rfl) (by simp only [hsz]; kernel_rfl) ?_) | (refine ow_nil ?_; try dsimp only) | (refine ol_go ?_ (fun K1 hK1 => ?_); (first | exact trivial | exact rfl); refine evS ?_; (try simp only [e1, e1', e2']); refine hK1 _ _ ?_; clear hK1 K1) | (refine ol_skip rfl rfl ?_ ?_; (focus (intro hne; cases hne; done)); simp only [St.set]) | (refine ol_nil ⟨by kernel_rfl, ?_⟩; try dsimp only) | (refine ow_go ?_ (fun x hx => by cases hx <;> (rw [hsz]; decide)) (fun K1 hK1 => ?_); (first | exact trivial | exact rfl); refine evS ?_; (try simp only [e1, e1', e2']); refine hK1 _ ?_; clear hK1 K1) | (refine ow_skip rfl rfl ?_ (fun x hx => by cases hx <;> (rw [hsz]; decide)) ?_; (focus (intro hne; cases hne; done)); simp only [St.set]) | (refine callPre ?_; (first | refine callN_funS rfl (HB) ?_)) | (refine callPreL ?_; (first | refine callL_funS rfl (HB) ?_))))
        refine aw_condS rfl (fun hc => ?_) (fun hc => ?_)
        · (first | exact absurd trivial hc | exact absurd rfl hc | (cases hc; done) | omega | exact absurd hc (by decide) | (simp at hc; done))
        refine walkS ?_
        refine aw_loopS [2, 3, 4] (fun _ _ => []) (fun _ k => [(5, .d (iD (k : Nat)))]) [] (fun _ _ => []) [] (fun _ _ => []) (fun k => k ≤ vs.length ∧ eqVs vs ws = eqVs (vs.drop k) (ws.drop k)) (fun k => vs.length - k) (0) hks (fun _ => rfl) ⟨Nat.zero_le _, rfl⟩ wkS ?_; intro x hx; simp (decide := true) only [St.head, List.map_cons, List.map_nil, lk, rmv, List.cons_append, List.nil_append, List.append_nil, reduceIte, Nat.reduceAdd]
        obtain ⟨hx1, hx2⟩ := hx
        refine walkS ?_
        refine aw_condS rfl (fun hk => ?_) (fun hk => ?_)
        · rw [eqVs_step (by omega) (by omega)] at hx2
          have HV := H (vs[x]'(by omega)) (List.getElem_mem _) (ws[x]'(by omega)) (List.getElem_mem _)
          cases he : eqV (vs[x]'(by omega)) (ws[x]'(by omega)) with
          | false =>
            rw [he] at hx2 HV
            (repeat (first | refine walkS ?_ | (refine callPre ?_; (first | refine callN_funS rfl (HV) ?_)) | (refine callPreL ?_; (first | refine callL_funS rfl (HV) ?_))))
            refine aw_condS rfl (fun hc => ?_) (fun hc => ?_)
            · refine walkS ?_
              (refine aw_ret ?_; (simp only [Fin, Tryz.results66]; refine finS ?_); exact ⟨_, _, .inl ⟨rfl, rfl⟩, List.nodup_nil, by rw [e1, e2, hx2]; rfl⟩)
            · (first | exact absurd trivial hc | exact absurd rfl hc | (cases hc; done) | omega | exact absurd hc (by decide) | (simp at hc; done))
          | true =>
            rw [he] at hx2 HV
            (repeat (first | refine walkS ?_ | (refine callPre ?_; (first | refine callN_funS rfl (HV) ?_)) | (refine callPreL ?_; (first | refine callL_funS rfl (HV) ?_))))
            refine aw_condS rfl (fun hc => ?_) (fun hc => ?_)
            · (first | exact absurd trivial hc | exact absurd rfl hc | (cases hc; done) | omega | exact absurd hc (by decide) | (simp at hc; done))
            · refine walkS ?_
              refine ⟨x + 1, ⟨by omega, hx2⟩, by omega, ?_⟩
              exact wkS
        · rw [List.drop_eq_nil_of_le (by omega)] at hx2
          refine walkS ?_
          (refine aw_ret ?_; (simp only [Fin, Tryz.results66]; refine finS ?_); exact ⟨_, _, .inl ⟨rfl, rfl⟩, List.nodup_nil, by rw [e1, e2, hx2]; rfl⟩)
      · have e2 : (vs.length == ws.length) = false := by simpa using hl
        have e2' : ((vs.length : Int) != ws.length) = true := by simp; omega
        refine calls_body Tryz.func66 rfl Tryz.call66 Tryz.ntmps66 (by simp) (by simp [ArgsOk]) (by simp [Rz.nkL, Rz.nk]) fun en hsz hks hk0 => ?_; simp only [St.init, frOf, Rz.addSL, Rz.addS, Rz.toAL, Rz.toA, Rz.nk, List.zipIdx_cons, List.zipIdx_nil, List.map_cons, List.map_nil, Nat.zero_add, Nat.reduceAdd]
        (repeat (first | refine aw_seq ?_ | refine aw_region ?_ | refine aw_block ?_ | (refine aw_exit ?_; (try simp (decide := true) only [reduceIte])) | (refine aw_skip ?_; try dsimp only) | (refine aw_any (by kernel_rfl) (by kernel_rfl) (by simp only [hsz]; kernel_rfl) ?_) | (refine ow_nil ?_; try dsimp only) | (refine ol_go ?_ (fun K1 hK1 => ?_); (first | exact trivial | exact rfl); refine evS ?_; (try simp only [e1, e1', e2']); refine hK1 _ _ ?_; clear hK1 K1) | (refine ol_skip rfl rfl ?_ ?_; (focus (intro hne; cases hne; done)); simp only [St.set]) | (refine ol_nil ⟨by kernel_rfl, ?_⟩; try dsimp only) | (refine ow_go ?_ (fun x hx => by cases hx <;> (rw [hsz]; decide)) (fun K1 hK1 => ?_); (first | exact trivial | exact rfl); refine evS ?_; (try simp only [e1, e1', e2']); refine hK1 _ ?_; clear hK1 K1) | (refine ow_skip rfl rfl ?_ (fun x hx => by cases hx <;> (rw [hsz]; decide)) ?_; (focus (intro hne; cases hne; done)); simp only [St.set]) | (refine callPre ?_; (first | refine callN_funS rfl (HB) ?_)) | (refine callPreL ?_; (first | refine callL_funS rfl (HB) ?_))))
        refine aw_condS rfl (fun hc => ?_) (fun hc => ?_)
        · refine walkS ?_
          (refine aw_ret ?_; (simp only [Fin, Tryz.results66]; refine finS ?_); exact ⟨_, _, .inl ⟨rfl, rfl⟩, List.nodup_nil, by rw [e1, e2]; rfl⟩)
        · (first | exact absurd trivial hc | exact absurd rfl hc | (cases hc; done) | omega | exact absurd hc (by decide) | (simp at hc; done))
  · have e1 : (n == m) = false := by simpa using hn
    have e1' : (n != m) = true := by simpa using hn
    refine calls_body Tryz.func66 rfl Tryz.call66 Tryz.ntmps66 (by simp) (by simp [ArgsOk]) (by simp [Rz.nkL, Rz.nk]) fun en hsz hks hk0 => ?_; simp only [St.init, frOf, Rz.addSL, Rz.addS, Rz.toAL, Rz.toA, Rz.nk, List.zipIdx_cons, List.zipIdx_nil, List.map_cons, List.map_nil, Nat.zero_add, Nat.reduceAdd]
    (repeat (first | refine aw_seq ?_ | refine aw_region ?_ | refine aw_block ?_ | (refine aw_exit ?_; (try simp (decide := true) only [reduceIte])) | (refine aw_skip ?_; try dsimp only) | (refine aw_any (by kernel_rfl) (by kernel_rfl) (by simp only [hsz]; kernel_rfl) ?_) | (refine ow_nil ?_; try dsimp only) | (refine ol_go ?_ (fun K1 hK1 => ?_); (first | exact trivial | exact rfl); refine evS ?_; (try simp only [e1, e1']); refine hK1 _ _ ?_; clear hK1 K1) | (refine ol_skip rfl rfl ?_ ?_; (focus (intro hne; cases hne; done)); simp only [St.set]) | (refine ol_nil ⟨by kernel_rfl, ?_⟩; try dsimp only) | (refine ow_go ?_ (fun x hx => by cases hx <;> (rw [hsz]; decide)) (fun K1 hK1 => ?_); (first | exact trivial | exact rfl); refine evS ?_; (try simp only [e1, e1']); refine hK1 _ ?_; clear hK1 K1) | (refine ow_skip rfl rfl ?_ (fun x hx => by cases hx <;> (rw [hsz]; decide)) ?_; (focus (intro hne; cases hne; done)); simp only [St.set])))
    refine aw_condS rfl (fun hc => ?_) (fun hc => ?_)
    · refine walkS ?_
      (refine aw_ret ?_; (simp only [Fin, Tryz.results66]; refine finS ?_); exact ⟨_, _, .inl ⟨rfl, rfl⟩, List.nodup_nil, by rw [e1]; rfl⟩)
    · (first | exact absurd trivial hc | exact absurd rfl hc | (cases hc; done) | omega | exact absurd hc (by decide) | (simp at hc; done))
theorem eqValS_all : ∀ N : Nat, ∀ {v w : V}, SizeOf.sizeOf v ≤ N → VB 1048576 v → VB 1048576 w → AC Tryz.prog 66 [.d (encV v), .d (encV w)] none (fun r' _ => r' = .d (bD (eqV v w)))
  | 0, .mk n bs vs, w, h, _, _ => by simp only [V.mk.sizeOf_spec] at h; omega
  | N + 1, .mk n bs vs, .mk m cs ws, h, hv, hw => eqValS_step hv hw fun v hvm w hwm => eqValS_all N (by have := item_lt (n := n) (bs := bs) hvm; omega) (by unfold VB at hv; exact hv.2.2.el v hvm) (by unfold VB at hw; exact hw.2.2.el w hwm)
theorem eqValS_c {v w : V} (hv : VB 1048576 v) (hw : VB 1048576 w) : AC Tryz.prog 66 [.d (encV v), .d (encV w)] none (fun r' _ => r' = .d (bD (eqV v w))) := eqValS_all _ (Nat.le_refl _) hv hw

theorem bytes_beq (l m : List UInt8) : decide ((⟨l.toArray⟩ : ByteArray) = ⟨m.toArray⟩) = (l == m) := by
  rw [Bool.eq_iff_iff]
  simp only [decide_eq_true_eq, beq_iff_eq, ByteArray.mk.injEq]
  exact ⟨fun h => by simpa using congrArg Array.toList h, fun h => by rw [h]⟩
set_option maxRecDepth 100000 in
theorem bytesEqual_c (l m : List UInt8) : AC Tryz.prog 128 [.d (encB l), .d (encB m)] none (fun r' _ => r' = .d (bD (l == m))) := by
  refine calls_body Tryz.func128 rfl Tryz.call128 Tryz.ntmps128 (by simp) (by simp [ArgsOk]) (by simp [Rz.nkL, Rz.nk]) fun en hsz hks hk0 => ?_; simp only [St.init, frOf, Rz.addSL, Rz.addS, Rz.toAL, Rz.toA, Rz.nk, List.zipIdx_cons, List.zipIdx_nil, List.map_cons, List.map_nil, Nat.zero_add, Nat.reduceAdd]
  refine walkS ?_
  (refine aw_ret ?_; (simp only [Fin, Tryz.results128]; refine finS ?_); exact ⟨_, _, .inl ⟨rfl, rfl⟩, List.nodup_nil, by rw [← bytes_beq]⟩)
set_option maxRecDepth 100000 in
theorem eqBytesI_c {l m : List UInt8} (_ : l.length ≤ 1048576) (_ : m.length ≤ 1048576) : AC Tryz.prog 86 [.d (encB l), .d (encB m)] none (fun r' _ => r' = .d (bD (l == m))) := by
  refine calls_body Tryz.func86 rfl Tryz.call86 Tryz.ntmps86 (by simp) (by simp [ArgsOk]) (by simp [Rz.nkL, Rz.nk]) fun en hsz hks hk0 => ?_; simp only [St.init, frOf, Rz.addSL, Rz.addS, Rz.toAL, Rz.toA, Rz.nk, List.zipIdx_cons, List.zipIdx_nil, List.map_cons, List.map_nil, Nat.zero_add, Nat.reduceAdd]
  (repeat (first | refine walkS ?_ | (refine callPre ?_; (first | refine callN_funS rfl (bytesEqual_c l m) ?_)) | (refine callPreL ?_; (first | refine callL_funS rfl (bytesEqual_c l m) ?_))))
  (refine aw_ret ?_; (simp only [Fin, Tryz.results86]; refine finS ?_); exact ⟨_, _, .inl ⟨rfl, rfl⟩, List.nodup_nil, rfl⟩)

set_option maxRecDepth 100000 in
set_option maxHeartbeats 2000000 in
theorem eqValI_step {n m : Int} {bs cs : List UInt8} {vs ws : List V} (hv : VB 1048576 (.mk n bs vs)) (hw : VB 1048576 (.mk m cs ws)) (H : ∀ v ∈ vs, ∀ w ∈ ws, AC Tryz.prog 67 [.d (encV v), .d (encV w)] none (fun r' _ => r' = .d (bD (eqV v w)))) : AC Tryz.prog 67 [.d (encV (.mk n bs vs)), .d (encV (.mk m cs ws))] none (fun r' _ => r' = .d (bD (eqV (.mk n bs vs) (.mk m cs ws)))) := by
  unfold VB at hv hw
  obtain ⟨v1, v2, _⟩ := hv
  obtain ⟨w1, w2, _⟩ := hw
  have HB := eqBytesI_c v1 w1
  rw [eqVs_len, encV_mk, encV_mk, encVs_eq, encVs_eq]
  by_cases hn : n = m
  · have e1 : (n == m) = true := by simpa using hn
    have e1' : (n != m) = false := by simpa using hn
    cases hb : bs == cs with
    | false =>
      rw [hb] at HB
      refine calls_body Tryz.func67 rfl Tryz.call67 Tryz.ntmps67 (by simp) (by simp [ArgsOk]) (by simp [Rz.nkL, Rz.nk]) fun en hsz hks hk0 => ?_; simp only [St.init, frOf, Rz.addSL, Rz.addS, Rz.toAL, Rz.toA, Rz.nk, List.zipIdx_cons, List.zipIdx_nil, List.map_cons, List.map_nil, Nat.zero_add, Nat.reduceAdd]
      (repeat (first | refine aw_seq ?_ | refine aw_region ?_ | refine aw_block ?_ | (refine aw_exit ?_; (try simp (decide := true) only [reduceIte])) | (refine aw_skip ?_; try dsimp only) | (refine aw_any (by kernel_rfl) (by kernel_rfl) (by simp only [hsz]; kernel_rfl) ?_) | (refine ow_nil ?_; try dsimp only) | (refine ol_go ?_ (fun K1 hK1 => ?_); (first | exact trivial | exact rfl); refine evS ?_; (try simp only [e1, e1']); refine hK1 _ _ ?_; clear hK1 K1) | (refine ol_skip rfl rfl ?_ ?_; (focus (intro hne; cases hne; done)); simp only [St.set]) | (refine ol_nil ⟨by kernel_rfl, ?_⟩; try dsimp only) | (refine ow_go ?_ (fun x hx => by cases hx <;> (rw [hsz]; decide)) (fun K1 hK1 => ?_); (first | exact trivial | exact rfl); refine evS ?_; (try simp only [e1, e1']); refine hK1 _ ?_; clear hK1 K1) | (refine ow_skip rfl rfl ?_ (fun x hx => by cases hx <;> (rw [hsz]; decide)) ?_; (focus (intro hne; cases hne; done)); simp only [St.set]) | (refine callPre ?_; (first | refine callN_funS rfl (HB) ?_)) | (refine callPreL ?_; (first | refine callL_funS rfl (HB) ?_))))
      refine aw_condS rfl (fun hc => ?_) (fun hc => ?_)
      · refine walkS ?_
        (refine aw_ret ?_; (simp only [Fin, Tryz.results67]; refine finS ?_); exact ⟨_, _, .inl ⟨rfl, rfl⟩, List.nodup_nil, by rw [e1]; rfl⟩)
      · (first | exact absurd trivial hc | exact absurd rfl hc | (cases hc; done) | omega | exact absurd hc (by decide) | (simp at hc; done))
    | true =>
      rw [hb] at HB
      by_cases hl : vs.length = ws.length
      · have e2 : (vs.length == ws.length) = true := by simpa using hl
        have e2' : ((vs.length : Int) != ws.length) = false := by simp [hl]
        refine calls_body Tryz.func67 rfl Tryz.call67 Tryz.ntmps67 (by simp) (by simp [ArgsOk]) (by simp [Rz.nkL, Rz.nk]) fun en hsz hks hk0 => ?_; simp only [St.init, frOf, Rz.addSL, Rz.addS, Rz.toAL, Rz.toA, Rz.nk, List.zipIdx_cons, List.zipIdx_nil, List.map_cons, List.map_nil, Nat.zero_add, Nat.reduceAdd]
        (repeat (first | refine aw_seq ?_ | refine aw_region ?_ | refine aw_block ?_ | (refine aw_exit ?_; (try simp (decide := true) only [reduceIte])) | (refine aw_skip ?_; try dsimp only) | (refine aw_any (by kernel_rfl) (by kernel_rfl) (by simp only [hsz]; kernel_rfl) ?_) | (refine ow_nil ?_; try dsimp only) | (refine ol_go ?_ (fun K1 hK1 => ?_); (first | exact trivial | exact rfl); refine evS ?_; (try simp only [e1, e1', e2']); refine hK1 _ _ ?_; clear hK1 K1) | (refine ol_skip rfl rfl ?_ ?_; (focus (intro hne; cases hne; done)); simp only [St.set]) | (refine ol_nil ⟨by kernel_rfl, ?_⟩; try dsimp only) | (refine ow_go ?_ (fun x hx => by cases hx <;> (rw [hsz]; decide)) (fun K1 hK1 => ?_); (first | exact trivial | exact rfl); refine evS ?_; (try simp only [e1, e1', e2']); refine hK1 _ ?_; clear hK1 K1) | (refine ow_skip rfl rfl ?_ (fun x hx => by cases hx <;> (rw [hsz]; decide)) ?_; (focus (intro hne; cases hne; done)); simp only [St.set]) | (refine callPre ?_; (first | refine callN_funS rfl (HB) ?_)) | (refine callPreL ?_; (first | refine callL_funS rfl (HB) ?_))))
        refine aw_condS rfl (fun hc => ?_) (fun hc => ?_)
        · (first | exact absurd trivial hc | exact absurd rfl hc | (cases hc; done) | omega | exact absurd hc (by decide) | (simp at hc; done))
        refine walkS ?_
        refine aw_loopS [2, 3, 4, 30] (fun _ _ => []) (fun _ k => [(31, .d (iD (k : Nat)))]) [] (fun _ _ => []) [] (fun _ _ => []) (fun k => k ≤ vs.length ∧ eqVs vs ws = eqVs (vs.drop k) (ws.drop k)) (fun k => vs.length - k) (0) hks (fun _ => rfl) ⟨Nat.zero_le _, rfl⟩ wkS ?_; intro x hx; simp (decide := true) only [St.head, List.map_cons, List.map_nil, lk, rmv, List.cons_append, List.nil_append, List.append_nil, reduceIte, Nat.reduceAdd]
        obtain ⟨hx1, hx2⟩ := hx
        refine walkS ?_
        refine aw_condS rfl (fun hk => ?_) (fun hk => ?_)
        · rw [eqVs_step (by omega) (by omega)] at hx2
          have HV := H (vs[x]'(by omega)) (List.getElem_mem _) (ws[x]'(by omega)) (List.getElem_mem _)
          cases he : eqV (vs[x]'(by omega)) (ws[x]'(by omega)) with
          | false =>
            rw [he] at hx2 HV
            (repeat (first | refine walkS ?_ | (refine callPre ?_; (first | refine callN_funS rfl (HV) ?_)) | (refine callPreL ?_; (first | refine callL_funS rfl (HV) ?_))))
            refine aw_condS rfl (fun hc => ?_) (fun hc => ?_)
            · refine walkS ?_
              (refine aw_ret ?_; (simp only [Fin, Tryz.results67]; refine finS ?_); exact ⟨_, _, .inl ⟨rfl, rfl⟩, List.nodup_nil, by rw [e1, e2, hx2]; rfl⟩)
            · (first | exact absurd trivial hc | exact absurd rfl hc | (cases hc; done) | omega | exact absurd hc (by decide) | (simp at hc; done))
          | true =>
            rw [he] at hx2 HV
            (repeat (first | refine walkS ?_ | (refine callPre ?_; (first | refine callN_funS rfl (HV) ?_)) | (refine callPreL ?_; (first | refine callL_funS rfl (HV) ?_))))
            refine aw_condS rfl (fun hc => ?_) (fun hc => ?_)
            · (first | exact absurd trivial hc | exact absurd rfl hc | (cases hc; done) | omega | exact absurd hc (by decide) | (simp at hc; done))
            · refine walkS ?_
              refine ⟨x + 1, ⟨by omega, hx2⟩, by omega, ?_⟩
              exact wkS
        · rw [List.drop_eq_nil_of_le (by omega)] at hx2
          refine walkS ?_
          (refine aw_ret ?_; (simp only [Fin, Tryz.results67]; refine finS ?_); exact ⟨_, _, .inl ⟨rfl, rfl⟩, List.nodup_nil, by rw [e1, e2, hx2]; rfl⟩)
      · have e2 : (vs.length == ws.length) = false := by simpa using hl
        have e2' : ((vs.length : Int) != ws.length) = true := by simp; omega
        refine calls_body Tryz.func67 rfl Tryz.call67 Tryz.ntmps67 (by simp) (by simp [ArgsOk]) (by simp [Rz.nkL, Rz.nk]) fun en hsz hks hk0 => ?_; simp only [St.init, frOf, Rz.addSL, Rz.addS, Rz.toAL, Rz.toA, Rz.nk, List.zipIdx_cons, List.zipIdx_nil, List.map_cons, List.map_nil, Nat.zero_add, Nat.reduceAdd]
        (repeat (first | refine aw_seq ?_ | refine aw_region ?_ | refine aw_block ?_ | (refine aw_exit ?_; (try simp (decide := true) only [reduceIte])) | (refine aw_skip ?_; try dsimp only) | (refine aw_any (by kernel_rfl) (by kernel_rfl) (by simp only [hsz]; kernel_rfl) ?_) | (refine ow_nil ?_; try dsimp only) | (refine ol_go ?_ (fun K1 hK1 => ?_); (first | exact trivial | exact rfl); refine evS ?_; (try simp only [e1, e1', e2']); refine hK1 _ _ ?_; clear hK1 K1) | (refine ol_skip rfl rfl ?_ ?_; (focus (intro hne; cases hne; done)); simp only [St.set]) | (refine ol_nil ⟨by kernel_rfl, ?_⟩; try dsimp only) | (refine ow_go ?_ (fun x hx => by cases hx <;> (rw [hsz]; decide)) (fun K1 hK1 => ?_); (first | exact trivial | exact rfl); refine evS ?_; (try simp only [e1, e1', e2']); refine hK1 _ ?_; clear hK1 K1) | (refine ow_skip rfl rfl ?_ (fun x hx => by cases hx <;> (rw [hsz]; decide)) ?_; (focus (intro hne; cases hne; done)); simp only [St.set]) | (refine callPre ?_; (first | refine callN_funS rfl (HB) ?_)) | (refine callPreL ?_; (first | refine callL_funS rfl (HB) ?_))))
        refine aw_condS rfl (fun hc => ?_) (fun hc => ?_)
        · refine walkS ?_
          (refine aw_ret ?_; (simp only [Fin, Tryz.results67]; refine finS ?_); exact ⟨_, _, .inl ⟨rfl, rfl⟩, List.nodup_nil, by rw [e1, e2]; rfl⟩)
        · (first | exact absurd trivial hc | exact absurd rfl hc | (cases hc; done) | omega | exact absurd hc (by decide) | (simp at hc; done))
  · have e1 : (n == m) = false := by simpa using hn
    have e1' : (n != m) = true := by simpa using hn
    refine calls_body Tryz.func67 rfl Tryz.call67 Tryz.ntmps67 (by simp) (by simp [ArgsOk]) (by simp [Rz.nkL, Rz.nk]) fun en hsz hks hk0 => ?_; simp only [St.init, frOf, Rz.addSL, Rz.addS, Rz.toAL, Rz.toA, Rz.nk, List.zipIdx_cons, List.zipIdx_nil, List.map_cons, List.map_nil, Nat.zero_add, Nat.reduceAdd]
    (repeat (first | refine aw_seq ?_ | refine aw_region ?_ | refine aw_block ?_ | (refine aw_exit ?_; (try simp (decide := true) only [reduceIte])) | (refine aw_skip ?_; try dsimp only) | (refine aw_any (by kernel_rfl) (by kernel_rfl) (by simp only [hsz]; kernel_rfl) ?_) | (refine ow_nil ?_; try dsimp only) | (refine ol_go ?_ (fun K1 hK1 => ?_); (first | exact trivial | exact rfl); refine evS ?_; (try simp only [e1, e1']); refine hK1 _ _ ?_; clear hK1 K1) | (refine ol_skip rfl rfl ?_ ?_; (focus (intro hne; cases hne; done)); simp only [St.set]) | (refine ol_nil ⟨by kernel_rfl, ?_⟩; try dsimp only) | (refine ow_go ?_ (fun x hx => by cases hx <;> (rw [hsz]; decide)) (fun K1 hK1 => ?_); (first | exact trivial | exact rfl); refine evS ?_; (try simp only [e1, e1']); refine hK1 _ ?_; clear hK1 K1) | (refine ow_skip rfl rfl ?_ (fun x hx => by cases hx <;> (rw [hsz]; decide)) ?_; (focus (intro hne; cases hne; done)); simp only [St.set])))
    refine aw_condS rfl (fun hc => ?_) (fun hc => ?_)
    · refine walkS ?_
      (refine aw_ret ?_; (simp only [Fin, Tryz.results67]; refine finS ?_); exact ⟨_, _, .inl ⟨rfl, rfl⟩, List.nodup_nil, by rw [e1]; rfl⟩)
    · (first | exact absurd trivial hc | exact absurd rfl hc | (cases hc; done) | omega | exact absurd hc (by decide) | (simp at hc; done))
theorem eqValI_all : ∀ N : Nat, ∀ {v w : V}, SizeOf.sizeOf v ≤ N → VB 1048576 v → VB 1048576 w → AC Tryz.prog 67 [.d (encV v), .d (encV w)] none (fun r' _ => r' = .d (bD (eqV v w)))
  | 0, .mk n bs vs, w, h, _, _ => by simp only [V.mk.sizeOf_spec] at h; omega
  | N + 1, .mk n bs vs, .mk m cs ws, h, hv, hw => eqValI_step hv hw fun v hvm w hwm => eqValI_all N (by have := item_lt (n := n) (bs := bs) hvm; omega) (by unfold VB at hv; exact hv.2.2.el v hvm) (by unfold VB at hw; exact hw.2.2.el w hwm)
theorem eqValI_c {v w : V} (hv : VB 1048576 v) (hw : VB 1048576 w) : AC Tryz.prog 67 [.d (encV v), .d (encV w)] none (fun r' _ => r' = .d (bD (eqV v w))) := eqValI_all _ (Nat.le_refl _) hv hw
end Go.Proofs.YtoegmaebdihnaaaGreatDoor.Eng
