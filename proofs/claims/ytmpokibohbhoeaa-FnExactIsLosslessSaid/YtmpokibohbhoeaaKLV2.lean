/-
  The laws' helpers: the size of a value, equal values.
-/
import Derived.Test.YtmpokibohbhoeaaKLV1
set_option linter.unusedSimpArgs false
set_option linter.unusedVariables false
set_option linter.defProp false
set_option maxRecDepth 100000
set_option maxHeartbeats 4000000
namespace Go.Proofs.Ytmpokibohbhoeaa.Eng
open Go Go.RowKit

mutual
def lftV : Int → V → Int
  | x, .mk _ bs vs => if lft x bs.length < 0 then -1 else if lft x bs.length - vs.length < 0 then -1 else subV (lft x bs.length - vs.length) vs
def subV : Int → List V → Int
  | x, [] => x
  | x, v :: vs => if lftV x v < 0 then -1 else subV (lftV x v) vs
end
mutual
theorem lftV_le : ∀ {x : Int} {v : V}, 0 ≤ x → -1 ≤ lftV x v ∧ lftV x v ≤ x
  | x, .mk n bs vs, h => by
    unfold lftV
    have a1 := lft_le (x := x) (n := bs.length) h
    split
    · omega
    · split
      · omega
      · have := subV_le (x := lft x bs.length - vs.length) (vs := vs) (by omega)
        omega
theorem subV_le : ∀ {x : Int} {vs : List V}, 0 ≤ x → -1 ≤ subV x vs ∧ subV x vs ≤ x
  | x, [], h => by unfold subV; omega
  | x, v :: vs, h => by
    unfold subV
    have := lftV_le (v := v) h
    split
    · omega
    · have := subV_le (x := lftV x v) (vs := vs) (by omega)
      omega
end
mutual
theorem lftV_ge : ∀ {x : Int} {v : V}, 0 ≤ x → x ≤ 1048576 → 0 ≤ lftV x v → VB 1048576 v
  | x, .mk n bs vs, h, hx, k => by
    unfold lftV at k
    unfold VB
    have a1 := lft_le (x := x) (n := bs.length) h
    split at k
    · omega
    · rename_i h1
      have a2 := lft_ge (x := x) (n := bs.length) (by omega)
      split at k
      · omega
      · exact ⟨by omega, by omega, subV_ge (x := lft x bs.length - vs.length) (by omega) (by omega) k⟩
theorem subV_ge : ∀ {x : Int} {vs : List V}, 0 ≤ x → x ≤ 1048576 → 0 ≤ subV x vs → VBs 1048576 vs
  | x, [], _, _, _ => by unfold VBs; trivial
  | x, v :: vs, h, hx, k => by
    unfold subV at k
    unfold VBs
    have a1 := lftV_le (v := v) h
    split at k
    · omega
    · exact ⟨lftV_ge h hx (by omega), subV_ge (x := lftV x v) (by omega) (by omega) k⟩
end

private def tyF := And.intro (And.intro (And.intro (And.intro (And.intro tb22 te22) (And.intro te35 (And.intro te42 tf37_0))) (And.intro (And.intro tf37_1 tf37_2) (And.intro tf44_0 (And.intro tf44_1 tf44_2)))) (And.intro (And.intro (And.intro tk22 tk3) (And.intro tk35 (And.intro tk37 tk4))) (And.intro (And.intro tk42 (And.intro tk44 tk5)) (And.intro tp37 (And.intro tp44 tr22))))) (And.intro (And.intro (And.intro (And.intro tr3 tr35) (And.intro tr37 (And.intro tr4 tr42))) (And.intro (And.intro tr44 tr5) (And.intro tu22 (And.intro tu3 tu35)))) (And.intro (And.intro (And.intro tu4 tu42) (And.intro tu5 (And.intro tz22 tz3))) (And.intro (And.intro tz35 (And.intro tz37 tz4)) (And.intro tz42 (And.intro tz44 tz5)))))
theorem szValueS_of {l : List V} (hl : l.length ≤ 9223372036854775807) (H : ∀ v ∈ l, ∀ x : Int, 0 ≤ x ∧ x ≤ 1048576 → AC Try.prog 19 [.d (encV v), .d (iD x)] none (fun r' _ => r' = .d (iD (lftV x v)))) (x0 : Int) (hx0 : 0 ≤ x0 ∧ x0 ≤ 1048576) : AC Try.prog 63 [.d (encVL l), .d (iD x0)] none (fun r' _ => r' = .d (iD (if x0 - l.length < 0 then -1 else subV (x0 - l.length) l))) := by
  have hel := encVs_len l
  unfold encVL
  rw [encVs_eq]
  refine calls_body Try.func63 rfl Try.call63 Try.ntmps63 (by simp) (by simp [ArgsOk]) (by simp [Rz.nkL, Rz.nk]) fun en hsz hks hk0 => ?_; refine enS ?_
  refine walkS ?_
  refine aw_condS rfl (fun h0 => ?_) (fun h0 => ?_)
  · refine walkS ?_
    (refine aw_ret ?_; (simp only [Fin, Try.results63]; refine finS ?_); exact ⟨_, _, .inl ⟨rfl, rfl⟩, List.nodup_nil, by rw [if_pos h0]⟩)
  · refine walkS ?_
    refine aw_loopS [0, 4] (fun _ _ => []) (fun _ y => [(5, .d (iD (y.1 : Nat))), (1, .d (iD y.2))]) [] (fun _ _ => []) [] (fun _ _ => []) (fun y : Nat × Int => y.1 ≤ l.length ∧ (0 ≤ y.2 ∧ y.2 ≤ 1048576) ∧ subV (x0 - l.length) l = subV y.2 (l.drop y.1)) (fun y => l.length - y.1) ((0, x0 - l.length)) hks (fun _ => rfl) ⟨Nat.zero_le _, by simp only; omega, rfl⟩ wkS ?_; intro x hx; refine headS ?_
    obtain ⟨k, y⟩ := x
    simp only at hx ⊢
    obtain ⟨hx1, hx2, hx3⟩ := hx
    refine walkS ?_
    refine aw_condS rfl (fun hk => ?_) (fun hk => ?_)
    · have hd : l.drop k = l[k]'(by omega) :: l.drop (k + 1) := List.drop_eq_getElem_cons (by omega)
      have hrx := H (l[k]'(by omega)) (List.getElem_mem _) y hx2
      have hb := lftV_le (v := l[k]'(by omega)) hx2.1
      rw [hd, subV] at hx3
      (repeat (first | refine walkS ?_ | (refine callPre ?_; (first | refine callN_funS rfl (hrx) ?_)) | (refine callPreL ?_; (first | refine callL_funS rfl (hrx) ?_))))
      refine aw_condS rfl (fun hn => ?_) (fun hn => ?_)
      · rw [if_pos hn] at hx3
        refine walkS ?_
        (refine aw_ret ?_; (simp only [Fin, Try.results63]; refine finS ?_); exact ⟨_, _, .inl ⟨rfl, rfl⟩, List.nodup_nil, by rw [if_neg h0, hx3]⟩)
      · rw [if_neg hn] at hx3
        refine walkS ?_
        refine ⟨(k + 1, lftV y (l[k]'(by omega))), ⟨by simp only; omega, by simp only; omega, hx3⟩, by simp only; omega, ?_⟩
        exact wkS
    · rw [List.drop_eq_nil_of_le (by omega), subV] at hx3
      refine walkS ?_
      (refine aw_ret ?_; (simp only [Fin, Try.results63]; refine finS ?_); exact ⟨_, _, .inl ⟨rfl, rfl⟩, List.nodup_nil, by rw [if_neg h0, hx3]⟩)
theorem szValue_of {n : Int} {bs : List UInt8} {vs : List V} (hb : bs.length ≤ 9223372036854775807) (hv : vs.length ≤ 9223372036854775807) (H : ∀ v ∈ vs, ∀ x : Int, 0 ≤ x ∧ x ≤ 1048576 → AC Try.prog 19 [.d (encV v), .d (iD x)] none (fun r' _ => r' = .d (iD (lftV x v)))) (x : Int) (hx : 0 ≤ x ∧ x ≤ 1048576) : AC Try.prog 19 [.d (encV (.mk n bs vs)), .d (iD x)] none (fun r' _ => r' = .d (iD (lftV x (.mk n bs vs)))) := by
  have a1 := lft_le (x := x) (n := bs.length) hx.1
  have hl : lftV x (.mk n bs vs) = if lft x bs.length < 0 then -1 else if lft x bs.length - vs.length < 0 then -1 else subV (lft x bs.length - vs.length) vs := by rw [lftV]
  rw [encV_mk]
  refine calls_body Try.func19 rfl Try.call19 Try.ntmps19 (by simp) (by simp [ArgsOk]) (by simp [Rz.nkL, Rz.nk]) fun en hsz hks hk0 => ?_; refine enS ?_
  (repeat (first | refine walkS ?_ | (refine callPre ?_; (first | refine callN_funS rfl (szByteS_c hb x hx) ?_)) | (refine callPreL ?_; (first | refine callL_funS rfl (szByteS_c hb x hx) ?_))))
  refine aw_condS rfl (fun h1 => ?_) (fun h1 => ?_)
  · rw [if_pos h1] at hl
    refine walkS ?_
    (refine aw_ret ?_; (simp only [Fin, Try.results19]; refine finS ?_); exact ⟨_, _, .inl ⟨rfl, rfl⟩, List.nodup_nil, by rw [hl]⟩)
  · rw [if_neg h1] at hl
    have HS := szValueS_of hv H (lft x bs.length) ⟨by omega, by omega⟩
    rw [← hl] at HS
    (repeat (first | refine walkS ?_ | (refine callPre ?_; (first | refine callN_funS rfl (HS) ?_)) | (refine callPreL ?_; (first | refine callL_funS rfl (HS) ?_))))
    refine aw_condS rfl (fun h2 => ?_) (fun h2 => ?_)
    · have : lftV x (.mk n bs vs) = -1 := by
        have := lftV_le (v := .mk n bs vs) hx.1
        omega
      refine walkS ?_
      (refine aw_ret ?_; (simp only [Fin, Try.results19]; refine finS ?_); exact ⟨_, _, .inl ⟨rfl, rfl⟩, List.nodup_nil, by rw [this]⟩)
    · refine walkS ?_
      (refine aw_ret ?_; (simp only [Fin, Try.results19]; refine finS ?_); exact ⟨_, _, .inl ⟨rfl, rfl⟩, List.nodup_nil, rfl⟩)
theorem szValue_all : ∀ N : Nat, ∀ {v : V}, SizeOf.sizeOf v ≤ N → VB 9223372036854775807 v → ∀ x : Int, 0 ≤ x ∧ x ≤ 1048576 → AC Try.prog 19 [.d (encV v), .d (iD x)] none (fun r' _ => r' = .d (iD (lftV x v)))
  | 0, .mk n bs vs, h, _, _, _ => by simp only [V.mk.sizeOf_spec] at h; omega
  | N + 1, .mk n bs vs, h, hv, x, hx => by
    unfold VB at hv
    exact szValue_of hv.1 hv.2.1 (fun v hvm => szValue_all N (by have := List.sizeOf_lt_of_mem hvm; simp only [V.mk.sizeOf_spec] at h; omega) (hv.2.2.el v hvm)) x hx
theorem szValue_c {v : V} (hv : VB 9223372036854775807 v) (x : Int) (hx : 0 ≤ x ∧ x ≤ 1048576) : AC Try.prog 19 [.d (encV v), .d (iD x)] none (fun r' _ => r' = .d (iD (lftV x v))) := szValue_all _ (Nat.le_refl _) hv x hx

theorem eqValueS_of {l : List V} (hl : l.length ≤ 1048576) (H : ∀ v ∈ l, AC Try.prog 25 [.d (encV v), .d (encV v)] none (fun r' _ => r' = .d (bD true))) : AC Try.prog 67 [.d (encVL l), .d (encVL l)] none (fun r' _ => r' = .d (bD true)) := by
  have hel := encVs_len l
  unfold encVL
  rw [encVs_eq]
  refine calls_body Try.func67 rfl Try.call67 Try.ntmps67 (by simp) (by simp [ArgsOk]) (by simp [Rz.nkL, Rz.nk]) fun en hsz hks hk0 => ?_; refine enS ?_
  refine walkS ?_
  refine aw_condS rfl (fun hc => ?_) (fun hc => ?_)
  · exact absurd rfl hc
  · refine walkS ?_
    refine aw_loopS [0, 1, 4] (fun _ _ => []) (fun _ k => [(5, .d (iD (k : Nat)))]) [] (fun _ _ => []) [] (fun _ _ => []) (fun k : Nat => k ≤ l.length) (fun k => l.length - k) (0) hks (fun _ => rfl) (Nat.zero_le _) wkS ?_; intro x hx; refine headS ?_
    refine walkS ?_
    refine aw_condS rfl (fun hk => ?_) (fun hk => ?_)
    · have hrx := H (l[x]'(by omega)) (List.getElem_mem _)
      (repeat (first | refine walkS ?_ | (refine callPre ?_; (first | refine callN_funS rfl (hrx) ?_)) | (refine callPreL ?_; (first | refine callL_funS rfl (hrx) ?_))))
      refine aw_condS rfl (fun hne => ?_) (fun hne => ?_)
      · (first | exact absurd trivial hne | exact absurd rfl hne | (cases hne; done) | omega | exact absurd hne (by decide) | (simp at hne; done))
      · refine walkS ?_
        refine ⟨x + 1, by omega, by omega, ?_⟩
        exact wkS
    · refine walkS ?_
      (refine aw_ret ?_; (simp only [Fin, Try.results67]; refine finS ?_); exact ⟨_, _, .inl ⟨rfl, rfl⟩, List.nodup_nil, rfl⟩)
theorem eqValue_of {n : Int} {bs : List UInt8} {vs : List V} (hb : bs.length ≤ 1048576) (hv : vs.length ≤ 1048576) (H : ∀ v ∈ vs, AC Try.prog 25 [.d (encV v), .d (encV v)] none (fun r' _ => r' = .d (bD true))) : AC Try.prog 25 [.d (encV (.mk n bs vs)), .d (encV (.mk n bs vs))] none (fun r' _ => r' = .d (bD true)) := by
  have HS := eqValueS_of hv H
  rw [encV_mk]
  refine calls_body Try.func25 rfl Try.call25 Try.ntmps25 (by simp) (by simp [ArgsOk]) (by simp [Rz.nkL, Rz.nk]) fun en hsz hks hk0 => ?_; refine enS ?_
  refine walkS ?_
  refine aw_condS rfl (fun h0 => ?_) (fun h0 => ?_)
  · exact absurd rfl h0
  (repeat (first | refine walkS ?_ | (refine callPre ?_; (first | refine callN_funS rfl (eqByteS_c hb) ?_)) | (refine callPreL ?_; (first | refine callL_funS rfl (eqByteS_c hb) ?_))))
  refine aw_condS rfl (fun h1 => ?_) (fun h1 => ?_)
  · (first | exact absurd trivial h1 | exact absurd rfl h1 | (cases h1; done) | omega | exact absurd h1 (by decide) | (simp at h1; done))
  (repeat (first | refine walkS ?_ | (refine callPre ?_; (first | refine callN_funS rfl (HS) ?_)) | (refine callPreL ?_; (first | refine callL_funS rfl (HS) ?_))))
  refine aw_condS rfl (fun h2 => ?_) (fun h2 => ?_)
  · (first | exact absurd trivial h2 | exact absurd rfl h2 | (cases h2; done) | omega | exact absurd h2 (by decide) | (simp at h2; done))
  · refine walkS ?_
    (refine aw_ret ?_; (simp only [Fin, Try.results25]; refine finS ?_); exact ⟨_, _, .inl ⟨rfl, rfl⟩, List.nodup_nil, rfl⟩)
theorem eqValue_all : ∀ N : Nat, ∀ {v : V}, SizeOf.sizeOf v ≤ N → VB 1048576 v → AC Try.prog 25 [.d (encV v), .d (encV v)] none (fun r' _ => r' = .d (bD true))
  | 0, .mk n bs vs, h, _ => by simp only [V.mk.sizeOf_spec] at h; omega
  | N + 1, .mk n bs vs, h, hv => by
    unfold VB at hv
    exact eqValue_of hv.1 hv.2.1 fun v hvm => eqValue_all N (by have := List.sizeOf_lt_of_mem hvm; simp only [V.mk.sizeOf_spec] at h; omega) (hv.2.2.el v hvm)
theorem eqValue_c {v : V} (hv : VB 1048576 v) : AC Try.prog 25 [.d (encV v), .d (encV v)] none (fun r' _ => r' = .d (bD true)) := eqValue_all _ (Nat.le_refl _) hv
end Go.Proofs.Ytmpokibohbhoeaa.Eng
