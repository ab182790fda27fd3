/-
  Repairs: the reference's RepairLength.
-/
import Derived.Test.YtglacmgeoefcaaaGreatDoorKNR4
import Derived.Test.YtglacmgeoefcaaaGreatDoorKNR5
set_option linter.unusedSimpArgs false
set_option linter.unusedVariables false
set_option linter.defProp false
set_option maxRecDepth 100000
set_option maxHeartbeats 4000000
namespace Go.Proofs.YtglacmgeoefcaaaGreatDoor.Eng
open Go Go.RowKit

section
variable {M : Nat} {D : List RuleD} {b : List UInt8}
private def tyF := And.intro (And.intro (And.intro (And.intro (And.intro tb22 (And.intro te22 te24)) (And.intro (And.intro te94 te96) (And.intro tf111_0 tf111_1))) (And.intro (And.intro (And.intro tf111_2 tf111_3) (And.intro tf111_4 tf111_5)) (And.intro (And.intro tf111_6 tf111_7) (And.intro tf26_0 tf51_0)))) (And.intro (And.intro (And.intro (And.intro tf51_1 tf51_2) (And.intro tk111 tk22)) (And.intro (And.intro tk24 tk26) (And.intro tk3 tk4))) (And.intro (And.intro (And.intro tk5 tk51) (And.intro tk9 tk94)) (And.intro (And.intro tk96 tp111) (And.intro tp26 tp51))))) (And.intro (And.intro (And.intro (And.intro tq51 (And.intro tr111 tr22)) (And.intro (And.intro tr24 tr26) (And.intro tr3 tr4))) (And.intro (And.intro (And.intro tr5 tr51) (And.intro tr9 tr94)) (And.intro (And.intro tr96 tu22) (And.intro tu24 tu3)))) (And.intro (And.intro (And.intro (And.intro tu4 tu5) (And.intro tu9 tu94)) (And.intro (And.intro tu96 tz111) (And.intro tz22 tz24))) (And.intro (And.intro (And.intro tz26 tz3) (And.intro tz4 tz5)) (And.intro (And.intro tz51 tz9) (And.intro tz94 tz96)))))
theorem repLS_big (hb : b.length ≤ 1048576) (hl : 40 < b.length) : AC Tryz.prog 36 [.d (encD D), .d (encB b)] none (fun r' _ => r' = repZ (b, (0, 0, 0), false)) := by
  have e1 : decide ((40 : Int) < (b.length : Int)) = true := by simp; omega
  refine calls_body Tryz.func36 rfl Tryz.call36 Tryz.ntmps36 (by simp) (by simp [ArgsOk]) (by simp [Rz.nkL, Rz.nk]) fun en hsz hks hk0 => ?_; refine enS ?_
  (repeat (first | refine ctlS ?_ | (refine ol_go ?_ (fun K1 hK1 => ?_); (first | exact trivial | exact rfl); refine evS ?_; (try simp only [e1]); refine hK1 _ _ ?_; clear hK1 K1) | (refine ow_go ?_ (fun x hx => by cases hx <;> (rw [hsz]; decide)) (fun K1 hK1 => ?_); (first | exact trivial | exact rfl); refine evS ?_; (try simp only [e1]); refine hK1 _ ?_; clear hK1 K1) | refine skipS ?_ | refine aw_condT rfl ?_ | refine aw_condF rfl ?_))
  (refine aw_ret ?_; (simp only [Fin, Tryz.results36]; refine finS ?_); refine ⟨_, [], .inr (.inl ⟨.tup [encB b, mutE 0 0 0, bD false], rfl, rfl, ?_⟩), List.nodup_nil, rfl⟩; exact wkDS)
theorem repLS_file (hD : DB M D) (hM : M ≤ 1048576) (hl : b.length ≤ 40) (hf : fileP D b = true) : AC Tryz.prog 36 [.d (encD D), .d (encB b)] none (fun r' _ => r' = repZ (b, (0, 0, 0), true)) := by
  have HF := isFileS_c (b := b) hD hM (by omega)
  rw [hf] at HF
  have e1 : decide ((40 : Int) < (b.length : Int)) = false := by simp; omega
  refine calls_body Tryz.func36 rfl Tryz.call36 Tryz.ntmps36 (by simp) (by simp [ArgsOk]) (by simp [Rz.nkL, Rz.nk]) fun en hsz hks hk0 => ?_; refine enS ?_
  (repeat (first | refine ctlS ?_ | (refine ol_go ?_ (fun K1 hK1 => ?_); (first | exact trivial | exact rfl); refine evS ?_; (try simp only [e1]); refine hK1 _ _ ?_; clear hK1 K1) | (refine ow_go ?_ (fun x hx => by cases hx <;> (rw [hsz]; decide)) (fun K1 hK1 => ?_); (first | exact trivial | exact rfl); refine evS ?_; (try simp only [e1]); refine hK1 _ ?_; clear hK1 K1) | refine skipS ?_ | (refine callPre ?_; (first | refine callN_funS rfl (HF) ?_)) | (refine callPreL ?_; (first | refine callL_funS rfl (HF) ?_)) | refine aw_condT rfl ?_ | refine aw_condF rfl ?_))
  (refine aw_ret ?_; (simp only [Fin, Tryz.results36]; refine finS ?_); refine ⟨_, [], .inr (.inl ⟨.tup [encB b, mutE 0 0 0, bD true], rfl, rfl, ?_⟩), List.nodup_nil, rfl⟩; exact wkDS)
theorem repLS_small (hD : DB M D) (hM : M ≤ 1048576) (hl : b.length ≤ 40) (hf : fileP D b = false) : AC Tryz.prog 36 [.d (encD D), .d (encB b)] none (fun r' _ => r' = repZ (if (tryX (fileP D) b 3 b.length 1).2.2 = true then tryX (fileP D) b 3 b.length 1 else tryX (fileP D) b 2 (b.length + 1) 256)) := by
  have HF := isFileS_c (b := b) hD hM (by omega)
  rw [hf] at HF
  have e1 : decide ((40 : Int) < (b.length : Int)) = false := by simp; omega
  refine calls_body Tryz.func36 rfl Tryz.call36 Tryz.ntmps36 (by simp) (by simp [ArgsOk]) (by simp [Rz.nkL, Rz.nk]) fun en hsz hks hk0 => ?_; refine enS ?_
  (repeat (first | refine ctlS ?_ | (refine ol_go ?_ (fun K1 hK1 => ?_); (first | exact trivial | exact rfl); refine evS ?_; (try simp only [e1]); refine hK1 _ _ ?_; clear hK1 K1) | (refine ow_go ?_ (fun x hx => by cases hx <;> (rw [hsz]; decide)) (fun K1 hK1 => ?_); (first | exact trivial | exact rfl); refine evS ?_; (try simp only [e1]); refine hK1 _ ?_; clear hK1 K1) | refine skipS ?_ | (refine callPre ?_; (first | refine callN_funS rfl (HF) ?_)) | (refine callPreL ?_; (first | refine callL_funS rfl (HF) ?_)) | refine aw_condT rfl ?_ | refine aw_condF rfl ?_))
  refine aw_loopS [1, 2, 4, 5, 6, 7] (fun _ _ => []) (fun _ z => [(8, .d (iD (z : Nat)))]) [] (fun _ _ => []) [] (fun _ _ => []) (fun z : Nat => z ≤ b.length ∧ ∀ i j : Nat, i < z → j < 1 → ((mutR b 3 i j).2 && fileP D (mutR b 3 i j).1) = false) (fun z => b.length - z) (0) hks (fun _ => rfl) ⟨Nat.zero_le _, fun i j h => by omega⟩ wkS ?_; intro x hx; refine headS ?_
  revert hx
  revert x
  intro i hi0
  obtain ⟨hi1, hi2⟩ := hi0
  refine walkS ?_
  refine aw_condS rfl (fun hc => ?_) (fun hc => ?_)
  · have hi : i < b.length := by omega
    have m3 := mutR_3 hi
    have z0 : (((0 : Nat) : Int)) = 0 := rfl
    have HA := applyS_3 (b := b) (by omega) hi
    have hcl := cutB_len (b := b) (new := []) (a := i) (n := 1) (by omega)
    simp only [List.length_nil] at hcl
    have HG := isFileS_c (b := cutB b i 1 []) hD hM (by omega)
    cases hg : fileP D (cutB b i 1 [])
    · rw [hg] at HG
      (repeat (first | refine walkS ?_ | (refine callPre ?_; (first | refine callN_funS rfl (HA) ?_ | refine callN_funS rfl (HG) ?_)) | (refine callPreL ?_; (first | refine callL_funS rfl (HA) ?_ | refine callL_funS rfl (HG) ?_)) | refine aw_condT rfl ?_ | refine aw_condF rfl ?_))
      refine ⟨i + 1, ⟨by omega, fun i' j h1 h2 => ?_⟩, by omega, ?_⟩
      · by_cases e : i' = i
        · subst e
          obtain rfl : j = 0 := by omega
          rw [z0, m3, hg]; rfl
        · exact hi2 i' j (by omega) h2
      · exact wkS
    · rw [hg] at HG
      (repeat (first | refine walkS ?_ | (refine callPre ?_; (first | refine callN_funS rfl (HA) ?_ | refine callN_funS rfl (HG) ?_)) | (refine callPreL ?_; (first | refine callL_funS rfl (HA) ?_ | refine callL_funS rfl (HG) ?_)) | refine aw_condT rfl ?_ | refine aw_condF rfl ?_))
      (refine aw_ret ?_; (simp only [Fin, Tryz.results36]; refine finS ?_); exact ⟨_, _, .inl ⟨rfl, rfl⟩, List.nodup_nil, by rw [tryX_hit (kind := 3) hi (k := 0) (by omega) (by rw [z0, m3, hg]; rfl) (fun j hj => by omega) hi2, if_pos rfl, z0, m3]⟩)
  · obtain rfl : i = b.length := by omega
    rw [tryX_none hi2, if_neg (by simp)]
    (repeat (first | refine walkS ?_ | refine aw_condT rfl ?_ | refine aw_condF rfl ?_))
    refine aw_loopS [1, 2, 4, 5, 6, 7] (fun _ _ => []) (fun _ z => [(12, .d (iD (z : Nat)))]) [] (fun _ _ => []) [] (fun _ _ => []) (fun z : Nat => z ≤ b.length + 1 ∧ ∀ i j : Nat, i < z → j < 256 → ((mutR b 2 i j).2 && fileP D (mutR b 2 i j).1) = false) (fun z => b.length + 1 - z) (0) hks (fun _ => rfl) ⟨Nat.zero_le _, fun i j h => by omega⟩ wkS ?_; intro x hx; refine headS ?_
    revert hx
    revert x
    intro i hi0
    obtain ⟨hj1, hj2⟩ := hi0
    refine walkS ?_
    refine aw_condS rfl (fun hd => ?_) (fun hd => ?_)
    · have hi : i ≤ b.length := by omega
      (repeat (first | refine walkS ?_ | refine aw_condT rfl ?_ | refine aw_condF rfl ?_))
      refine aw_loopS [2, 4, 5, 6, 7, 12] (fun _ _ => []) (fun _ z => [(13, .d (iD (z : Nat))), (1, .d (encB b))]) [] (fun _ _ => []) [] (fun _ _ => []) (fun z : Nat => z ≤ 256 ∧ ∀ j : Nat, j < z → ((mutR b 2 i j).2 && fileP D (mutR b 2 i j).1) = false) (fun z => 256 - z) (0) hks (fun _ => rfl) ⟨Nat.zero_le _, fun j h => by omega⟩ wkS ?_; intro x hx; refine headS ?_
      revert hx
      revert x
      intro k hk0
      obtain ⟨hk1, hk2⟩ := hk0
      refine walkS ?_
      refine aw_condS rfl (fun he => ?_) (fun he => ?_)
      · have hk : k < 256 := by omega
        have m2 := mutR_2 (b := b) (c := k) hi (by omega)
        have HA := applyS_2 (b := b) (c := k) (by omega) hi (by omega)
        have hcl := cutB_len (b := b) (new := [UInt8.ofNat k]) (a := i) (n := 0) (by omega)
        simp only [List.length_singleton] at hcl
        have HG := isFileS_c (b := cutB b i 0 [UInt8.ofNat k]) hD hM (by omega)
        cases hg : fileP D (cutB b i 0 [UInt8.ofNat k])
        · rw [hg] at HG
          (repeat (first | refine walkS ?_ | (refine callPre ?_; (first | refine callN_funS rfl (HA) ?_ | refine callN_funS rfl (HG) ?_)) | (refine callPreL ?_; (first | refine callL_funS rfl (HA) ?_ | refine callL_funS rfl (HG) ?_)) | refine aw_condT rfl ?_ | refine aw_condF rfl ?_))
          refine ⟨k + 1, ⟨by omega, fun j h1 => ?_⟩, by omega, ?_⟩
          · by_cases e : j = k
            · subst e
              rw [m2, hg]; rfl
            · exact hk2 j (by omega)
          · exact wkS
        · rw [hg] at HG
          (repeat (first | refine walkS ?_ | (refine callPre ?_; (first | refine callN_funS rfl (HA) ?_ | refine callN_funS rfl (HG) ?_)) | (refine callPreL ?_; (first | refine callL_funS rfl (HA) ?_ | refine callL_funS rfl (HG) ?_)) | refine aw_condT rfl ?_ | refine aw_condF rfl ?_))
          (refine aw_ret ?_; (simp only [Fin, Tryz.results36]; refine finS ?_); exact ⟨_, _, .inl ⟨rfl, rfl⟩, List.nodup_nil, by rw [tryX_hit (kind := 2) (show i < b.length + 1 by omega) hk (by rw [m2, hg]; rfl) hk2 hj2, m2]⟩)
      · obtain rfl : k = 256 := by omega
        (repeat (first | refine walkS ?_ | refine aw_condT rfl ?_ | refine aw_condF rfl ?_))
        refine ⟨i + 1, ⟨by omega, fun i' j h1 h2 => ?_⟩, by omega, ?_⟩
        · by_cases e : i' = i
          · subst e; exact hk2 j h2
          · exact hj2 i' j (by omega) h2
        · exact wkS
    · obtain rfl : i = b.length + 1 := by omega
      rw [tryX_none hj2]
      (repeat (first | refine walkS ?_ | refine aw_condT rfl ?_ | refine aw_condF rfl ?_))
      (refine aw_ret ?_; (simp only [Fin, Tryz.results36]; refine finS ?_); refine ⟨_, [], .inr (.inl ⟨.tup [encB b, mutE 0 0 0, bD false], rfl, rfl, ?_⟩), List.nodup_nil, rfl⟩; exact wkDS)
theorem repLS_c (hD : DB M D) (hM : M ≤ 1048576) (hb : b.length ≤ 1048576) : AC Tryz.prog 36 [.d (encD D), .d (encB b)] none (fun r' _ => r' = repZ (repL (fileP D) b)) := by
  unfold repL
  by_cases hl : 40 < b.length
  · rw [if_pos hl]; exact repLS_big hb hl
  · rw [if_neg hl]
    cases hf : fileP D b
    · rw [if_neg (by decide)]; exact repLS_small hD hM (by omega) hf
    · rw [if_pos rfl]; exact repLS_file hD hM (by omega) hf
end
end Go.Proofs.YtglacmgeoefcaaaGreatDoor.Eng
