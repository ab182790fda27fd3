/-
 Counting what is applied: files; the longest beginning: the program's side (for seats without the reference's CountApplications).

 The bound of applications: the program's side.

 The laws' limit of size.
-/
import Derived.Test.YtodkkldopciagaaKN18
import Derived.Test.YtodkkldopciagaaKPure10
import Derived.Test.YtodkkldopciagaaKPD
import Derived.Test.YtodkkldopciagaaKN9
set_option linter.unusedSimpArgs false
set_option linter.unusedVariables false
set_option linter.defProp false
set_option maxRecDepth 100000
set_option maxHeartbeats 4000000
namespace Go.Proofs.Ytodkkldopciagaa.Eng
open Go Go.RowKit

noncomputable def cntF (D : List RuleD) (b : List UInt8) : Int := if vDesc D = true ∧ b.length ≤ 400 then IntKind.i64.wrap (cnt D b D.length (D.length - 1) 0) else 0
theorem vDesc_spec {D : List RuleD} (h : vDesc D = true) : descP D ∧ 1 ≤ D.length := by
 have h1 := descP_of h
 exact ⟨h1, h1.1.1⟩

section
variable {M : Nat} {D : List RuleD} {b : List UInt8}
private def tyF := And.intro (And.intro (And.intro (And.intro (And.intro (And.intro tb22 te22) (And.intro te24 te64)) (And.intro (And.intro te65 tf26_0) (And.intro tf67_0 tf67_1))) (And.intro (And.intro (And.intro tf67_2 tf67_3) (And.intro tf67_4 tf67_5)) (And.intro (And.intro tf67_6 tf67_7) (And.intro tf70_0 tf70_1)))) (And.intro (And.intro (And.intro (And.intro tf70_2 tk22) (And.intro tk24 tk26)) (And.intro (And.intro tk3 tk4) (And.intro tk5 tk64))) (And.intro (And.intro (And.intro tk65 tk67) (And.intro tk68 tk70)) (And.intro (And.intro tk9 tp26) (And.intro tp67 tp70))))) (And.intro (And.intro (And.intro (And.intro (And.intro tr22 tr24) (And.intro tr26 tr3)) (And.intro (And.intro tr4 tr5) (And.intro tr64 tr65))) (And.intro (And.intro (And.intro tr67 tr68) (And.intro tr70 tr9)) (And.intro (And.intro tu22 tu24) (And.intro tu3 tu4)))) (And.intro (And.intro (And.intro (And.intro tu5 tu64) (And.intro tu65 tu68)) (And.intro (And.intro tu9 tz22) (And.intro tz24 tz26))) (And.intro (And.intro (And.intro tz3 tz4) (And.intro tz5 tz64)) (And.intro (And.intro tz65 tz67) (And.intro tz68 (And.intro tz70 tz9))))))
theorem countI_c (hD : DB M D) (hM : M ≤ 1048576) (hb : b.length ≤ 1048576) : AC Try.prog 11 [.d (encD D), .d (encB b)] none (fun r' _ => r' = .d (iD (cntF D b))) := by
 by_cases hv : vDesc D = true
 ·by_cases hl : 400 < b.length
  ·have e1 : decide ((400 : Int) < (b.length : Int)) = true := by simp; omega
   refine calls_body Try.func11 rfl Try.call11 Try.ntmps11 (by simp) (by simp [ArgsOk]) (by simp [Rz.nkL, Rz.nk]) fun en hsz hks hk0 => ?_; refine enS ?_
   (repeat (first | refine ctlS ?_ | (refine ol_go ?_ (fun K1 hK1 => ?_); exact trS; refine evS ?_; (try simp only [e1]); refine hK1 _ _ ?_; clear hK1 K1) | (refine ow_go ?_ dsS (fun K1 hK1 => ?_); exact trS; refine evS ?_; (try simp only [e1]); refine hK1 _ ?_; clear hK1 K1) | refine skipS ?_ | (refine callPre ?_; (first | refine callN_funS rfl ((validI_c hD hM).eqv (r1 := .d (bD true)) (by rw [hv])) ?_)) | (refine callPreL ?_; (first | refine callL_funS rfl ((validI_c hD hM).eqv (r1 := .d (bD true)) (by rw [hv])) ?_))))
   refine aw_condS rfl (fun hc => ?_) (fun hc => ?_)
   ·refine walkS ?_
    (refine aw_ret ?_; (simp only [Fin, Try.results11]; refine finS ?_); exact ⟨_, _, .inl ⟨rfl, rfl⟩, List.nodup_nil, by rw [cntF, if_neg (by omega)]⟩)
   ·(first | exact absurd trivial hc | exact absurd rfl hc | (cases hc; done) | omega | exact absurd hc (by decide) | (simp at hc; done))
  ·have e1 : decide ((400 : Int) < (b.length : Int)) = false := by simp; omega
   obtain ⟨v1, v2⟩ := vDesc_spec hv
   have HV := value_all hD hM hb v1 D.length (D.length - 1) 0 0 (by omega) (by omega) (by omega)
   rw [show ((D.length - 1 : Nat) : Int) = (D.length : Int) - 1 by omega] at HV
   simp only [chk, wrap0] at HV
   refine calls_body Try.func11 rfl Try.call11 Try.ntmps11 (by simp) (by simp [ArgsOk]) (by simp [Rz.nkL, Rz.nk]) fun en hsz hks hk0 => ?_; refine enS ?_
   (repeat (first | refine ctlS ?_ | (refine ol_go ?_ (fun K1 hK1 => ?_); exact trS; refine evS ?_; (try simp only [e1]); refine hK1 _ _ ?_; clear hK1 K1) | (refine ow_go ?_ dsS (fun K1 hK1 => ?_); exact trS; refine evS ?_; (try simp only [e1]); refine hK1 _ ?_; clear hK1 K1) | refine skipS ?_ | (refine callPre ?_; (first | refine callN_funS rfl ((validI_c hD hM).eqv (r1 := .d (bD true)) (by rw [hv])) ?_)) | (refine callPreL ?_; (first | refine callL_funS rfl ((validI_c hD hM).eqv (r1 := .d (bD true)) (by rw [hv])) ?_))))
   refine aw_condS rfl (fun hc => ?_) (fun hc => ?_)
   ·(first | exact absurd trivial hc | exact absurd rfl hc | (cases hc; done) | omega | exact absurd hc (by decide) | (simp at hc; done))
   ·(repeat (first | refine walkS ?_ | (refine ol_call1r (k := 48) ?_ rfl (HV) rfl rfl ⟨0, List.mem_cons_self⟩ ?_; exact trS; refine stS1 ?_) | (refine ow_call1d (k := 48) ?_ dsS rfl (HV) rfl rfl ?_; exact trS; refine stS0 ?_) | (refine ol_call1d (k := 48) ?_ rfl (HV) rfl rfl ⟨0, List.mem_cons_self⟩ ?_; exact trS; refine stS0 ?_) | (refine callPre ?_; (first | refine callN_funS rfl (rootI_c hD hM) ?_)) | (refine callPreL ?_; (first | refine callL_funS rfl (rootI_c hD hM) ?_))))
    (refine aw_ret ?_; (simp only [Fin, Try.results11]; refine finS ?_); exact ⟨_, _, .inl ⟨rfl, rfl⟩, List.nodup_nil, by rw [cntF, if_pos ⟨hv, by omega⟩]; simp⟩)
 ·have hv' : vDesc D = false := by simpa using hv
  refine calls_body Try.func11 rfl Try.call11 Try.ntmps11 (by simp) (by simp [ArgsOk]) (by simp [Rz.nkL, Rz.nk]) fun en hsz hks hk0 => ?_; refine enS ?_
  (repeat (first | refine walkS ?_ | (refine callPre ?_; (first | refine callN_funS rfl ((validI_c hD hM).eqv (r1 := .d (bD false)) (by rw [hv'])) ?_)) | (refine callPreL ?_; (first | refine callL_funS rfl ((validI_c hD hM).eqv (r1 := .d (bD false)) (by rw [hv'])) ?_))))
  refine aw_condS rfl (fun hc => ?_) (fun hc => ?_)
  ·refine walkS ?_
   (refine aw_ret ?_; (simp only [Fin, Try.results11]; refine finS ?_); exact ⟨_, _, .inl ⟨rfl, rfl⟩, List.nodup_nil, by rw [cntF, if_neg (fun h => hv h.1)]⟩)
  ·(first | exact absurd trivial hc | exact absurd rfl hc | (cases hc; done) | omega | exact absurd hc (by decide) | (simp at hc; done))

theorem validP_long {D : List RuleD} {b : List UInt8} (h : 400 < b.length) : validP D b = false := by
 have e : readV D b ((D.length : Int) - 1) 0 = (V0, 0, 8) := if_neg fun h' => by omega
 unfold validP readF
 rw [e]
 simp
theorem longP_cut {D : List RuleD} {b : List UInt8} : ∀ n : Nat, n ≤ b.length → 400 ≤ n → longP D b n = longP D b 400
 | 0, _, h => by omega
 | n + 1, h1, h2 => by
  by_cases hn : n + 1 = 400
  ·rw [hn]
  ·rw [longP, if_neg (by rw [validP_long (by simp; omega)]; simp)]
   exact longP_cut n (by omega) (by omega)
theorem longP_min (D : List RuleD) (b : List UInt8) : longP D b b.length = longP D b (minF b.length 400).toNat := by
 unfold minF
 split
 ·rw [longP_cut b.length (Nat.le_refl _) (by omega)]; rfl
 ·simp
theorem longPI_c (hD : DB M D) (hM : M ≤ 1048576) (hb : b.length ≤ 1048576) : AC Try.prog 28 [.d (encD D), .d (encB b)] none (fun r' _ => r' = .d (iD (longP D b b.length))) := by
 have hm : 0 ≤ minF b.length 400 ∧ minF b.length 400 ≤ b.length := by unfold minF; split <;> omega
 have hlp := longP_min D b
 generalize hmm : minF b.length 400 = m at hm hlp
 refine calls_body Try.func28 rfl Try.call28 Try.ntmps28 (by simp) (by simp [ArgsOk]) (by simp [Rz.nkL, Rz.nk]) fun en hsz hks hk0 => ?_; refine enS ?_
 (repeat (first | refine walkS ?_ | (refine callPre ?_; (first | refine callN_funS rfl ((minI_c (b.length : Int) 400).eqv (r1 := .d (iD m)) (by rw [hmm])) ?_)) | (refine callPreL ?_; (first | refine callL_funS rfl ((minI_c (b.length : Int) 400).eqv (r1 := .d (iD m)) (by rw [hmm])) ?_))))
 refine aw_loopS [1, 2, 4] (fun _ _ => []) (fun _ k => [(5, .d (iD (k : Int)))]) [] (fun _ _ => []) [] (fun _ _ => []) (fun k : Int => -1 ≤ k ∧ k ≤ b.length ∧ ((k = -1 ∧ longP D b b.length = -1) ∨ (0 ≤ k ∧ longP D b b.length = longP D b k.toNat))) (fun k => (k + 1).toNat) (m) hks (fun _ => rfl) ⟨by omega, by omega, .inr ⟨by omega, hlp⟩⟩ wkS ?_; intro x hx; refine headS ?_
 obtain ⟨hx1, hx2, hx3⟩ := hx
 refine walkS ?_
 refine aw_condS rfl (fun hk => ?_) (fun hk => ?_)
 ·have hx4 : longP D b b.length = longP D b x.toNat := by
   rcases hx3 with h | h
   ·omega
   ·exact h.2
  have HV := validPI_c (b := List.take (x.toNat - 0) (List.drop 0 b)) hD hM (by simp; omega)
  rw [List.drop_zero, Nat.sub_zero] at HV
  cases hv : validP D (List.take x.toNat b) with
  | true =>
   (repeat (first | refine ctlS ?_ | (refine ol_go ?_ (fun K1 hK1 => ?_); exact trS; refine evS ?_; (try simp only [List.drop_zero, Nat.sub_zero]); refine hK1 _ _ ?_; clear hK1 K1) | (refine ow_go ?_ dsS (fun K1 hK1 => ?_); exact trS; refine evS ?_; (try simp only [List.drop_zero, Nat.sub_zero]); refine hK1 _ ?_; clear hK1 K1) | refine skipS ?_ | (refine callPre ?_; (first | refine callN_funS rfl (HV.eqv (r1 := .d (bD true)) (by rw [hv])) ?_)) | (refine callPreL ?_; (first | refine callL_funS rfl (HV.eqv (r1 := .d (bD true)) (by rw [hv])) ?_))))
   refine aw_condS rfl (fun hc => ?_) (fun hc => ?_)
   ·refine walkS ?_
    (refine aw_ret ?_; (simp only [Fin, Try.results28]; refine finS ?_); exact ⟨_, _, .inl ⟨rfl, rfl⟩, List.nodup_nil, by rw [hx4, longP_hit hv, Int.toNat_of_nonneg hk]⟩)
   ·cases hc
  | false =>
   have hm := longP_miss hv
   (repeat (first | refine ctlS ?_ | (refine ol_go ?_ (fun K1 hK1 => ?_); exact trS; refine evS ?_; (try simp only [List.drop_zero, Nat.sub_zero]); refine hK1 _ _ ?_; clear hK1 K1) | (refine ow_go ?_ dsS (fun K1 hK1 => ?_); exact trS; refine evS ?_; (try simp only [List.drop_zero, Nat.sub_zero]); refine hK1 _ ?_; clear hK1 K1) | refine skipS ?_ | (refine callPre ?_; (first | refine callN_funS rfl (HV.eqv (r1 := .d (bD false)) (by rw [hv])) ?_)) | (refine callPreL ?_; (first | refine callL_funS rfl (HV.eqv (r1 := .d (bD false)) (by rw [hv])) ?_))))
   refine aw_condS rfl (fun hc => ?_) (fun hc => ?_)
   ·cases hc
   ·refine walkS ?_
    refine ⟨x - 1, ⟨by omega, by omega, ?_⟩, by omega, ?_⟩
    ·rw [hx4, hm]
     by_cases h0 : x.toNat = 0
     ·left; rw [if_pos h0]; omega
     ·right; rw [if_neg h0, show (x - 1).toNat = x.toNat - 1 by omega]; exact ⟨by omega, rfl⟩
    exact wkS
 ·refine walkS ?_
  (refine aw_ret ?_; (simp only [Fin, Try.results28]; refine finS ?_); exact ⟨_, _, .inl ⟨rfl, rfl⟩, List.nodup_nil, by
   rcases hx3 with h | h
   ·rw [h.2]
   ·omega⟩)
end
end Go.Proofs.Ytodkkldopciagaa.Eng
namespace Go.Proofs.Ytodkkldopciagaa.Eng
open Go Go.RowKit

noncomputable def appB (D : List RuleD) (n : Int) : Int := if vDesc D = true ∧ 0 ≤ n ∧ n ≤ 400 then (n + 1) * (D.length : Int) else 0
theorem appB_y {D : List RuleD} {n : Int} (h : vDesc D = true) (h0 : 0 ≤ n) (h1 : n ≤ 400) : appB D n = (n + 1) * (D.length : Int) := if_pos ⟨h, h0, h1⟩
theorem appB_n {D : List RuleD} {n : Int} (h : ¬ (vDesc D = true ∧ 0 ≤ n ∧ n ≤ 400)) : appB D n = 0 := if_neg h
theorem inR_c (n a b : Int) : AC Try.prog 50 [.d (iD n), .d (iD a), .d (iD b)] none (fun r' _ => r' = .d (bD (decide (a ≤ n) && decide (n ≤ b)))) := by
 by_cases h : a ≤ n
 ·have e1 : decide (a ≤ n) = true := decide_eq_true h
  refine calls_body Try.func50 rfl Try.call50 Try.ntmps50 (by simp) (by simp [ArgsOk]) (by simp [Rz.nkL, Rz.nk]) fun en hsz hks hk0 => ?_; refine enS ?_
  (repeat (first | refine ctlS ?_ | (refine ol_go ?_ (fun K1 hK1 => ?_); exact trS; refine evS ?_; (try simp only [e1]); refine hK1 _ _ ?_; clear hK1 K1) | (refine ow_go ?_ dsS (fun K1 hK1 => ?_); exact trS; refine evS ?_; (try simp only [e1]); refine hK1 _ ?_; clear hK1 K1) | refine skipS ?_))
  (refine aw_ret ?_; (simp only [Fin, Try.results50]; refine finS ?_); exact ⟨_, _, .inl ⟨rfl, rfl⟩, List.nodup_nil, by rw [e1, Bool.true_and]⟩)
 ·have e1 : decide (a ≤ n) = false := decide_eq_false h
  refine calls_body Try.func50 rfl Try.call50 Try.ntmps50 (by simp) (by simp [ArgsOk]) (by simp [Rz.nkL, Rz.nk]) fun en hsz hks hk0 => ?_; refine enS ?_
  (repeat (first | refine ctlS ?_ | (refine ol_go ?_ (fun K1 hK1 => ?_); exact trS; refine evS ?_; (try simp only [e1]); refine hK1 _ _ ?_; clear hK1 K1) | (refine ow_go ?_ dsS (fun K1 hK1 => ?_); exact trS; refine evS ?_; (try simp only [e1]); refine hK1 _ ?_; clear hK1 K1) | refine skipS ?_))
  (refine aw_ret ?_; (simp only [Fin, Try.results50]; refine finS ?_); exact ⟨_, _, .inl ⟨rfl, rfl⟩, List.nodup_nil, by rw [e1, Bool.false_and]⟩)
section
variable {M : Nat} {D : List RuleD}
theorem appB_c (hD : DB M D) (hM : M ≤ 1048576) (n : Int) : AC Try.prog 13 [.d (encD D), .d (iD n)] none (fun r' _ => r' = .d (iD (appB D n))) := by
 have hl := hD.len
 have R := inR_c n 0 400
 by_cases hv : vDesc D = true
 ·by_cases h0 : 0 ≤ n ∧ n ≤ 400
  ·rw [decide_eq_true h0.1, decide_eq_true h0.2] at R
   have e1 : IntKind.i64.wrap (n + 1) = n + 1 := wrap_small (by omega) (by omega)
   have hm : (n + 1) * (D.length : Int) ≤ 401 * (D.length : Int) := Int.mul_le_mul_of_nonneg_right (by omega) (by omega)
   have hm0 : 0 ≤ (n + 1) * (D.length : Int) := Int.mul_nonneg (by omega) (by omega)
   have e2 : IntKind.i64.wrap ((n + 1) * (D.length : Int)) = (n + 1) * (D.length : Int) := wrap_small (by omega) (by omega)
   refine calls_body Try.func13 rfl Try.call13 Try.ntmps13 (by simp) (by simp [ArgsOk]) (by simp [Rz.nkL, Rz.nk]) fun en hsz hks hk0 => ?_; refine enS ?_
   (repeat (first | refine walkS ?_ | (refine callPre ?_; (first | refine callN_funS rfl ((validI_c hD hM).eqv (r1 := .d (bD true)) (by rw [hv])) ?_ | refine callN_funS rfl (R) ?_)) | (refine callPreL ?_; (first | refine callL_funS rfl ((validI_c hD hM).eqv (r1 := .d (bD true)) (by rw [hv])) ?_ | refine callL_funS rfl (R) ?_))))
   refine aw_condS rfl (fun hc => ?_) (fun hc => ?_)
   ·(first | exact absurd trivial hc | exact absurd rfl hc | (cases hc; done) | omega | exact absurd hc (by decide) | (simp at hc; done))
   ·(repeat (first | refine ctlS ?_ | (refine ol_go ?_ (fun K1 hK1 => ?_); exact trS; refine evS ?_; (try simp only [e1, e2]); refine hK1 _ _ ?_; clear hK1 K1) | (refine ow_go ?_ dsS (fun K1 hK1 => ?_); exact trS; refine evS ?_; (try simp only [e1, e2]); refine hK1 _ ?_; clear hK1 K1) | refine skipS ?_))
    (refine aw_ret ?_; (simp only [Fin, Try.results13]; refine finS ?_); exact ⟨_, _, .inl ⟨rfl, rfl⟩, List.nodup_nil, by rw [appB_y hv h0.1 h0.2]⟩)
  ·have h1 : (decide ((0 : Int) ≤ n) && decide (n ≤ 400)) = false := by
    by_cases h2 : 0 ≤ n
    ·rw [decide_eq_false (p := n ≤ 400) fun h => h0 ⟨h2, h⟩, Bool.and_false]
    ·rw [decide_eq_false h2, Bool.false_and]
   rw [h1] at R
   refine calls_body Try.func13 rfl Try.call13 Try.ntmps13 (by simp) (by simp [ArgsOk]) (by simp [Rz.nkL, Rz.nk]) fun en hsz hks hk0 => ?_; refine enS ?_
   (repeat (first | refine walkS ?_ | (refine callPre ?_; (first | refine callN_funS rfl ((validI_c hD hM).eqv (r1 := .d (bD true)) (by rw [hv])) ?_ | refine callN_funS rfl (R) ?_)) | (refine callPreL ?_; (first | refine callL_funS rfl ((validI_c hD hM).eqv (r1 := .d (bD true)) (by rw [hv])) ?_ | refine callL_funS rfl (R) ?_))))
   refine aw_condS rfl (fun hc => ?_) (fun hc => ?_)
   ·refine walkS ?_
    (refine aw_ret ?_; (simp only [Fin, Try.results13]; refine finS ?_); exact ⟨_, _, .inl ⟨rfl, rfl⟩, List.nodup_nil, by rw [appB_n fun h => h0 h.2]⟩)
   ·(first | exact absurd trivial hc | exact absurd rfl hc | (cases hc; done) | omega | exact absurd hc (by decide) | (simp at hc; done))
 ·have hv' : vDesc D = false := by simpa using hv
  refine calls_body Try.func13 rfl Try.call13 Try.ntmps13 (by simp) (by simp [ArgsOk]) (by simp [Rz.nkL, Rz.nk]) fun en hsz hks hk0 => ?_; refine enS ?_
  (repeat (first | refine walkS ?_ | (refine callPre ?_; (first | refine callN_funS rfl ((validI_c hD hM).eqv (r1 := .d (bD false)) (by rw [hv'])) ?_)) | (refine callPreL ?_; (first | refine callL_funS rfl ((validI_c hD hM).eqv (r1 := .d (bD false)) (by rw [hv'])) ?_))))
  refine aw_condS rfl (fun hc => ?_) (fun hc => ?_)
  ·refine walkS ?_
   (refine aw_ret ?_; (simp only [Fin, Try.results13]; refine finS ?_); exact ⟨_, _, .inl ⟨rfl, rfl⟩, List.nodup_nil, by rw [appB_n fun h => hv h.1]⟩)
  ·(first | exact absurd trivial hc | exact absurd rfl hc | (cases hc; done) | omega | exact absurd hc (by decide) | (simp at hc; done))
end
end Go.Proofs.Ytodkkldopciagaa.Eng
namespace Go.Proofs.Ytodkkldopciagaa.Eng
open Go Go.RowKit

theorem bigB_c (B : List UInt8) : AC Try.prog 9 [.d (encB B)] none (fun r' _ => r' = .d (bD (decide ((1048576 : Int) < B.length)))) := by
 refine calls_body Try.func9 rfl Try.call9 Try.ntmps9 (by simp) (by simp [ArgsOk]) (by simp [Rz.nkL, Rz.nk]) fun en hsz hks hk0 => ?_; refine enS ?_
 refine walkS ?_
 (refine aw_ret ?_; (simp only [Fin, Try.results9]; refine finS ?_); exact ⟨_, _, .inl ⟨rfl, rfl⟩, List.nodup_nil, rfl⟩)
end Go.Proofs.Ytodkkldopciagaa.Eng
