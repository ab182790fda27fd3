/-
 The law: FnPrefixes.
-/
import Derived.Test.YtodkkldopciagaaKPLW
import Derived.Test.YtodkkldopciagaaKN10
import Derived.Test.YtodkkldopciagaaKLWX
import Derived.Test.YtodkkldopciagaaKND15
set_option linter.unusedSimpArgs false
set_option linter.unusedVariables false
set_option linter.defProp false
set_option maxRecDepth 100000
set_option maxHeartbeats 4000000
namespace Go.Proofs.Ytodkkldopciagaa.Eng
open Go Go.RowKit

private def tyF := And.intro (And.intro (And.intro (And.intro (And.intro tb22 (And.intro te22 te24)) (And.intro te64 (And.intro te65 tf26_0))) (And.intro (And.intro tf67_0 (And.intro tf67_1 tf67_2)) (And.intro (And.intro tf67_3 tf67_4) (And.intro tf67_5 tf67_6)))) (And.intro (And.intro (And.intro tf67_7 (And.intro tk22 tk24)) (And.intro (And.intro tk26 tk3) (And.intro tk4 tk5))) (And.intro (And.intro tk64 (And.intro tk65 tk67)) (And.intro (And.intro tk9 tp26) (And.intro tp67 tr22))))) (And.intro (And.intro (And.intro (And.intro tr24 (And.intro tr26 tr3)) (And.intro tr4 (And.intro tr5 tr64))) (And.intro (And.intro tr65 (And.intro tr67 tr9)) (And.intro (And.intro tu22 tu24) (And.intro tu3 tu4)))) (And.intro (And.intro (And.intro tu5 (And.intro tu64 tu65)) (And.intro (And.intro tu9 tz22) (And.intro tz24 tz26))) (And.intro (And.intro tz3 (And.intro tz4 tz5)) (And.intro (And.intro tz64 tz65) (And.intro tz67 tz9)))))
theorem lawPrefixes_c (B : List UInt8) : AC Try.prog 6 [.d (encB B)] none (fun r' _ => r' = .d (bD true)) := by
 by_cases h0 : (1048576 : Int) < B.length
 ·have b1 := bigB_c B
  rw [decide_eq_true h0] at b1
  refine calls_body Try.func6 rfl Try.call6 Try.ntmps6 (by simp) (by simp [ArgsOk]) (by simp [Rz.nkL, Rz.nk]) fun en hsz hks hk0 => ?_; refine enS ?_
  (repeat (first | refine walkS ?_ | (refine callPre ?_; (first | refine callN_funS rfl (b1) ?_)) | (refine callPreL ?_; (first | refine callL_funS rfl (b1) ?_))))
  refine aw_condS rfl (fun hc => ?_) (fun hc => ?_)
  ·refine walkS ?_
   (refine aw_ret ?_; (simp only [Fin, Try.results6]; refine finS ?_); exact ⟨_, _, .inl ⟨rfl, rfl⟩, List.nodup_nil, rfl⟩)
  ·(first | exact absurd trivial hc | exact absurd rfl hc | (cases hc; done) | omega | exact absurd hc (by decide) | (simp at hc; done))
 have b1 := bigB_c B
 rw [decide_eq_false h0] at b1
 have hB : B.length ≤ 1048576 := by omega
 have V1 := drawLV_c hB
 have hDB := lvpC_db B
 have hl := lvpC_len B
 generalize lvpC B = z at V1 hDB hl
 obtain ⟨D, b⟩ := z
 simp only at V1 hDB hl
 have I1 := longPI_c hDB (Nat.le_refl _) (b := b) (by omega)
 have S1 := longPS_c hDB (Nat.le_refl _) (b := b) (by omega)
 have VS := validS_c hDB (Nat.le_refl _)
 by_cases hv : vDesc D = true
 ·rw [hv] at VS
  obtain ⟨m, hm, e, hk⟩ := longP_yes hv b
  rw [e] at I1 S1
  have d1 : decide ((m : Int) < 0) = false := decide_eq_false (by omega)
  refine calls_body Try.func6 rfl Try.call6 Try.ntmps6 (by simp) (by simp [ArgsOk]) (by simp [Rz.nkL, Rz.nk]) fun en hsz hks hk0 => ?_; refine enS ?_
  (repeat (first | refine ctlS ?_ | (refine ol_go ?_ (fun K1 hK1 => ?_); exact trS; refine evS ?_; (try simp only [bne_self_eq_false]); refine hK1 _ _ ?_; clear hK1 K1) | (refine ow_go ?_ dsS (fun K1 hK1 => ?_); exact trS; refine evS ?_; (try simp only [bne_self_eq_false]); refine hK1 _ ?_; clear hK1 K1) | refine skipS ?_ | (refine callPre ?_; (first | refine callN_funS rfl (b1) ?_ | refine callN_funS rfl (V1) ?_ | refine callN_funS rfl (I1) ?_ | refine callN_funS rfl (S1) ?_)) | (refine callPreL ?_; (first | refine callL_funS rfl (b1) ?_ | refine callL_funS rfl (V1) ?_ | refine callL_funS rfl (I1) ?_ | refine callL_funS rfl (S1) ?_)) | refine aw_condT rfl ?_ | refine aw_condF rfl ?_))
  refine aw_loopS [2, 3, 4, 5] (fun _ _ => []) (fun _ k => [(6, .d (iD (k : Nat)))]) [] (fun _ _ => []) [] (fun _ _ => []) (fun k : Nat => k ≤ m + 1) (fun k => m + 1 - k) (0) hks (fun _ => rfl) (Nat.zero_le _) wkS ?_; intro x hx; refine headS ?_
  refine walkS ?_
  refine aw_condS rfl (fun hc => ?_) (fun hc => ?_)
  ·have hkm : x ≤ m := by omega
   have VI := validPI_c hDB (Nat.le_refl _) (b := b.take x) (by rw [List.length_take]; omega)
   rw [hk x hkm] at VI
   have e1 : IntKind.i64.wrap ((x : Int) + 1) = ((x + 1 : Nat) : Int) := by rw [wrap_small (by omega) (by omega)]; rfl
   (repeat (first | refine ctlS ?_ | (refine ol_go ?_ (fun K1 hK1 => ?_); exact trS; refine evS ?_; (try simp only [e1]); refine hK1 _ _ ?_; clear hK1 K1) | (refine ow_go ?_ dsS (fun K1 hK1 => ?_); exact trS; refine evS ?_; (try simp only [e1]); refine hK1 _ ?_; clear hK1 K1) | refine skipS ?_ | (refine callPre ?_; (first | refine callN_funS rfl (VI) ?_)) | (refine callPreL ?_; (first | refine callL_funS rfl (VI) ?_)) | refine aw_condT rfl ?_ | refine aw_condF rfl ?_))
   refine ⟨x + 1, by omega, by omega, ?_⟩
   exact wkS
  ·(repeat (first | refine ctlS ?_ | (refine ol_go ?_ (fun K1 hK1 => ?_); exact trS; refine evS ?_; (try simp only [d1]); refine hK1 _ _ ?_; clear hK1 K1) | (refine ow_go ?_ dsS (fun K1 hK1 => ?_); exact trS; refine evS ?_; (try simp only [d1]); refine hK1 _ ?_; clear hK1 K1) | refine skipS ?_ | (refine callPre ?_; (first | refine callN_funS rfl (VS) ?_)) | (refine callPreL ?_; (first | refine callL_funS rfl (VS) ?_)) | refine aw_condT rfl ?_ | refine aw_condF rfl ?_))
   (refine aw_ret ?_; (simp only [Fin, Try.results6]; refine finS ?_); exact ⟨_, _, .inl ⟨rfl, rfl⟩, List.nodup_nil, rfl⟩)
 ·rw [Bool.eq_false_iff.2 hv] at VS
  rw [longP_not hv] at I1 S1
  refine calls_body Try.func6 rfl Try.call6 Try.ntmps6 (by simp) (by simp [ArgsOk]) (by simp [Rz.nkL, Rz.nk]) fun en hsz hks hk0 => ?_; refine enS ?_
  (repeat (first | refine walkS ?_ | (refine callPre ?_; (first | refine callN_funS rfl (b1) ?_ | refine callN_funS rfl (V1) ?_ | refine callN_funS rfl (I1) ?_ | refine callN_funS rfl (S1) ?_)) | (refine callPreL ?_; (first | refine callL_funS rfl (b1) ?_ | refine callL_funS rfl (V1) ?_ | refine callL_funS rfl (I1) ?_ | refine callL_funS rfl (S1) ?_)) | refine aw_condT rfl ?_ | refine aw_condF rfl ?_))
  refine aw_loopS [2, 3, 4, 5] (fun _ _ => []) (fun _ k => [(6, .d (iD (k : Nat)))]) [] (fun _ _ => []) [] (fun _ _ => []) (fun k : Nat => k = 0) (fun k => k) (0) hks (fun _ => rfl) rfl wkS ?_; intro x hx; refine headS ?_
  subst hx
  (repeat (first | refine walkS ?_ | (refine callPre ?_; (first | refine callN_funS rfl (VS) ?_)) | (refine callPreL ?_; (first | refine callL_funS rfl (VS) ?_)) | refine aw_condT rfl ?_ | refine aw_condF rfl ?_))
  (refine aw_ret ?_; (simp only [Fin, Try.results6]; refine finS ?_); exact ⟨_, _, .inl ⟨rfl, rfl⟩, List.nodup_nil, rfl⟩)
end Go.Proofs.Ytodkkldopciagaa.Eng
