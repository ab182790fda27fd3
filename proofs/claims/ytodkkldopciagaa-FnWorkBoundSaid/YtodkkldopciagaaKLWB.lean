/-
 The law: FnWorkBound.
-/
import Derived.Test.YtodkkldopciagaaKLWX
import Derived.Test.YtodkkldopciagaaKND15
import Derived.Test.YtodkkldopciagaaKPLW
set_option linter.unusedSimpArgs false
set_option linter.unusedVariables false
set_option linter.defProp false
set_option maxRecDepth 100000
set_option maxHeartbeats 4000000
namespace Go.Proofs.Ytodkkldopciagaa.Eng
open Go Go.RowKit

private def tyF := And.intro (And.intro (And.intro (And.intro (And.intro tb22 (And.intro te22 te24)) (And.intro te64 (And.intro te65 tf26_0))) (And.intro (And.intro tf67_0 (And.intro tf67_1 tf67_2)) (And.intro (And.intro tf67_3 tf67_4) (And.intro tf67_5 tf67_6)))) (And.intro (And.intro (And.intro tf67_7 (And.intro tk22 tk24)) (And.intro (And.intro tk26 tk3) (And.intro tk4 tk5))) (And.intro (And.intro tk64 (And.intro tk65 tk67)) (And.intro (And.intro tk9 tp26) (And.intro tp67 tr22))))) (And.intro (And.intro (And.intro (And.intro tr24 (And.intro tr26 tr3)) (And.intro tr4 (And.intro tr5 tr64))) (And.intro (And.intro tr65 (And.intro tr67 tr9)) (And.intro (And.intro tu22 tu24) (And.intro tu3 tu4)))) (And.intro (And.intro (And.intro tu5 (And.intro tu64 tu65)) (And.intro (And.intro tu9 tz22) (And.intro tz24 tz26))) (And.intro (And.intro tz3 (And.intro tz4 tz5)) (And.intro (And.intro tz64 tz65) (And.intro tz67 tz9)))))
theorem lawWork_c (B : List UInt8) : AC Try.prog 3 [.d (encB B)] none (fun r' _ => r' = .d (bD true)) := by
 by_cases h0 : (1048576 : Int) < B.length
 ·have b1 := bigB_c B
  rw [decide_eq_true h0] at b1
  refine calls_body Try.func3 rfl Try.call3 Try.ntmps3 (by simp) (by simp [ArgsOk]) (by simp [Rz.nkL, Rz.nk]) fun en hsz hks hk0 => ?_; refine enS ?_
  (repeat (first | refine walkS ?_ | (refine callPre ?_; (first | refine callN_funS rfl (b1) ?_)) | (refine callPreL ?_; (first | refine callL_funS rfl (b1) ?_))))
  refine aw_condS rfl (fun hc => ?_) (fun hc => ?_)
  ·refine walkS ?_
   (refine aw_ret ?_; (simp only [Fin, Try.results3]; refine finS ?_); exact ⟨_, _, .inl ⟨rfl, rfl⟩, List.nodup_nil, rfl⟩)
  ·(first | exact absurd trivial hc | exact absurd rfl hc | (cases hc; done) | omega | exact absurd hc (by decide) | (simp at hc; done))
 have b1 := bigB_c B
 rw [decide_eq_false h0] at b1
 have hB : B.length ≤ 1048576 := by omega
 have V1 := drawCA_c hB
 have hDB := cntC_db B
 have hl := cntC_len B
 generalize cntC B = z at V1 hDB hl
 obtain ⟨D, b⟩ := z
 simp only at V1 hDB hl
 have hDl := hDB.len
 have C1 := countI_c hDB (Nat.le_refl _) (b := b) (by omega)
 have A1 := appB_c hDB (Nat.le_refl _) (b.length : Int)
 have A2 := appB_c hDB (Nat.le_refl _) (-1)
 rw [appB_n (n := -1) (fun h => absurd h.2.1 (by decide))] at A2
 have VS := validS_c hDB (Nat.le_refl _)
 by_cases hv : vDesc D = true
 ·rw [hv] at VS
  by_cases hb : b.length ≤ 400
  ·have e1 : decide ((400 : Int) < (b.length : Int)) = false := decide_eq_false (by omega)
   obtain ⟨c1, c2⟩ := cnt_bound (b := b) (vDesc_spec hv).1
   have hmx : (b.length + 1) * D.length ≤ 401 * D.length := Nat.mul_le_mul_right _ (by omega)
   have hcx : cntF D b = (cnt D b D.length (D.length - 1) 0 : Int) := by
    unfold cntF
    rw [if_pos ⟨hv, hb⟩]
    exact wrap_small (by omega) (by omega)
   rw [hcx] at C1
   rw [appB_y hv (by omega) (by omega)] at A1
   have hap : ((b.length : Int) + 1) * (D.length : Int) = (((b.length + 1) * D.length : Nat) : Int) := by rw [Int.natCast_mul]; rfl
   rw [hap] at A1
   generalize cnt D b D.length (D.length - 1) 0 = c at *
   generalize (b.length + 1) * D.length = x at *
   have d1 : decide ((1 : Int) ≤ (c : Int)) = true := decide_eq_true (by omega)
   have d2 : decide ((c : Int) ≤ (x : Int)) = true := decide_eq_true (by omega)
   refine calls_body Try.func3 rfl Try.call3 Try.ntmps3 (by simp) (by simp [ArgsOk]) (by simp [Rz.nkL, Rz.nk]) fun en hsz hks hk0 => ?_; refine enS ?_
   (repeat (first | refine ctlS ?_ | (refine ol_go ?_ (fun K1 hK1 => ?_); exact trS; refine evS ?_; (try simp only [e1, d1, d2]); refine hK1 _ _ ?_; clear hK1 K1) | (refine ow_go ?_ dsS (fun K1 hK1 => ?_); exact trS; refine evS ?_; (try simp only [e1, d1, d2]); refine hK1 _ ?_; clear hK1 K1) | refine skipS ?_ | (refine callPre ?_; (first | refine callN_funS rfl (b1) ?_ | refine callN_funS rfl (V1) ?_ | refine callN_funS rfl (C1) ?_ | refine callN_funS rfl (VS) ?_ | refine callN_funS rfl (A1) ?_ | refine callN_funS rfl (A2) ?_)) | (refine callPreL ?_; (first | refine callL_funS rfl (b1) ?_ | refine callL_funS rfl (V1) ?_ | refine callL_funS rfl (C1) ?_ | refine callL_funS rfl (VS) ?_ | refine callL_funS rfl (A1) ?_ | refine callL_funS rfl (A2) ?_)) | refine aw_condT rfl ?_ | refine aw_condF rfl ?_))
   (refine aw_ret ?_; (simp only [Fin, Try.results3]; refine finS ?_); exact ⟨_, _, .inl ⟨rfl, rfl⟩, List.nodup_nil, rfl⟩)
  ·have e1 : decide ((400 : Int) < (b.length : Int)) = true := decide_eq_true (by omega)
   have hcx : cntF D b = 0 := by
    unfold cntF
    rw [if_neg (fun h => hb h.2)]
   rw [hcx] at C1
   refine calls_body Try.func3 rfl Try.call3 Try.ntmps3 (by simp) (by simp [ArgsOk]) (by simp [Rz.nkL, Rz.nk]) fun en hsz hks hk0 => ?_; refine enS ?_
   (repeat (first | refine ctlS ?_ | (refine ol_go ?_ (fun K1 hK1 => ?_); exact trS; refine evS ?_; (try simp only [e1]); refine hK1 _ _ ?_; clear hK1 K1) | (refine ow_go ?_ dsS (fun K1 hK1 => ?_); exact trS; refine evS ?_; (try simp only [e1]); refine hK1 _ ?_; clear hK1 K1) | refine skipS ?_ | (refine callPre ?_; (first | refine callN_funS rfl (b1) ?_ | refine callN_funS rfl (V1) ?_ | refine callN_funS rfl (C1) ?_ | refine callN_funS rfl (VS) ?_)) | (refine callPreL ?_; (first | refine callL_funS rfl (b1) ?_ | refine callL_funS rfl (V1) ?_ | refine callL_funS rfl (C1) ?_ | refine callL_funS rfl (VS) ?_)) | refine aw_condT rfl ?_ | refine aw_condF rfl ?_))
   (refine aw_ret ?_; (simp only [Fin, Try.results3]; refine finS ?_); exact ⟨_, _, .inl ⟨rfl, rfl⟩, List.nodup_nil, rfl⟩)
 ·rw [Bool.eq_false_iff.2 hv] at VS
  have hcx : cntF D b = 0 := by
   unfold cntF
   rw [if_neg (fun h => hv h.1)]
  rw [hcx] at C1
  refine calls_body Try.func3 rfl Try.call3 Try.ntmps3 (by simp) (by simp [ArgsOk]) (by simp [Rz.nkL, Rz.nk]) fun en hsz hks hk0 => ?_; refine enS ?_
  (repeat (first | refine walkS ?_ | (refine callPre ?_; (first | refine callN_funS rfl (b1) ?_ | refine callN_funS rfl (V1) ?_ | refine callN_funS rfl (C1) ?_ | refine callN_funS rfl (VS) ?_)) | (refine callPreL ?_; (first | refine callL_funS rfl (b1) ?_ | refine callL_funS rfl (V1) ?_ | refine callL_funS rfl (C1) ?_ | refine callL_funS rfl (VS) ?_)) | refine aw_condT rfl ?_ | refine aw_condF rfl ?_))
  (refine aw_ret ?_; (simp only [Fin, Try.results3]; refine finS ?_); exact ⟨_, _, .inl ⟨rfl, rfl⟩, List.nodup_nil, rfl⟩)
end Go.Proofs.Ytodkkldopciagaa.Eng
