/-
 The law: FnValidator.
-/
import Derived.Test.YtodkkldopciagaaKND16
import Derived.Test.YtodkkldopciagaaKNDC
import Derived.Test.YtodkkldopciagaaKN18
import Derived.Test.YtodkkldopciagaaKLWX
set_option linter.unusedSimpArgs false
set_option linter.unusedVariables false
set_option linter.defProp false
set_option maxRecDepth 100000
set_option maxHeartbeats 4000000
namespace Go.Proofs.Ytodkkldopciagaa.Eng
open Go Go.RowKit

private def tyF := And.intro (And.intro (And.intro (And.intro (And.intro (And.intro tb22 te22) (And.intro te24 te33)) (And.intro (And.intro te64 te65) (And.intro tf26_0 tf37_0))) (And.intro (And.intro (And.intro tf37_1 tf37_2) (And.intro tf67_0 tf67_1)) (And.intro (And.intro tf67_2 tf67_3) (And.intro tf67_4 tf67_5)))) (And.intro (And.intro (And.intro (And.intro tf67_6 tf67_7) (And.intro tk22 tk24)) (And.intro (And.intro tk26 tk3) (And.intro tk33 tk37))) (And.intro (And.intro (And.intro tk4 tk5) (And.intro tk64 tk65)) (And.intro (And.intro tk67 tk9) (And.intro tp26 (And.intro tp37 tp67)))))) (And.intro (And.intro (And.intro (And.intro (And.intro tr22 tr24) (And.intro tr26 tr3)) (And.intro (And.intro tr33 tr37) (And.intro tr4 tr5))) (And.intro (And.intro (And.intro tr64 tr65) (And.intro tr67 tr9)) (And.intro (And.intro tu22 tu24) (And.intro tu3 tu33)))) (And.intro (And.intro (And.intro (And.intro tu4 tu5) (And.intro tu64 tu65)) (And.intro (And.intro tu9 tz22) (And.intro tz24 tz26))) (And.intro (And.intro (And.intro tz3 tz33) (And.intro tz37 tz4)) (And.intro (And.intro tz5 tz64) (And.intro tz65 (And.intro tz67 tz9))))))
theorem lawValidator_c (B : List UInt8) : AC Try.prog 5 [.d (encB B)] none (fun r' _ => r' = .d (bD true)) := by
 by_cases h0 : (1048576 : Int) < B.length
 ·have b1 := bigB_c B
  rw [decide_eq_true h0] at b1
  refine calls_body Try.func5 rfl Try.call5 Try.ntmps5 (by simp) (by simp [ArgsOk]) (by simp [Rz.nkL, Rz.nk]) fun en hsz hks hk0 => ?_; refine enS ?_
  (repeat (first | refine walkS ?_ | (refine callPre ?_; (first | refine callN_funS rfl (b1) ?_)) | (refine callPreL ?_; (first | refine callL_funS rfl (b1) ?_))))
  refine aw_condS rfl (fun hc => ?_) (fun hc => ?_)
  ·refine walkS ?_
   (refine aw_ret ?_; (simp only [Fin, Try.results5]; refine finS ?_); exact ⟨_, _, .inl ⟨rfl, rfl⟩, List.nodup_nil, rfl⟩)
  ·(first | exact absurd trivial hc | exact absurd rfl hc | (cases hc; done) | omega | exact absurd hc (by decide) | (simp at hc; done))
 have b1 := bigB_c B
 rw [decide_eq_false h0] at b1
 have hB : B.length ≤ 1048576 := by omega
 have V1 := drawCV_c hB
 have hDB := rvC_db B
 have hl := rvC_len B
 generalize rvC B = z at V1 hDB hl
 obtain ⟨D, i, b, p⟩ := z
 simp only at V1 hDB hl
 have V2 := drawF_c hB
 have hDB2 := fileC_db (newC B)
 have hl2 := fileC_len (newC B)
 generalize (fileC (newC B)).1 = z at V2 hDB2 hl2
 obtain ⟨E, f⟩ := z
 simp only at V2 hDB2 hl2
 have R1 := readValue_c hDB (Nat.le_refl _) (b := b) (by omega) i p
 have C1 := checkValueI_c hDB (Nat.le_refl _) (b := b) (by omega) i p
 have R2 := readFile_c hDB2 (Nat.le_refl _) (b := f) (by omega)
 have C2 := checkFileI_c hDB2 (Nat.le_refl _) (b := f) (by omega)
 generalize readV D b i p = x at R1 C1
 obtain ⟨v, q, c⟩ := x
 generalize readF E f = y at R2 C2
 obtain ⟨v2, q2, c2⟩ := y
 refine calls_body Try.func5 rfl Try.call5 Try.ntmps5 (by simp) (by simp [ArgsOk]) (by simp [Rz.nkL, Rz.nk]) fun en hsz hks hk0 => ?_; refine enS ?_
 (repeat (first | refine ctlS ?_ | (refine ol_go ?_ (fun K1 hK1 => ?_); exact trS; refine evS ?_; (try simp only [beq_self_eq_true]); refine hK1 _ _ ?_; clear hK1 K1) | (refine ow_go ?_ dsS (fun K1 hK1 => ?_); exact trS; refine evS ?_; (try simp only [beq_self_eq_true]); refine hK1 _ ?_; clear hK1 K1) | refine skipS ?_ | (refine callPre ?_; (first | refine callN_funS rfl (b1) ?_ | refine callN_funS rfl (V1) ?_ | refine callN_funS rfl (R1) ?_ | refine callN_funS rfl (C1) ?_ | refine callN_funS rfl (V2) ?_ | refine callN_funS rfl (R2) ?_ | refine callN_funS rfl (C2) ?_)) | (refine callPreL ?_; (first | refine callL_funS rfl (b1) ?_ | refine callL_funS rfl (V1) ?_ | refine callL_funS rfl (R1) ?_ | refine callL_funS rfl (C1) ?_ | refine callL_funS rfl (V2) ?_ | refine callL_funS rfl (R2) ?_ | refine callL_funS rfl (C2) ?_)) | refine aw_condT rfl ?_ | refine aw_condF rfl ?_))
 (refine aw_ret ?_; (simp only [Fin, Try.results5]; refine finS ?_); exact ⟨_, _, .inl ⟨rfl, rfl⟩, List.nodup_nil, rfl⟩)
end Go.Proofs.Ytodkkldopciagaa.Eng
