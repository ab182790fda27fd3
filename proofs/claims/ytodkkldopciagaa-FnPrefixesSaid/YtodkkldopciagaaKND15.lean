/-
 Draws: DrawReadFile, DrawCountApplications, DrawLongestValidPrefix.
-/
import Derived.Test.YtodkkldopciagaaKNDC
import Derived.Test.YtodkkldopciagaaKNDX
import Derived.Test.YtodkkldopciagaaKNDY
set_option linter.unusedSimpArgs false
set_option linter.unusedVariables false
set_option linter.defProp false
set_option maxRecDepth 100000
set_option maxHeartbeats 4000000
namespace Go.Proofs.Ytodkkldopciagaa.Eng
open Go Go.RowKit

section
variable {B : List UInt8}
private def tyF := And.intro (And.intro (And.intro (And.intro (And.intro tb22 (And.intro te22 te24)) (And.intro (And.intro te64 te65) (And.intro tf26_0 tf67_0))) (And.intro (And.intro tf67_1 (And.intro tf67_2 tf67_3)) (And.intro (And.intro tf67_4 tf67_5) (And.intro tf67_6 tf67_7)))) (And.intro (And.intro (And.intro tk22 (And.intro tk24 tk26)) (And.intro (And.intro tk3 tk4) (And.intro tk5 tk64))) (And.intro (And.intro (And.intro tk65 tk67) (And.intro tk77 tk9)) (And.intro (And.intro tp26 tp67) (And.intro tr22 tr24))))) (And.intro (And.intro (And.intro (And.intro tr26 (And.intro tr3 tr4)) (And.intro (And.intro tr5 tr64) (And.intro tr65 tr67))) (And.intro (And.intro tr77 (And.intro tr9 tu22)) (And.intro (And.intro tu24 tu3) (And.intro tu4 tu5)))) (And.intro (And.intro (And.intro tu64 (And.intro tu65 tu77)) (And.intro (And.intro tu9 tz22) (And.intro tz24 tz26))) (And.intro (And.intro (And.intro tz3 tz4) (And.intro tz5 tz64)) (And.intro (And.intro tz65 tz67) (And.intro tz77 tz9)))))
theorem drawRF_c (hB : B.length ≤ 1048576) : AC Try.prog 44 [.d (encB B)] none (fun r' _ => r' = .d (.tup [encD (readC B).1, encB (readC B).2])) := by
 have hb0 : (newC B).b.length ≤ 1048576 := hB
 have n1 := newC_c hB
 have f1 := fileC_s (newC B) hb0 (fun _ => True)
 have hb1 : (fileC (newC B)).2.b.length ≤ 1048576 := by rw [fileC_b]; exact hb0
 unfold readC
 generalize fileC (newC B) = z at f1 hb1 ⊢
 obtain ⟨⟨D, b⟩, c'⟩ := z
 simp only at f1 hb1 ⊢
 have o1 := once_c (p := fun _ => True) c' hb1 12
 have hb2 : (once c' 12).2.b.length ≤ 1048576 := by unfold once; rw [bel_b]; exact hb1
 have a1 := any_c (p := fun _ => True) (once c' 12).2 hb2
 unfold rdEnd
 simp only
 generalize once c' 12 = o at o1 a1 hb2 ⊢
 obtain ⟨ob, oc⟩ := o
 simp only at o1 a1 hb2 ⊢
 generalize anyC oc = w at a1 ⊢
 obtain ⟨wD, wc⟩ := w
 simp only at a1 ⊢
 refine calls_body Try.func44 rfl Try.call44 Try.ntmps44 (by simp) (by simp [ArgsOk]) (by simp [Rz.nkL, Rz.nk]) fun en hsz hks hk0 => ?_; refine enS ?_
 (repeat (first | refine walkS ?_ | (refine ol_call1r (k := 32) ?_ rfl (f1) rfl rfl ⟨0, List.mem_cons_self⟩ ?_; exact trS; refine stS1 ?_) | (refine ow_call1d (k := 32) ?_ dsS rfl (f1) rfl rfl ?_; exact trS; refine stS0 ?_) | (refine ol_call1d (k := 32) ?_ rfl (f1) rfl rfl ⟨0, List.mem_cons_self⟩ ?_; exact trS; refine stS0 ?_) | (refine ol_call1r (k := 32) ?_ rfl (o1) rfl rfl ⟨0, List.mem_cons_self⟩ ?_; exact trS; refine stS1 ?_) | (refine ow_call1d (k := 32) ?_ dsS rfl (o1) rfl rfl ?_; exact trS; refine stS0 ?_) | (refine ol_call1d (k := 32) ?_ rfl (o1) rfl rfl ⟨0, List.mem_cons_self⟩ ?_; exact trS; refine stS0 ?_) | (refine callPre ?_; (first | refine callN_funS rfl (n1) ?_)) | (refine callPreL ?_; (first | refine callL_funS rfl (n1) ?_))))
 refine aw_condS rfl (fun hc => ?_) (fun hc => ?_)
 ·(repeat (first | refine walkS ?_ | (refine ol_call1r (k := 32) ?_ rfl (a1) rfl rfl ⟨0, List.mem_cons_self⟩ ?_; exact trS; refine stS1 ?_) | (refine ow_call1d (k := 32) ?_ dsS rfl (a1) rfl rfl ?_; exact trS; refine stS0 ?_) | (refine ol_call1d (k := 32) ?_ rfl (a1) rfl rfl ⟨0, List.mem_cons_self⟩ ?_; exact trS; refine stS0 ?_)))
  rw [if_pos hc]
  (refine aw_ret ?_; (simp only [Fin, Try.results44]; refine finS ?_); refine ⟨_, [], .inr (.inl ⟨.tup [encD wD, encB b], rfl, rfl, ?_⟩), List.nodup_nil, rfl⟩; exact wkDS2)
 ·refine walkS ?_
  rw [if_neg (by simp [hc])]
  (refine aw_ret ?_; (simp only [Fin, Try.results44]; refine finS ?_); refine ⟨_, [], .inr (.inl ⟨.tup [encD D, encB b], rfl, rfl, ?_⟩), List.nodup_nil, rfl⟩; exact wkDS2)
theorem drawCA_c (hB : B.length ≤ 1048576) : AC Try.prog 10 [.d (encB B)] none (fun r' _ => r' = .d (.tup [encD (cntC B).1, encB (cntC B).2])) := by
 have f1 := drawRF_c hB
 have hl := readC_len B
 unfold cntC
 generalize readC B = z at f1 hl ⊢
 obtain ⟨D, b⟩ := z
 simp only at f1 hl ⊢
 refine calls_body Try.func10 rfl Try.call10 Try.ntmps10 (by simp) (by simp [ArgsOk]) (by simp [Rz.nkL, Rz.nk]) fun en hsz hks hk0 => ?_; refine enS ?_
 (repeat (first | refine walkS ?_ | (refine callPre ?_; (first | refine callN_funS rfl (f1) ?_)) | (refine callPreL ?_; (first | refine callL_funS rfl (f1) ?_))))
 (refine ow_gd rfl rfl dsS (fun hg K1 hK1 => ?_) (fun hg => ?_); ((try simp only [hg]); refine evS ?_;  refine hK1 _ ?_; clear hK1 K1); rotate_left; (simp only [Bool.not_true, Bool.not_false] at hg; simp only [St.set, hg]); rotate_left)
 ·have hg' : 60 < b.length := by simp at hg; omega
  refine walkS ?_
  refine aw_condS rfl (fun hc => ?_) (fun hc => ?_)
  ·have hc' : b.length ≤ 400 := by first | omega | (simp at hc; omega)
   refine walkS ?_
   rw [if_pos (by omega)]
   (refine aw_ret ?_; (simp only [Fin, Try.results10]; refine finS ?_); refine ⟨_, [], .inr (.inl ⟨.tup [encD D, encB (b.take 60)], rfl, rfl, ?_⟩), List.nodup_nil, rfl⟩; exact wkDS2)
  ·have hc' : ¬ b.length ≤ 400 := by first | omega | (simp at hc; omega)
   refine walkS ?_
   rw [if_neg (by omega)]
   (refine aw_ret ?_; (simp only [Fin, Try.results10]; refine finS ?_); refine ⟨_, [], .inr (.inl ⟨.tup [encD D, encB b], rfl, rfl, ?_⟩), List.nodup_nil, rfl⟩; exact wkDS2)
 ·have hg' : ¬ 60 < b.length := by simp at hg; omega
  refine walkS ?_
  refine aw_condS rfl (fun hc => ?_) (fun hc => ?_)
  ·(first | exact absurd trivial hc | exact absurd rfl hc | (cases hc; done) | omega | exact absurd hc (by decide) | (simp at hc; done))
  ·refine walkS ?_
   rw [if_neg (by omega)]
   (refine aw_ret ?_; (simp only [Fin, Try.results10]; refine finS ?_); refine ⟨_, [], .inr (.inl ⟨.tup [encD D, encB b], rfl, rfl, ?_⟩), List.nodup_nil, rfl⟩; exact wkDS2)
theorem drawLV_c (hB : B.length ≤ 1048576) : AC Try.prog 27 [.d (encB B)] none (fun r' _ => r' = .d (.tup [encD (lvpC B).1, encB (lvpC B).2])) := by
 have f1 := drawRF_c hB
 have hl := readC_len B
 unfold lvpC
 generalize readC B = z at f1 hl ⊢
 obtain ⟨D, b⟩ := z
 simp only at f1 hl ⊢
 refine calls_body Try.func27 rfl Try.call27 Try.ntmps27 (by simp) (by simp [ArgsOk]) (by simp [Rz.nkL, Rz.nk]) fun en hsz hks hk0 => ?_; refine enS ?_
 (repeat (first | refine walkS ?_ | (refine callPre ?_; (first | refine callN_funS rfl (f1) ?_)) | (refine callPreL ?_; (first | refine callL_funS rfl (f1) ?_))))
 refine aw_condS rfl (fun hc => ?_) (fun hc => ?_)
 ·refine walkS ?_
  rw [if_pos (by omega)]
  (refine aw_ret ?_; (simp only [Fin, Try.results27]; refine finS ?_); refine ⟨_, [], .inr (.inl ⟨.tup [encD D, encB (b.take 40)], rfl, rfl, ?_⟩), List.nodup_nil, rfl⟩; exact wkDS2)
 ·refine walkS ?_
  rw [if_neg (by omega)]
  (refine aw_ret ?_; (simp only [Fin, Try.results27]; refine finS ?_); refine ⟨_, [], .inr (.inl ⟨.tup [encD D, encB b], rfl, rfl, ?_⟩), List.nodup_nil, rfl⟩; exact wkDS2)
end
end Go.Proofs.Ytodkkldopciagaa.Eng
