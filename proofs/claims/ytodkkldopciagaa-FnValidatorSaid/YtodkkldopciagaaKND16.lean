/-
 Draws: DrawReadValue, DrawCheckValue.
-/
import Derived.Test.YtodkkldopciagaaKNDC
import Derived.Test.YtodkkldopciagaaKNDX
import Derived.Test.YtodkkldopciagaaKPD9
set_option linter.unusedSimpArgs false
set_option linter.unusedVariables false
set_option linter.defProp false
set_option maxRecDepth 100000
set_option maxHeartbeats 4000000
namespace Go.Proofs.Ytodkkldopciagaa.Eng
open Go Go.RowKit

section
variable {B : List UInt8}
private def tyF := And.intro (And.intro (And.intro (And.intro (And.intro tb22 (And.intro te22 te24)) (And.intro (And.intro te64 te65) (And.intro tf26_0 tf67_0))) (And.intro (And.intro tf67_1 (And.intro tf67_2 tf67_3)) (And.intro (And.intro tf67_4 tf67_5) (And.intro tf67_6 tf67_7)))) (And.intro (And.intro (And.intro tk22 (And.intro tk24 tk26)) (And.intro (And.intro tk3 tk4) (And.intro tk5 tk64))) (And.intro (And.intro (And.intro tk65 tk67) (And.intro tk77 tk9)) (And.intro (And.intro tp26 tp67) (And.intro tr22 tr24))))) (And.intro (And.intro (And.intro (And.intro tr26 (And.intro tr3 tr4)) (And.intro (And.intro tr5 tr64) (And.intro tr65 tr67))) (And.intro (And.intro tr77 (And.intro tr9 tu22)) (And.intro (And.intro tu24 tu3) (And.intro tu4 tu5)))) (And.intro (And.intro (And.intro tu64 (And.intro tu65 tu77)) (And.intro (And.intro tu9 tz22) (And.intro tz24 tz26))) (And.intro (And.intro (And.intro tz3 tz4) (And.intro tz5 tz64)) (And.intro (And.intro tz65 tz67) (And.intro tz77 tz9)))))
theorem drawRV_c (hB : B.length ≤ 1048576) : AC Try.prog 63 [.d (encB B)] none (fun r' _ => r' = .d (.tup [encD (rvC B).1, iD (rvC B).2.1, encB (rvC B).2.2.1, iD (rvC B).2.2.2])) := by
 have hb0 : (newC B).b.length ≤ 1048576 := hB
 have n1 := newC_c hB
 have f1 := fileC_s (newC B) hb0 (fun _ => True)
 have hb1 : (fileC (newC B)).2.b.length ≤ 1048576 := by rw [fileC_b]; exact hb0
 have hfl := fileC_len (newC B)
 have hfd := (fileC_db (newC B)).len
 unfold rvC
 generalize fileC (newC B) = z at f1 hb1 hfl hfd ⊢
 obtain ⟨⟨D, b⟩, c'⟩ := z
 simp only at f1 hb1 hfl hfd ⊢
 have s1 := bel_c (p := fun _ => True) c' hb1 6
 have hb2 : (bel c' 6).2.b.length ≤ 1048576 := by rw [bel_b]; exact hb1
 have a1 := any_c (p := fun _ => True) (bel c' 6).2 hb2
 have x1 := bel_c (p := fun _ => True) (bel c' 6).2 hb2 ((D.length : Int) + 2)
 have y1 := bel_c (p := fun _ => True) (bel c' 6).2 hb2 ((b.length : Int) + 3)
 unfold rvEnd
 simp only
 generalize bel c' 6 = o at s1 a1 x1 y1 hb2 ⊢
 obtain ⟨w, oc⟩ := o
 simp only at s1 a1 x1 y1 hb2 ⊢
 have gx := bel_in oc (n := (D.length : Int) + 2) (by omega)
 have gy := bel_in oc (n := (b.length : Int) + 3) (by omega)
 generalize anyC oc = u at a1 ⊢
 obtain ⟨uD, uc⟩ := u
 generalize bel oc ((D.length : Int) + 2) = x at x1 gx ⊢
 obtain ⟨xn, xc⟩ := x
 generalize bel oc ((b.length : Int) + 3) = y at y1 gy ⊢
 obtain ⟨yn, yc⟩ := y
 simp only at a1 x1 y1 gx gy ⊢
 have e0 : IntKind.i64.wrap ((D.length : Int) - 1) = (D.length : Int) - 1 := wrap_small (by omega) (by omega)
 have e1 : IntKind.i64.wrap ((D.length : Int) + 2) = (D.length : Int) + 2 := wrap_small (by omega) (by omega)
 have e2 : IntKind.i64.wrap ((b.length : Int) + 3) = (b.length : Int) + 3 := wrap_small (by omega) (by omega)
 have e3 : IntKind.i64.wrap (xn - 1) = xn - 1 := wrap_small (by omega) (by omega)
 have e4 : IntKind.i64.wrap (yn - 1) = yn - 1 := wrap_small (by omega) (by omega)
 refine calls_body Try.func63 rfl Try.call63 Try.ntmps63 (by simp) (by simp [ArgsOk]) (by simp [Rz.nkL, Rz.nk]) fun en hsz hks hk0 => ?_; refine enS ?_
 (repeat (first | refine ctlS ?_ | (refine ol_go ?_ (fun K1 hK1 => ?_); exact trS; refine evS ?_; (try simp only [e0]); refine hK1 _ _ ?_; clear hK1 K1) | (refine ow_go ?_ dsS (fun K1 hK1 => ?_); exact trS; refine evS ?_; (try simp only [e0]); refine hK1 _ ?_; clear hK1 K1) | refine skipS ?_ | (refine ol_call1r (k := 32) ?_ rfl (f1) rfl rfl ⟨0, List.mem_cons_self⟩ ?_; exact trS; refine stS1 ?_) | (refine ow_call1d (k := 32) ?_ dsS rfl (f1) rfl rfl ?_; exact trS; refine stS0 ?_) | (refine ol_call1d (k := 32) ?_ rfl (f1) rfl rfl ⟨0, List.mem_cons_self⟩ ?_; exact trS; refine stS0 ?_) | (refine ol_call1r (k := 32) ?_ rfl (s1) rfl rfl ⟨0, List.mem_cons_self⟩ ?_; exact trS; refine stS1 ?_) | (refine ow_call1d (k := 32) ?_ dsS rfl (s1) rfl rfl ?_; exact trS; refine stS0 ?_) | (refine ol_call1d (k := 32) ?_ rfl (s1) rfl rfl ⟨0, List.mem_cons_self⟩ ?_; exact trS; refine stS0 ?_) | (refine callPre ?_; (first | refine callN_funS rfl (n1) ?_)) | (refine callPreL ?_; (first | refine callL_funS rfl (n1) ?_))))
 refine aw_condS rfl (fun h0 => ?_) (fun h0 => ?_)
 ·(repeat (first | refine ctlS ?_ | (refine ol_go ?_ (fun K1 hK1 => ?_); exact trS; refine evS ?_; (try simp only [e1, e3]); refine hK1 _ _ ?_; clear hK1 K1) | (refine ow_go ?_ dsS (fun K1 hK1 => ?_); exact trS; refine evS ?_; (try simp only [e1, e3]); refine hK1 _ ?_; clear hK1 K1) | refine skipS ?_ | (refine ol_call1r (k := 32) ?_ rfl (x1) rfl rfl ⟨0, List.mem_cons_self⟩ ?_; exact trS; refine stS1 ?_) | (refine ow_call1d (k := 32) ?_ dsS rfl (x1) rfl rfl ?_; exact trS; refine stS0 ?_) | (refine ol_call1d (k := 32) ?_ rfl (x1) rfl rfl ⟨0, List.mem_cons_self⟩ ?_; exact trS; refine stS0 ?_)))
  rw [if_pos h0]
  (refine aw_ret ?_; (simp only [Fin, Try.results63]; refine finS ?_); refine ⟨_, [], .inr (.inl ⟨.tup [encD D, iD (xn - 1), encB b, iD 0], rfl, rfl, ?_⟩), List.nodup_nil, rfl⟩; exact wkDS2)
 refine walkS ?_
 refine aw_condS rfl (fun h1 => ?_) (fun h1 => ?_)
 ·(repeat (first | refine ctlS ?_ | (refine ol_go ?_ (fun K1 hK1 => ?_); exact trS; refine evS ?_; (try simp only [e2, e4]); refine hK1 _ _ ?_; clear hK1 K1) | (refine ow_go ?_ dsS (fun K1 hK1 => ?_); exact trS; refine evS ?_; (try simp only [e2, e4]); refine hK1 _ ?_; clear hK1 K1) | refine skipS ?_ | (refine ol_call1r (k := 32) ?_ rfl (y1) rfl rfl ⟨0, List.mem_cons_self⟩ ?_; exact trS; refine stS1 ?_) | (refine ow_call1d (k := 32) ?_ dsS rfl (y1) rfl rfl ?_; exact trS; refine stS0 ?_) | (refine ol_call1d (k := 32) ?_ rfl (y1) rfl rfl ⟨0, List.mem_cons_self⟩ ?_; exact trS; refine stS0 ?_)))
  rw [if_neg h0, if_pos h1]
  (refine aw_ret ?_; (simp only [Fin, Try.results63]; refine finS ?_); refine ⟨_, [], .inr (.inl ⟨.tup [encD D, iD ((D.length : Int) - 1), encB b, iD (yn - 1)], rfl, rfl, ?_⟩), List.nodup_nil, rfl⟩; exact wkDS2)
 refine walkS ?_
 refine aw_condS rfl (fun h2 => ?_) (fun h2 => ?_)
 ·(repeat (first | refine walkS ?_ | (refine ol_call1r (k := 32) ?_ rfl (a1) rfl rfl ⟨0, List.mem_cons_self⟩ ?_; exact trS; refine stS1 ?_) | (refine ow_call1d (k := 32) ?_ dsS rfl (a1) rfl rfl ?_; exact trS; refine stS0 ?_) | (refine ol_call1d (k := 32) ?_ rfl (a1) rfl rfl ⟨0, List.mem_cons_self⟩ ?_; exact trS; refine stS0 ?_)))
  rw [if_neg h0, if_neg h1, if_pos h2]
  (refine aw_ret ?_; (simp only [Fin, Try.results63]; refine finS ?_); refine ⟨_, [], .inr (.inl ⟨.tup [encD uD, iD ((D.length : Int) - 1), encB b, iD 0], rfl, rfl, ?_⟩), List.nodup_nil, rfl⟩; exact wkDS2)
 refine walkS ?_
 rw [if_neg h0, if_neg h1, if_neg h2]
 (refine aw_ret ?_; (simp only [Fin, Try.results63]; refine finS ?_); refine ⟨_, [], .inr (.inl ⟨.tup [encD D, iD ((D.length : Int) - 1), encB b, iD 0], rfl, rfl, ?_⟩), List.nodup_nil, rfl⟩; exact wkDS2)
theorem drawCV_c (hB : B.length ≤ 1048576) : AC Try.prog 21 [.d (encB B)] none (fun r' _ => r' = .d (.tup [encD (rvC B).1, iD (rvC B).2.1, encB (rvC B).2.2.1, iD (rvC B).2.2.2])) := by
 have f1 := drawRV_c hB
 generalize rvC B = z at f1 ⊢
 obtain ⟨D, i, b, p⟩ := z
 simp only at f1 ⊢
 refine calls_body Try.func21 rfl Try.call21 Try.ntmps21 (by simp) (by simp [ArgsOk]) (by simp [Rz.nkL, Rz.nk]) fun en hsz hks hk0 => ?_; refine enS ?_
 (repeat (first | refine walkS ?_ | (refine callPre ?_; (first | refine callN_funS rfl (f1) ?_)) | (refine callPreL ?_; (first | refine callL_funS rfl (f1) ?_))))
 (refine aw_ret ?_; (simp only [Fin, Try.results21]; refine finS ?_); refine ⟨_, [], .inr (.inl ⟨.tup [encD D, iD i, encB b, iD p], rfl, rfl, ?_⟩), List.nodup_nil, rfl⟩; exact wkDS2)
end
end Go.Proofs.Ytodkkldopciagaa.Eng
