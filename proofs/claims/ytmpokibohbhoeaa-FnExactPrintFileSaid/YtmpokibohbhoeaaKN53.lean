/-
  PrintFile: both sides.
-/
import Derived.Test.YtmpokibohbhoeaaKN52
import Derived.Test.YtmpokibohbhoeaaKN40
set_option linter.unusedSimpArgs false
set_option linter.unusedVariables false
set_option linter.defProp false
namespace Go.Proofs.Ytmpokibohbhoeaa.Eng
open Go Go.RowKit

section
variable {M : Nat} {D : List RuleD}
private def tyF := And.intro (And.intro (And.intro (And.intro (And.intro (And.intro tb22 te106) (And.intro te107 te22)) (And.intro (And.intro te24 te42) (And.intro tf109_0 tf109_1))) (And.intro (And.intro (And.intro tf109_2 tf109_3) (And.intro tf109_4 tf109_5)) (And.intro (And.intro tf109_6 tf109_7) (And.intro tf26_0 tf44_0)))) (And.intro (And.intro (And.intro (And.intro tf44_1 tf44_2) (And.intro tk106 tk107)) (And.intro (And.intro tk109 tk22) (And.intro tk24 tk26))) (And.intro (And.intro (And.intro tk3 tk4) (And.intro tk42 tk44)) (And.intro (And.intro tk5 tk9) (And.intro tp109 (And.intro tp26 tp44)))))) (And.intro (And.intro (And.intro (And.intro (And.intro tr106 tr107) (And.intro tr109 tr22)) (And.intro (And.intro tr24 tr26) (And.intro tr3 tr4))) (And.intro (And.intro (And.intro tr42 tr44) (And.intro tr5 tr9)) (And.intro (And.intro tu106 tu107) (And.intro tu22 tu24)))) (And.intro (And.intro (And.intro (And.intro tu3 tu4) (And.intro tu42 tu5)) (And.intro (And.intro tu9 tz106) (And.intro tz107 tz109))) (And.intro (And.intro (And.intro tz22 tz24) (And.intro tz26 tz3)) (And.intro (And.intro tz4 tz42) (And.intro tz44 (And.intro tz5 tz9))))))
set_option maxRecDepth 100000 in
set_option maxHeartbeats 1000000 in
theorem printFS_c (hD : DB M D) (hM : M ≤ 1048576) {v : V} (hv : VB 1048576 v) (ht : totV v ≤ 1048576) : AC Try.prog 44 [.d (encD D), .d (encV v)] none (fun r' _ => r' = prRz (prR D ((D.length : Int) - 1) v)) := by
  have HP := printVS_c hD hM ((D.length : Int) - 1) hv ht
  generalize prR D ((D.length : Int) - 1) v = q at HP
  obtain ⟨n, bs, vs⟩ := v
  rw [encV_mk, encVs_eq] at HP ⊢
  refine calls_body Try.func44 rfl Try.call44 Try.ntmps44 (by simp) (by simp [ArgsOk]) (by simp [Rz.nkL, Rz.nk]) fun en hsz hks hk0 => ?_; simp only [St.init, frOf, Rz.addSL, Rz.addS, Rz.toAL, Rz.toA, Rz.nk, List.zipIdx_cons, List.zipIdx_nil, List.map_cons, List.map_nil, Nat.zero_add, Nat.reduceAdd]
  (repeat (first | refine walkS ?_ | (refine callPre ?_; (first | refine callN_funS rfl (rootS_c hD hM) ?_ | refine callN_funS rfl (HP) ?_)) | (refine callPreL ?_; (first | refine callL_funS rfl (rootS_c hD hM) ?_ | refine callL_funS rfl (HP) ?_))))
  (refine aw_ret ?_; (simp only [Fin, Try.results44]; refine finS ?_); exact ⟨_, _, .inl (toZ_tup (toZL_cons (toZ_own (by simp [lk, St.mem])) (toZL_cons toZ_d toZL_nil))), by simp, rfl⟩)
set_option maxRecDepth 100000 in
set_option maxHeartbeats 1000000 in
theorem printFI_c (hD : DB M D) (hM : M ≤ 1048576) {v : V} (hv : VB 1048576 v) (ht : totV v ≤ 1048576) : AC Try.prog 45 [.d (encD D), .d (encV v)] none (fun r' _ => r' = prRz (prR D ((D.length : Int) - 1) v)) := by
  have HP := printVI_c hD hM ((D.length : Int) - 1) hv ht
  generalize prR D ((D.length : Int) - 1) v = q at HP
  obtain ⟨n, bs, vs⟩ := v
  rw [encV_mk, encVs_eq] at HP ⊢
  refine calls_body Try.func45 rfl Try.call45 Try.ntmps45 (by simp) (by simp [ArgsOk]) (by simp [Rz.nkL, Rz.nk]) fun en hsz hks hk0 => ?_; simp only [St.init, frOf, Rz.addSL, Rz.addS, Rz.toAL, Rz.toA, Rz.nk, List.zipIdx_cons, List.zipIdx_nil, List.map_cons, List.map_nil, Nat.zero_add, Nat.reduceAdd]
  (repeat (first | refine walkS ?_ | (refine callPre ?_; (first | refine callN_funS rfl (rootI_c hD hM) ?_ | refine callN_funS rfl (HP) ?_)) | (refine callPreL ?_; (first | refine callL_funS rfl (rootI_c hD hM) ?_ | refine callL_funS rfl (HP) ?_))))
  (refine aw_ret ?_; (simp only [Fin, Try.results45]; refine finS ?_); exact ⟨_, _, .inl (toZ_tup (toZL_cons (toZ_own (by simp [lk, St.mem])) (toZL_cons toZ_d toZL_nil))), by simp, rfl⟩)
end
end Go.Proofs.Ytmpokibohbhoeaa.Eng
