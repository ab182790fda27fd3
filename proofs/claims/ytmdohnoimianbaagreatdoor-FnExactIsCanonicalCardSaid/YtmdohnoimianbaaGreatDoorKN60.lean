/-
  Canonical files: both sides.
-/
import Derived.Test.YtmdohnoimianbaaGreatDoorKNRF
import Derived.Test.YtmdohnoimianbaaGreatDoorKNPF
import Derived.Test.YtmdohnoimianbaaGreatDoorKPure16
import Derived.Test.YtmdohnoimianbaaGreatDoorKNE
set_option linter.unusedSimpArgs false
set_option linter.unusedVariables false
set_option linter.defProp false
set_option maxRecDepth 100000
set_option maxHeartbeats 4000000
namespace Go.Proofs.YtmdohnoimianbaaGreatDoor.Eng
open Go Go.RowKit

noncomputable def canR (D : List RuleD) (b : List UInt8) : List UInt8 × Bool := if (readF D b).2.2 = 0 then prR D ((D.length : Int) - 1) (readF D b).1 else ([], false)
theorem canR_len (D : List RuleD) (b : List UInt8) : (canR D b).1.length ≤ 400 := by
  unfold canR
  split
  · exact prR_len _ _ _
  · simp
section
variable {M : Nat} {D : List RuleD} {b : List UInt8}
private def tyF := And.intro (And.intro (And.intro (And.intro (And.intro (And.intro tb25 te25) (And.intro te27 te32)) (And.intro (And.intro te73 te74) (And.intro tf29_0 tf29_1))) (And.intro (And.intro (And.intro tf29_2 tf34_0) (And.intro tf78_0 tf78_1)) (And.intro (And.intro tf78_2 tf78_3) (And.intro tf78_4 tf78_5)))) (And.intro (And.intro (And.intro (And.intro tf78_6 tf78_7) (And.intro tk25 tk27)) (And.intro (And.intro tk29 tk3) (And.intro tk32 tk34))) (And.intro (And.intro (And.intro tk4 tk5) (And.intro tk73 tk74)) (And.intro (And.intro tk78 tk9) (And.intro tp29 (And.intro tp34 tp78)))))) (And.intro (And.intro (And.intro (And.intro (And.intro tr25 tr27) (And.intro tr29 tr3)) (And.intro (And.intro tr32 tr34) (And.intro tr4 tr5))) (And.intro (And.intro (And.intro tr73 tr74) (And.intro tr78 tr9)) (And.intro (And.intro tu25 tu27) (And.intro tu3 tu32)))) (And.intro (And.intro (And.intro (And.intro tu4 tu5) (And.intro tu73 tu74)) (And.intro (And.intro tu9 tz25) (And.intro tz27 tz29))) (And.intro (And.intro (And.intro tz3 tz32) (And.intro tz34 tz4)) (And.intro (And.intro tz5 tz73) (And.intro tz74 (And.intro tz78 tz9))))))
theorem canS_c (hD : DB M D) (hM : M ≤ 1048576) (hb : b.length ≤ 1048576) : AC Tryz.prog 26 [.d (encD D), .d (encB b)] none (fun r' _ => r' = prRz (canR D b)) := by
  have HF := readFile_c hD hM hb
  have HP := printFS_c hD hM (readF_VB (hD.mono hM) hb (by omega)) (readF_tot (D := D) (b := b))
  unfold canR
  generalize readF D b = x at HF HP
  obtain ⟨v, q, c⟩ := x
  simp only at HF HP ⊢
  generalize prR D ((D.length : Int) - 1) v = p at HP
  refine calls_body Tryz.func26 rfl Tryz.call26 Tryz.ntmps26 (by simp) (by simp [ArgsOk]) (by simp [Rz.nkL, Rz.nk]) fun en hsz hks hk0 => ?_; refine enS ?_
  (repeat (first | refine walkS ?_ | (refine callPre ?_; (first | refine callN_funS rfl (HF) ?_)) | (refine callPreL ?_; (first | refine callL_funS rfl (HF) ?_))))
  refine aw_condS rfl (fun hc => ?_) (fun hc => ?_)
  · rw [if_neg (by have : ¬ ((c : Int) = 0) := (by first | exact hc | simpa using hc); omega)]
    refine walkS ?_
    (refine aw_ret ?_; (simp only [Fin, Tryz.results26]; refine finS ?_); exact ⟨_, _, .inl (toZ_tup (toZL_cons (toZ_own (by simp [lk, St.mem])) (toZL_cons toZ_d toZL_nil))), by simp, rfl⟩)
  · rw [if_pos (by have : (c : Int) = 0 := (by first | exact hc | simpa using hc); omega)]
    (repeat (first | refine walkS ?_ | (refine callPre ?_; (first | refine callN_funS rfl (HP) ?_)) | (refine callPreL ?_; (first | refine callL_funS rfl (HP) ?_))))
    (refine aw_ret ?_; (simp only [Fin, Tryz.results26]; refine finS ?_); exact ⟨_, _, .inl (toZ_tup (toZL_cons (toZ_own (by simp [lk, St.mem])) (toZL_cons toZ_d toZL_nil))), by simp, rfl⟩)
theorem canI_c (hD : DB M D) (hM : M ≤ 1048576) (hb : b.length ≤ 1048576) : AC Tryz.prog 27 [.d (encD D), .d (encB b)] none (fun r' _ => r' = prRz (canR D b)) := by
  have HF := readFileI_c hD hM hb
  have HP := printFI_c hD hM (readF_VB (hD.mono hM) hb (by omega)) (readF_tot (D := D) (b := b))
  unfold canR
  generalize readF D b = x at HF HP
  obtain ⟨v, q, c⟩ := x
  simp only at HF HP ⊢
  generalize prR D ((D.length : Int) - 1) v = p at HP
  refine calls_body Tryz.func27 rfl Tryz.call27 Tryz.ntmps27 (by simp) (by simp [ArgsOk]) (by simp [Rz.nkL, Rz.nk]) fun en hsz hks hk0 => ?_; refine enS ?_
  (repeat (first | refine walkS ?_ | (refine callPre ?_; (first | refine callN_funS rfl (HF) ?_)) | (refine callPreL ?_; (first | refine callL_funS rfl (HF) ?_))))
  refine aw_condS rfl (fun hc => ?_) (fun hc => ?_)
  · rw [if_neg (by have : ¬ ((c : Int) = 0) := (by first | exact hc | simpa using hc); omega)]
    refine walkS ?_
    (refine aw_ret ?_; (simp only [Fin, Tryz.results27]; refine finS ?_); exact ⟨_, _, .inl (toZ_tup (toZL_cons (toZ_own (by simp [lk, St.mem])) (toZL_cons toZ_d toZL_nil))), by simp, rfl⟩)
  · rw [if_pos (by have : (c : Int) = 0 := (by first | exact hc | simpa using hc); omega)]
    (repeat (first | refine walkS ?_ | (refine callPre ?_; (first | refine callN_funS rfl (HP) ?_)) | (refine callPreL ?_; (first | refine callL_funS rfl (HP) ?_))))
    (refine aw_ret ?_; (simp only [Fin, Tryz.results27]; refine finS ?_); exact ⟨_, _, .inl (toZ_tup (toZL_cons (toZ_own (by simp [lk, St.mem])) (toZL_cons toZ_d toZL_nil))), by simp, rfl⟩)
noncomputable def isCanP (D : List RuleD) (b : List UInt8) : Bool := if (canR D b).2 = true then b == (canR D b).1 else false
noncomputable def cntRed (D : List RuleD) (b : List UInt8) : Int := if (canR D b).2 = true then (b.length : Int) - (canR D b).1.length else 0
theorem isCanS_c (hD : DB M D) (hM : M ≤ 1048576) (hb : b.length ≤ 1048576) : AC Tryz.prog 24 [.d (encD D), .d (encB b)] none (fun r' _ => r' = .d (bD (isCanP D b))) := by
  have HC := canS_c hD hM hb
  have hl := canR_len D b
  unfold isCanP
  generalize canR D b = x at HC hl
  obtain ⟨l, ok⟩ := x
  simp only at hl ⊢
  have HE := (eqBytesS_c (l := l) (m := b) (by omega) (by omega)).eqv (r1 := .d (bD (b == l))) (by rw [Bool.beq_comm])
  cases ok with
  | false =>
    refine calls_body Tryz.func24 rfl Tryz.call24 Tryz.ntmps24 (by simp) (by simp [ArgsOk]) (by simp [Rz.nkL, Rz.nk]) fun en hsz hks hk0 => ?_; refine enS ?_
    (repeat (first | refine walkS ?_ | (refine callPre ?_; (first | refine callN_funS rfl (HC) ?_ | refine callN_funS rfl (HE) ?_)) | (refine callPreL ?_; (first | refine callL_funS rfl (HC) ?_ | refine callL_funS rfl (HE) ?_))))
    (refine aw_ret ?_; (simp only [Fin, Tryz.results24]; refine finS ?_); exact ⟨_, _, .inl ⟨rfl, rfl⟩, List.nodup_nil, rfl⟩)
  | true =>
    refine calls_body Tryz.func24 rfl Tryz.call24 Tryz.ntmps24 (by simp) (by simp [ArgsOk]) (by simp [Rz.nkL, Rz.nk]) fun en hsz hks hk0 => ?_; refine enS ?_
    (repeat (first | refine walkS ?_ | (refine callPre ?_; (first | refine callN_funS rfl (HC) ?_ | refine callN_funS rfl (HE) ?_)) | (refine callPreL ?_; (first | refine callL_funS rfl (HC) ?_ | refine callL_funS rfl (HE) ?_))))
    (refine aw_ret ?_; (simp only [Fin, Tryz.results24]; refine finS ?_); exact ⟨_, _, .inl ⟨rfl, rfl⟩, List.nodup_nil, rfl⟩)
theorem isCanI_c (hD : DB M D) (hM : M ≤ 1048576) (hb : b.length ≤ 1048576) : AC Tryz.prog 25 [.d (encD D), .d (encB b)] none (fun r' _ => r' = .d (bD (isCanP D b))) := by
  have HC := canI_c hD hM hb
  have hl := canR_len D b
  unfold isCanP
  generalize canR D b = x at HC hl
  obtain ⟨l, ok⟩ := x
  simp only at hl ⊢
  have HE := eqBytesI_c (l := b) (m := l) (by omega) (by omega)
  cases ok with
  | false =>
    refine calls_body Tryz.func25 rfl Tryz.call25 Tryz.ntmps25 (by simp) (by simp [ArgsOk]) (by simp [Rz.nkL, Rz.nk]) fun en hsz hks hk0 => ?_; refine enS ?_
    (repeat (first | refine walkS ?_ | (refine callPre ?_; (first | refine callN_funS rfl (HC) ?_ | refine callN_funS rfl (HE) ?_)) | (refine callPreL ?_; (first | refine callL_funS rfl (HC) ?_ | refine callL_funS rfl (HE) ?_))))
    (refine aw_ret ?_; (simp only [Fin, Tryz.results25]; refine finS ?_); exact ⟨_, _, .inl ⟨rfl, rfl⟩, List.nodup_nil, rfl⟩)
  | true =>
    refine calls_body Tryz.func25 rfl Tryz.call25 Tryz.ntmps25 (by simp) (by simp [ArgsOk]) (by simp [Rz.nkL, Rz.nk]) fun en hsz hks hk0 => ?_; refine enS ?_
    (repeat (first | refine walkS ?_ | (refine callPre ?_; (first | refine callN_funS rfl (HC) ?_ | refine callN_funS rfl (HE) ?_)) | (refine callPreL ?_; (first | refine callL_funS rfl (HC) ?_ | refine callL_funS rfl (HE) ?_))))
    (refine aw_ret ?_; (simp only [Fin, Tryz.results25]; refine finS ?_); exact ⟨_, _, .inl ⟨rfl, rfl⟩, List.nodup_nil, rfl⟩)
theorem cntRedS_c (hD : DB M D) (hM : M ≤ 1048576) (hb : b.length ≤ 1048576) : AC Tryz.prog 22 [.d (encD D), .d (encB b)] none (fun r' _ => r' = .d (iD (cntRed D b))) := by
  have HC := canS_c hD hM hb
  have hl := canR_len D b
  unfold cntRed
  generalize canR D b = x at HC hl
  obtain ⟨l, ok⟩ := x
  simp only at hl ⊢
  cases ok with
  | false =>
    refine calls_body Tryz.func22 rfl Tryz.call22 Tryz.ntmps22 (by simp) (by simp [ArgsOk]) (by simp [Rz.nkL, Rz.nk]) fun en hsz hks hk0 => ?_; refine enS ?_
    (repeat (first | refine walkS ?_ | (refine callPre ?_; (first | refine callN_funS rfl (HC) ?_)) | (refine callPreL ?_; (first | refine callL_funS rfl (HC) ?_))))
    refine aw_condS rfl (fun hc => ?_) (fun hc => ?_)
    · refine walkS ?_
      (refine aw_ret ?_; (simp only [Fin, Tryz.results22]; refine finS ?_); exact ⟨_, _, .inl ⟨rfl, rfl⟩, List.nodup_nil, rfl⟩)
    · (first | exact absurd trivial hc | exact absurd rfl hc | (cases hc; done) | omega | exact absurd hc (by decide) | (simp at hc; done))
  | true =>
    refine calls_body Tryz.func22 rfl Tryz.call22 Tryz.ntmps22 (by simp) (by simp [ArgsOk]) (by simp [Rz.nkL, Rz.nk]) fun en hsz hks hk0 => ?_; refine enS ?_
    (repeat (first | refine walkS ?_ | (refine callPre ?_; (first | refine callN_funS rfl (HC) ?_)) | (refine callPreL ?_; (first | refine callL_funS rfl (HC) ?_))))
    refine aw_condS rfl (fun hc => ?_) (fun hc => ?_)
    · (first | exact absurd trivial hc | exact absurd rfl hc | (cases hc; done) | omega | exact absurd hc (by decide) | (simp at hc; done))
    · refine walkS ?_
      (refine aw_ret ?_; (simp only [Fin, Tryz.results22]; refine finS ?_); exact ⟨_, _, .inl ⟨rfl, rfl⟩, List.nodup_nil, rfl⟩)
theorem cntRedI_c (hD : DB M D) (hM : M ≤ 1048576) (hb : b.length ≤ 1048576) : AC Tryz.prog 23 [.d (encD D), .d (encB b)] none (fun r' _ => r' = .d (iD (cntRed D b))) := by
  have HC := canI_c hD hM hb
  have hl := canR_len D b
  unfold cntRed
  generalize canR D b = x at HC hl
  obtain ⟨l, ok⟩ := x
  simp only at hl ⊢
  cases ok with
  | false =>
    refine calls_body Tryz.func23 rfl Tryz.call23 Tryz.ntmps23 (by simp) (by simp [ArgsOk]) (by simp [Rz.nkL, Rz.nk]) fun en hsz hks hk0 => ?_; refine enS ?_
    (repeat (first | refine walkS ?_ | (refine callPre ?_; (first | refine callN_funS rfl (HC) ?_)) | (refine callPreL ?_; (first | refine callL_funS rfl (HC) ?_))))
    refine aw_condS rfl (fun hc => ?_) (fun hc => ?_)
    · refine walkS ?_
      (refine aw_ret ?_; (simp only [Fin, Tryz.results23]; refine finS ?_); exact ⟨_, _, .inl ⟨rfl, rfl⟩, List.nodup_nil, rfl⟩)
    · (first | exact absurd trivial hc | exact absurd rfl hc | (cases hc; done) | omega | exact absurd hc (by decide) | (simp at hc; done))
  | true =>
    refine calls_body Tryz.func23 rfl Tryz.call23 Tryz.ntmps23 (by simp) (by simp [ArgsOk]) (by simp [Rz.nkL, Rz.nk]) fun en hsz hks hk0 => ?_; refine enS ?_
    (repeat (first | refine walkS ?_ | (refine callPre ?_; (first | refine callN_funS rfl (HC) ?_)) | (refine callPreL ?_; (first | refine callL_funS rfl (HC) ?_))))
    refine aw_condS rfl (fun hc => ?_) (fun hc => ?_)
    · (first | exact absurd trivial hc | exact absurd rfl hc | (cases hc; done) | omega | exact absurd hc (by decide) | (simp at hc; done))
    · refine walkS ?_
      (refine aw_ret ?_; (simp only [Fin, Tryz.results23]; refine finS ?_); exact ⟨_, _, .inl ⟨rfl, rfl⟩, List.nodup_nil, rfl⟩)
end
end Go.Proofs.YtmdohnoimianbaaGreatDoor.Eng
