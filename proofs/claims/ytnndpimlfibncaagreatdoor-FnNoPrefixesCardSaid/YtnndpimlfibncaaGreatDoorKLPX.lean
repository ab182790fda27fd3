/-
  Plain law: no file is the beginning of another one.

  The law: FnNoPrefixes.
-/
import Derived.Test.YtnndpimlfibncaaGreatDoorKPLP
import Derived.Test.YtnndpimlfibncaaGreatDoorKPP1
import Derived.Test.YtnndpimlfibncaaGreatDoorKNDC
set_option linter.unusedSimpArgs false
set_option linter.unusedVariables false
set_option linter.defProp false
set_option maxRecDepth 100000
set_option maxHeartbeats 4000000
namespace Go.Proofs.YtnndpimlfibncaaGreatDoor.Eng
open Go.RowKit

section
variable {D : List RuleD} {b : List UInt8}
theorem file_rd (hV : vDesc D = true) (hl : 0 < D.length) (hb : b.length ≤ 400) (h : fileP D b = true) : ∃ v, rd D b D.length (D.length - 1) 0 = (v, b.length, 0) := by
  have hr : (D.length : Int) - 1 = ((D.length - 1 : Nat) : Int) := by omega
  have hrd := readV_at (b := b) (p := 0) hV (i := D.length - 1) (by omega) (Nat.zero_le _) hb
  have hin := (rd_in D b D.length (D.length - 1) 0 (Nat.zero_le _)).2
  unfold fileP readF at h
  rw [hr, show (0 : Int) = ((0 : Nat) : Int) from rfl, hrd] at h
  generalize rd D b D.length (D.length - 1) 0 = z at h hin
  obtain ⟨v, n, c⟩ := z
  simp only at h hin
  split at h
  · simp at h
  · rename_i hc
    simp only [beq_iff_eq] at h
    have h0 : c = 0 := by omega
    subst h0
    have hc' : ¬ n < b.length := fun h => hc ⟨rfl, h⟩
    have : n = b.length := by omega
    rw [this]
    exact ⟨v, rfl⟩
theorem file_one (hV : vDesc D = true) (hl : 0 < D.length) (hb : b.length ≤ 400) {m n : Nat} (hmn : m < n) (hn : n ≤ b.length) (h1 : fileP D (b.take m) = true) : fileP D (b.take n) = false := by
  cases h2 : fileP D (b.take n) with
  | false => rfl
  | true =>
    exfalso
    have l1 : (b.take m).length = m := by rw [List.length_take]; omega
    have l2 : (b.take n).length = n := by rw [List.length_take]; omega
    obtain ⟨v, e1⟩ := file_rd hV hl (by omega) h1
    obtain ⟨v', e2⟩ := file_rd hV hl (by omega) h2
    have e3 := rd_ext (D := D) (B := b.take n) (n := m) (by omega) D.length (D.length - 1) 0 (Nat.zero_le _) (by
      rw [List.take_take, Nat.min_eq_left (by omega), e1]; simp)
    rw [List.take_take, Nat.min_eq_left (by omega), e1, e2, l1, l2] at e3
    have := congrArg (fun z => z.2.1) e3
    simp only at this
    omega
noncomputable def cntF (D : List RuleD) (b : List UInt8) : Nat → Nat
  | 0 => 0
  | k + 1 => cntF D b k + (if fileP D (b.take k) = true then 1 else 0)
theorem cntF_one (hV : vDesc D = true) (hl : 0 < D.length) (hb : b.length ≤ 400) : ∀ k, k ≤ b.length + 1 → cntF D b k ≤ 1 ∧ (∀ j, j < k → fileP D (b.take j) = true → cntF D b k = 1) ∧ (cntF D b k = 1 → ∃ j, j < k ∧ fileP D (b.take j) = true)
  | 0, _ => ⟨by unfold cntF; omega, fun j h => by omega, fun h => by unfold cntF at h; omega⟩
  | k + 1, hk => by
    obtain ⟨a1, a2, a3⟩ := cntF_one hV hl hb k (by omega)
    unfold cntF
    by_cases hf : fileP D (b.take k) = true
    · rw [if_pos hf]
      have h0 : cntF D b k = 0 := by
        by_cases h1 : cntF D b k = 1
        · obtain ⟨j, hj, hfj⟩ := a3 h1
          rw [file_one hV hl hb hj (by omega) hfj] at hf
          cases hf
        · omega
      rw [h0]
      exact ⟨by omega, fun j hj hfj => by omega, fun _ => ⟨k, by omega, hf⟩⟩
    · rw [if_neg hf]
      refine ⟨by omega, fun j hj hfj => ?_, fun h => ?_⟩
      · by_cases e : j = k
        · subst e; exact absurd hfj hf
        · have := a2 j (by omega) hfj; omega
      · obtain ⟨j, hj, hfj⟩ := a3 (by omega)
        exact ⟨j, by omega, hfj⟩
end
end Go.Proofs.YtnndpimlfibncaaGreatDoor.Eng
namespace Go.Proofs.YtnndpimlfibncaaGreatDoor.Eng
open Go Go.RowKit

private def tyF := And.intro (And.intro (And.intro (And.intro (And.intro tb22 (And.intro te22 te24)) (And.intro te55 (And.intro te75 tf26_0))) (And.intro (And.intro tf77_0 (And.intro tf77_1 tf77_2)) (And.intro (And.intro tf77_3 tf77_4) (And.intro tf77_5 tf77_6)))) (And.intro (And.intro (And.intro tf77_7 (And.intro tk22 tk24)) (And.intro (And.intro tk26 tk3) (And.intro tk4 tk5))) (And.intro (And.intro tk55 (And.intro tk75 tk77)) (And.intro (And.intro tk9 tp26) (And.intro tp77 tr22))))) (And.intro (And.intro (And.intro (And.intro tr24 (And.intro tr26 tr3)) (And.intro tr4 (And.intro tr5 tr55))) (And.intro (And.intro tr75 (And.intro tr77 tr9)) (And.intro (And.intro tu22 tu24) (And.intro tu3 tu4)))) (And.intro (And.intro (And.intro tu5 (And.intro tu55 tu75)) (And.intro (And.intro tu9 tz22) (And.intro tz24 tz26))) (And.intro (And.intro tz3 (And.intro tz4 tz5)) (And.intro (And.intro tz55 tz75) (And.intro tz77 tz9)))))
theorem bigN_c (B : List UInt8) : AC Tryz.prog 7 [.d (encB B)] none (fun r' _ => r' = .d (bD (decide ((1048576 : Int) < B.length)))) := by
  refine calls_body Tryz.func7 rfl Tryz.call7 Tryz.ntmps7 (by simp) (by simp [ArgsOk]) (by simp [Rz.nkL, Rz.nk]) fun en hsz hks hk0 => ?_; refine enS ?_
  refine walkS ?_
  (refine aw_ret ?_; (simp only [Fin, Tryz.results7]; refine finS ?_); exact ⟨_, _, .inl ⟨rfl, rfl⟩, List.nodup_nil, rfl⟩)
theorem lawNoPrefixes_c (B : List UInt8) : AC Tryz.prog 3 [.d (encB B)] none (fun r' _ => r' = .d (bD true)) := by
  by_cases h0 : (1048576 : Int) < B.length
  · have b1 := bigN_c B
    rw [decide_eq_true h0] at b1
    refine calls_body Tryz.func3 rfl Tryz.call3 Tryz.ntmps3 (by simp) (by simp [ArgsOk]) (by simp [Rz.nkL, Rz.nk]) fun en hsz hks hk0 => ?_; refine enS ?_
    (repeat (first | refine walkS ?_ | (refine callPre ?_; (first | refine callN_funS rfl (b1) ?_)) | (refine callPreL ?_; (first | refine callL_funS rfl (b1) ?_))))
    refine aw_condS rfl (fun hc => ?_) (fun hc => ?_)
    · refine walkS ?_
      (refine aw_ret ?_; (simp only [Fin, Tryz.results3]; refine finS ?_); exact ⟨_, _, .inl ⟨rfl, rfl⟩, List.nodup_nil, rfl⟩)
    · (first | exact absurd trivial hc | exact absurd rfl hc | (cases hc; done) | omega | exact absurd hc (by decide) | (simp at hc; done))
  have b1 := bigN_c B
  rw [decide_eq_false h0] at b1
  have hB : B.length ≤ 1048576 := by omega
  have V1 := drawF_c hB
  rw [fileC_1] at V1
  have hI := descC_inv (newC B)
  have hP := descC_ok (newC B)
  have hDB := descC_db8 (newC B)
  generalize (fileC (newC B)).1.2 = b at *
  generalize (descC (newC B)).1 = D at *
  have hl1 := hI.1.len
  have hV : vDesc D = true := vDesc_yes hP
  by_cases hlen : (100 : Int) < b.length
  · have d1 : decide ((100 : Int) < (b.length : Int)) = true := decide_eq_true hlen
    refine calls_body Tryz.func3 rfl Tryz.call3 Tryz.ntmps3 (by simp) (by simp [ArgsOk]) (by simp [Rz.nkL, Rz.nk]) fun en hsz hks hk0 => ?_; refine enS ?_
    (repeat (first | refine ctlS ?_ | (refine ol_go ?_ (fun K1 hK1 => ?_); (first | exact trivial | exact rfl); refine evS ?_; (try simp only [d1]); refine hK1 _ _ ?_; clear hK1 K1) | (refine ow_go ?_ (fun x hx => by cases hx <;> (rw [hsz]; decide)) (fun K1 hK1 => ?_); (first | exact trivial | exact rfl); refine evS ?_; (try simp only [d1]); refine hK1 _ ?_; clear hK1 K1) | refine skipS ?_ | (refine callPre ?_; (first | refine callN_funS rfl (b1) ?_ | refine callN_funS rfl (V1) ?_)) | (refine callPreL ?_; (first | refine callL_funS rfl (b1) ?_ | refine callL_funS rfl (V1) ?_))))
    refine aw_condS rfl (fun hc => ?_) (fun hc => ?_)
    · (first | exact absurd trivial hc | exact absurd rfl hc | (cases hc; done) | omega | exact absurd hc (by decide) | (simp at hc; done))
    · (repeat (first | refine ctlS ?_ | (refine ol_go ?_ (fun K1 hK1 => ?_); (first | exact trivial | exact rfl); refine evS ?_; (try simp only [d1]); refine hK1 _ _ ?_; clear hK1 K1) | (refine ow_go ?_ (fun x hx => by cases hx <;> (rw [hsz]; decide)) (fun K1 hK1 => ?_); (first | exact trivial | exact rfl); refine evS ?_; (try simp only [d1]); refine hK1 _ ?_; clear hK1 K1) | refine skipS ?_ | (refine callPre ?_; (first | refine callN_funS rfl (V1) ?_)) | (refine callPreL ?_; (first | refine callL_funS rfl (V1) ?_))))
      refine aw_condS rfl (fun hc => ?_) (fun hc => ?_)
      · refine walkS ?_
        (refine aw_ret ?_; (simp only [Fin, Tryz.results3]; refine finS ?_); exact ⟨_, _, .inl ⟨rfl, rfl⟩, List.nodup_nil, rfl⟩)
      · (first | exact absurd trivial hc | exact absurd rfl hc | (cases hc; done) | omega | exact absurd hc (by decide) | (simp at hc; done))
  have d1 : decide ((100 : Int) < (b.length : Int)) = false := decide_eq_false hlen
  have F1 := isFileI_c hDB (Nat.le_refl _) (b := b) (by omega)
  have F2 := isFileS_c hDB (Nat.le_refl _) (b := b) (by omega)
  have w1 : (!(fileP D b == fileP D b)) = false := by simp
  have w2 : ((!fileP D b) == fileP D b) = false := by cases fileP D b <;> rfl
  have c1 := cntF_one hV (by omega) (b := b) (by omega)
  refine calls_body Tryz.func3 rfl Tryz.call3 Tryz.ntmps3 (by simp) (by simp [ArgsOk]) (by simp [Rz.nkL, Rz.nk]) fun en hsz hks hk0 => ?_; refine enS ?_
  (repeat (first | refine ctlS ?_ | (refine ol_go ?_ (fun K1 hK1 => ?_); (first | exact trivial | exact rfl); refine evS ?_; (try simp only [d1]); refine hK1 _ _ ?_; clear hK1 K1) | (refine ow_go ?_ (fun x hx => by cases hx <;> (rw [hsz]; decide)) (fun K1 hK1 => ?_); (first | exact trivial | exact rfl); refine evS ?_; (try simp only [d1]); refine hK1 _ ?_; clear hK1 K1) | refine skipS ?_ | (refine callPre ?_; (first | refine callN_funS rfl (b1) ?_ | refine callN_funS rfl (V1) ?_)) | (refine callPreL ?_; (first | refine callL_funS rfl (b1) ?_ | refine callL_funS rfl (V1) ?_)) | refine aw_condT rfl ?_ | refine aw_condF rfl ?_))
  (repeat (first | refine ctlS ?_ | (refine ol_go ?_ (fun K1 hK1 => ?_); (first | exact trivial | exact rfl); refine evS ?_; (try simp only [w1, w2]); refine hK1 _ _ ?_; clear hK1 K1) | (refine ow_go ?_ (fun x hx => by cases hx <;> (rw [hsz]; decide)) (fun K1 hK1 => ?_); (first | exact trivial | exact rfl); refine evS ?_; (try simp only [w1, w2]); refine hK1 _ ?_; clear hK1 K1) | refine skipS ?_ | (refine callPre ?_; (first | refine callN_funS rfl (F1) ?_ | refine callN_funS rfl (F2) ?_)) | (refine callPreL ?_; (first | refine callL_funS rfl (F1) ?_ | refine callL_funS rfl (F2) ?_))))
  refine aw_condS rfl (fun hc => ?_) (fun hc => ?_)
  · exfalso
    revert hc
    cases fileP D b <;> simp
  · refine walkS ?_
    refine aw_loopS [2, 3, 4] (fun _ _ => []) (fun _ k => [(5, .d (iD (cntF D b k : Nat))), (6, .d (iD (k : Nat)))]) [] (fun _ _ => []) [] (fun _ _ => []) (fun k : Nat => k ≤ b.length + 1) (fun k => b.length + 1 - k) (0) hks (fun _ => rfl) (Nat.zero_le _) wkS ?_; intro x hx; refine headS ?_
    have hx1 : x ≤ b.length + 1 := hx
    have F3 := isFileI_c hDB (Nat.le_refl _) (b := b.take x) (by rw [List.length_take]; omega)
    have hcx := c1 x hx1
    refine walkS ?_
    refine aw_condS rfl (fun hk => ?_) (fun hk => ?_)
    · have hxb : x ≤ b.length := by omega
      have e3 : IntKind.i64.wrap ((x : Int) + 1) = ((x + 1 : Nat) : Int) := by rw [wrap_small (by omega) (by omega)]; omega
      (repeat (first | refine ctlS ?_ | (refine ol_go ?_ (fun K1 hK1 => ?_); (first | exact trivial | exact rfl); refine evS ?_; (try simp only [Nat.sub_zero, Int.toNat_natCast]); refine hK1 _ _ ?_; clear hK1 K1) | (refine ow_go ?_ (fun x hx => by cases hx <;> (rw [hsz]; decide)) (fun K1 hK1 => ?_); (first | exact trivial | exact rfl); refine evS ?_; (try simp only [Nat.sub_zero, Int.toNat_natCast]); refine hK1 _ ?_; clear hK1 K1) | refine skipS ?_ | (refine callPre ?_; (first | refine callN_funS rfl (F3) ?_)) | (refine callPreL ?_; (first | refine callL_funS rfl (F3) ?_))))
      refine aw_condS rfl (fun hf => ?_) (fun hf => ?_)
      · have e4 : cntF D b (x + 1) = cntF D b x + 1 := by rw [cntF, if_pos hf]
        have e5 : IntKind.i64.wrap ((cntF D b x : Int) + 1) = ((cntF D b (x + 1) : Nat) : Int) := by rw [wrap_small (by omega) (by omega), e4]; omega
        have e6 : ((cntF D b x : Nat) : Int) + 1 = ((cntF D b (x + 1) : Nat) : Int) := by rw [e4]; omega
        (repeat (first | refine ctlS ?_ | (refine ol_go ?_ (fun K1 hK1 => ?_); (first | exact trivial | exact rfl); refine evS ?_; (try simp only [e3, e5, e6]); refine hK1 _ _ ?_; clear hK1 K1) | (refine ow_go ?_ (fun x hx => by cases hx <;> (rw [hsz]; decide)) (fun K1 hK1 => ?_); (first | exact trivial | exact rfl); refine evS ?_; (try simp only [e3, e5, e6]); refine hK1 _ ?_; clear hK1 K1) | refine skipS ?_))
        refine ⟨x + 1, by show x + 1 ≤ b.length + 1; omega, by omega, ?_⟩
        exact wkS
      · have e4 : cntF D b (x + 1) = cntF D b x := by rw [cntF, if_neg (by rw [hf]; decide)]; rfl
        (repeat (first | refine ctlS ?_ | (refine ol_go ?_ (fun K1 hK1 => ?_); (first | exact trivial | exact rfl); refine evS ?_; (try simp only [e3]); refine hK1 _ _ ?_; clear hK1 K1) | (refine ow_go ?_ (fun x hx => by cases hx <;> (rw [hsz]; decide)) (fun K1 hK1 => ?_); (first | exact trivial | exact rfl); refine evS ?_; (try simp only [e3]); refine hK1 _ ?_; clear hK1 K1) | refine skipS ?_))
        refine ⟨x + 1, by show x + 1 ≤ b.length + 1; omega, by omega, ?_⟩
        rw [e4]
        exact wkS
    · have d2 : decide ((cntF D b x : Int) ≤ 1) = true := decide_eq_true (by have := hcx.1; omega)
      (repeat (first | refine ctlS ?_ | (refine ol_go ?_ (fun K1 hK1 => ?_); (first | exact trivial | exact rfl); refine evS ?_; (try simp only [d2]); refine hK1 _ _ ?_; clear hK1 K1) | (refine ow_go ?_ (fun x hx => by cases hx <;> (rw [hsz]; decide)) (fun K1 hK1 => ?_); (first | exact trivial | exact rfl); refine evS ?_; (try simp only [d2]); refine hK1 _ ?_; clear hK1 K1) | refine skipS ?_))
      (refine aw_ret ?_; (simp only [Fin, Tryz.results3]; refine finS ?_); exact ⟨_, _, .inl ⟨rfl, rfl⟩, List.nodup_nil, rfl⟩)
end Go.Proofs.YtnndpimlfibncaaGreatDoor.Eng
