/-
  The law: FnParsing.
-/
import Derived.Test.YtnndpimlfibncaaDoorKNDB
import Derived.Test.YtnndpimlfibncaaDoorKPP1
import Derived.Test.YtnndpimlfibncaaDoorKNES
import Derived.Test.YtnndpimlfibncaaDoorKNPS
set_option linter.unusedSimpArgs false
set_option linter.unusedVariables false
set_option linter.defProp false
set_option maxRecDepth 100000
set_option maxHeartbeats 4000000
namespace Go.Proofs.YtnndpimlfibncaaDoor.Eng
open Go Go.RowKit

private def tyF := And.intro (And.intro (And.intro (And.intro (And.intro (And.intro tb22 te22) (And.intro te24 te27)) (And.intro (And.intro te85 te86) (And.intro tf26_0 tf29_0))) (And.intro (And.intro (And.intro tf29_1 tf29_2) (And.intro tf88_0 tf88_1)) (And.intro (And.intro tf88_2 tf88_3) (And.intro tf88_4 tf88_5)))) (And.intro (And.intro (And.intro (And.intro tf88_6 tf88_7) (And.intro tk22 tk24)) (And.intro (And.intro tk26 tk27) (And.intro tk29 tk3))) (And.intro (And.intro (And.intro tk4 tk5) (And.intro tk85 tk86)) (And.intro (And.intro tk88 tk9) (And.intro tp26 (And.intro tp29 tp88)))))) (And.intro (And.intro (And.intro (And.intro (And.intro tr22 tr24) (And.intro tr26 tr27)) (And.intro (And.intro tr29 tr3) (And.intro tr4 tr5))) (And.intro (And.intro (And.intro tr85 tr86) (And.intro tr88 tr9)) (And.intro (And.intro tu22 tu24) (And.intro tu27 tu3)))) (And.intro (And.intro (And.intro (And.intro tu4 tu5) (And.intro tu85 tu86)) (And.intro (And.intro tu9 tz22) (And.intro tz24 tz26))) (And.intro (And.intro (And.intro tz27 tz29) (And.intro tz3 tz4)) (And.intro (And.intro tz5 tz85) (And.intro tz86 (And.intro tz88 tz9))))))
theorem big_c (B : List UInt8) : AC Tryd.prog 5 [.d (encB B)] none (fun r' _ => r' = .d (bD (decide ((1048576 : Int) < B.length)))) := by
  refine calls_body Tryd.func5 rfl Tryd.call5 Tryd.ntmps5 (by simp) (by simp [ArgsOk]) (by simp [Rz.nkL, Rz.nk]) fun en hsz hks hk0 => ?_; refine enS ?_
  refine walkS ?_
  (refine aw_ret ?_; (simp only [Fin, Tryd.results5]; refine finS ?_); exact ⟨_, _, .inl ⟨rfl, rfl⟩, List.nodup_nil, rfl⟩)
theorem lawParsing_c (B : List UInt8) : AC Tryd.prog 3 [.d (encB B)] none (fun r' _ => r' = .d (bD true)) := by
  by_cases h0 : (1048576 : Int) < B.length
  · have b1 := big_c B
    rw [decide_eq_true h0] at b1
    refine calls_body Tryd.func3 rfl Tryd.call3 Tryd.ntmps3 (by simp) (by simp [ArgsOk]) (by simp [Rz.nkL, Rz.nk]) fun en hsz hks hk0 => ?_; refine enS ?_
    (repeat (first | refine walkS ?_ | (refine callPre ?_; (first | refine callN_funS rfl (b1) ?_)) | (refine callPreL ?_; (first | refine callL_funS rfl (b1) ?_))))
    refine aw_condS rfl (fun hc => ?_) (fun hc => ?_)
    · refine walkS ?_
      (refine aw_ret ?_; (simp only [Fin, Tryd.results3]; refine finS ?_); exact ⟨_, _, .inl ⟨rfl, rfl⟩, List.nodup_nil, rfl⟩)
    · (first | exact absurd trivial hc | exact absurd rfl hc | (cases hc; done) | omega | exact absurd hc (by decide) | (simp at hc; done))
  have b1 := big_c B
  rw [decide_eq_false h0] at b1
  have hB : B.length ≤ 1048576 := by omega
  have V1 := drawV_c hB
  have hI := descC_inv (newC B)
  have hP := descC_ok (newC B)
  have hDB := descC_db (newC B)
  have sz := sizC_in hB
  have hv := drawn_v (newC B) (4 + sizC B 8) (by omega)
  obtain ⟨D, hDe⟩ : ∃ D, D = (descC (newC B)).1 := ⟨_, rfl⟩
  obtain ⟨v, hve⟩ : ∃ v, v = valC B := ⟨_, rfl⟩
  unfold valC at hve
  rw [← hDe] at hI hP hDB hve hv
  rw [← hve] at hv
  rw [← hDe, show valC B = v by rw [hve, hDe]; rfl] at V1
  have hl1 := hI.1.len
  have hV : vDesc D = true := vDesc_yes hP
  have hr : (D.length : Int) - 1 = ((D.length - 1 : Nat) : Int) := by omega
  have ht : totV v ≤ 1048576 := by
    have h1 := hv.tot
    have h2 := tV_le hI.2
    omega
  have P1 := printFS_d hDB (Nat.le_refl _) hv.vb ht
  have e1 : IntKind.i64.wrap ((D.length : Int) - 1) = (D.length : Int) - 1 := wrap_small (by omega) (by omega)
  have hisv : isVal D ((D.length : Int) - 1) v = true := by
    unfold isVal
    rw [vKnown_of hV (by omega), hr, hv.ok]
    rfl
  by_cases hlen : (prV D ((D.length : Int) - 1) v).length ≤ 392
  · obtain ⟨r1, r2, r3, r4, r5⟩ := printed_read hV hP (i := D.length - 1) (by omega) hr hv.ok (by rw [← hr]; exact hlen)
    rw [prR_t hisv (by omega)] at P1
    rw [← hr] at r1 r2 r3 r4 r5
    generalize hb : prV D ((D.length : Int) - 1) v = b at *
    have F1 := readFileI_c hDB (Nat.le_refl _) (b := b) (by omega)
    rw [r1] at F1
    have F2 := readValueI_c hDB (Nat.le_refl _) (b := [1, 2, 3] ++ b ++ [9, 9]) (by simp; omega) ((D.length : Int) - 1) 3
    rw [r2 [1, 2, 3] [9, 9] rfl rfl] at F2
    have F3 := readFileI_c hDB (Nat.le_refl _) (b := b ++ [0]) (by simp; omega)
    have F4 := readFileI_c hDB (Nat.le_refl _) (b := b.take (b.length - 1)) (by simp; omega)
    have F5 := isFileI_c hDB (Nat.le_refl _) (b := b) (by omega)
    have f5 : fileP D b = true := by unfold fileP; rw [r1]; rfl
    rw [f5] at F5
    have E1 := eqValS_c hv.vb hv.vb
    rw [eqV_refl v] at E1
    have r3' := r3 0
    generalize readF D (b ++ [0]) = z3 at F3 r3'
    generalize readF D (b.take (b.length - 1)) = z4 at F4 r4
    obtain ⟨v3, n3, c3⟩ := z3
    obtain ⟨v4, n4, c4⟩ := z4
    simp only at r3' r4
    subst r3'
    have hb2 : b.length ≤ 392 := hlen
    have e2 : IntKind.i64.wrap ((b.length : Int) - 1) = (b.length : Int) - 1 := wrap_small (by omega) (by omega)
    have e3 : (((b.length : Int) - 1).toNat) = b.length - 1 := by omega
    have e4 : IntKind.i64.wrap (3 + (b.length : Int)) = 3 + (b.length : Int) := wrap_small (by omega) (by omega)
    have d1 : decide ((392 : Int) < (b.length : Int)) = false := decide_eq_false (by omega)
    have w1 : (((0 : Nat) : Int) == (0 : Int)) = true := rfl
    have w2 : ((b.length : Int) == (b.length : Int)) = true := by simp
    have w3 : (((3 + b.length : Nat) : Int) == 3 + (b.length : Int)) = true := by simp
    have w4 : (((7 : Nat) : Int) == (7 : Int)) = true := rfl
    have w5 : ((c4 : Int) != (0 : Int)) = true := by simp; omega
    have h2 : encB ([1, 2, 3] ++ b ++ [9, 9]) = .sl 1 ([uD 1] :: [uD 2] :: [uD 3] :: (b.map (fun c => [uD c]) ++ [[uD 9], [uD 9]])) := by simp [encB]
    have h3 : encB (b ++ [0]) = .sl 1 (b.map (fun c => [uD c]) ++ [[uD 0]]) := by simp [encB]
    rw [h2] at F2
    rw [h3] at F3
    refine calls_body Tryd.func3 rfl Tryd.call3 Tryd.ntmps3 (by simp) (by simp [ArgsOk]) (by simp [Rz.nkL, Rz.nk]) fun en hsz hks hk0 => ?_; refine enS ?_
    (repeat (first | refine ctlS ?_ | (refine ol_go ?_ (fun K1 hK1 => ?_); (first | exact trivial | exact rfl); refine evS ?_; (try simp only [e1, d1, Nat.sub_zero]); refine hK1 _ _ ?_; clear hK1 K1) | (refine ow_go ?_ (fun x hx => by cases hx <;> (rw [hsz]; decide)) (fun K1 hK1 => ?_); (first | exact trivial | exact rfl); refine evS ?_; (try simp only [e1, d1, Nat.sub_zero]); refine hK1 _ ?_; clear hK1 K1) | refine skipS ?_ | (refine callPre ?_; (first | refine callN_funS rfl (b1) ?_ | refine callN_funS rfl (V1) ?_ | refine callN_funS rfl (P1) ?_ | refine callN_funS rfl (F1) ?_)) | (refine callPreL ?_; (first | refine callL_funS rfl (b1) ?_ | refine callL_funS rfl (V1) ?_ | refine callL_funS rfl (P1) ?_ | refine callL_funS rfl (F1) ?_)) | refine aw_condT rfl ?_ | refine aw_condF rfl ?_))
    (repeat (first | refine ctlS ?_ | (refine ol_go ?_ (fun K1 hK1 => ?_); (first | exact trivial | exact rfl); refine evS ?_; (try simp only [e2, e3, Nat.sub_zero]); refine hK1 _ _ ?_; clear hK1 K1) | (refine ow_go ?_ (fun x hx => by cases hx <;> (rw [hsz]; decide)) (fun K1 hK1 => ?_); (first | exact trivial | exact rfl); refine evS ?_; (try simp only [e2, e3, Nat.sub_zero]); refine hK1 _ ?_; clear hK1 K1) | refine skipS ?_ | (refine callPre ?_; (first | refine callN_funS rfl (F2) ?_ | refine callN_funS rfl (F3) ?_)) | (refine callPreL ?_; (first | refine callL_funS rfl (F2) ?_ | refine callL_funS rfl (F3) ?_)) | refine aw_condT rfl ?_ | refine aw_condF rfl ?_))
    (repeat (first | refine ctlS ?_ | (refine ol_go ?_ (fun K1 hK1 => ?_); (first | exact trivial | exact rfl); refine evS ?_; (try simp only [e2, e3, e4, w1, w2, w3, w4, w5, Nat.sub_zero]); refine hK1 _ _ ?_; clear hK1 K1) | (refine ow_go ?_ (fun x hx => by cases hx <;> (rw [hsz]; decide)) (fun K1 hK1 => ?_); (first | exact trivial | exact rfl); refine evS ?_; (try simp only [e2, e3, e4, w1, w2, w3, w4, w5, Nat.sub_zero]); refine hK1 _ ?_; clear hK1 K1) | refine skipS ?_ | (refine callPre ?_; (first | refine callN_funS rfl (F4) ?_)) | (refine callPreL ?_; (first | refine callL_funS rfl (F4) ?_)) | refine aw_condT rfl ?_ | refine aw_condF rfl ?_))
    (repeat (first | refine ctlS ?_ | (refine ol_go ?_ (fun K1 hK1 => ?_); (first | exact trivial | exact rfl); refine evS ?_; (try simp only [e2, e3, e4, w1, w2, w3, w4, w5, Nat.sub_zero]); refine hK1 _ _ ?_; clear hK1 K1) | (refine ow_go ?_ (fun x hx => by cases hx <;> (rw [hsz]; decide)) (fun K1 hK1 => ?_); (first | exact trivial | exact rfl); refine evS ?_; (try simp only [e2, e3, e4, w1, w2, w3, w4, w5, Nat.sub_zero]); refine hK1 _ ?_; clear hK1 K1) | refine skipS ?_))
    (first | (refine callPre ?_; (first | refine callN_funS rfl (E1) ?_)) | (refine callPreL ?_; (first | refine callL_funS rfl (E1) ?_)))
    (repeat (first | refine ctlS ?_ | (refine ol_go ?_ (fun K1 hK1 => ?_); (first | exact trivial | exact rfl); refine evS ?_; (try simp only [e2, e3, e4, w1, w2, w3, w4, w5, Nat.sub_zero]); refine hK1 _ _ ?_; clear hK1 K1) | (refine ow_go ?_ (fun x hx => by cases hx <;> (rw [hsz]; decide)) (fun K1 hK1 => ?_); (first | exact trivial | exact rfl); refine evS ?_; (try simp only [e2, e3, e4, w1, w2, w3, w4, w5, Nat.sub_zero]); refine hK1 _ ?_; clear hK1 K1) | refine skipS ?_))
    (first | (refine callPre ?_; (first | refine callN_funS rfl (E1) ?_)) | (refine callPreL ?_; (first | refine callL_funS rfl (E1) ?_)))
    (repeat (first | refine ctlS ?_ | (refine ol_go ?_ (fun K1 hK1 => ?_); (first | exact trivial | exact rfl); refine evS ?_; (try simp only [e2, e3, e4, w1, w2, w3, w4, w5, Nat.sub_zero]); refine hK1 _ _ ?_; clear hK1 K1) | (refine ow_go ?_ (fun x hx => by cases hx <;> (rw [hsz]; decide)) (fun K1 hK1 => ?_); (first | exact trivial | exact rfl); refine evS ?_; (try simp only [e2, e3, e4, w1, w2, w3, w4, w5, Nat.sub_zero]); refine hK1 _ ?_; clear hK1 K1) | refine skipS ?_))
    (first | (refine callPre ?_; (first | refine callN_funS rfl (F5) ?_)) | (refine callPreL ?_; (first | refine callL_funS rfl (F5) ?_)))
    (repeat (first | refine ctlS ?_ | (refine ol_go ?_ (fun K1 hK1 => ?_); (first | exact trivial | exact rfl); refine evS ?_; (try simp only [e2, e3, e4, w1, w2, w3, w4, w5, Nat.sub_zero]); refine hK1 _ _ ?_; clear hK1 K1) | (refine ow_go ?_ (fun x hx => by cases hx <;> (rw [hsz]; decide)) (fun K1 hK1 => ?_); (first | exact trivial | exact rfl); refine evS ?_; (try simp only [e2, e3, e4, w1, w2, w3, w4, w5, Nat.sub_zero]); refine hK1 _ ?_; clear hK1 K1) | refine skipS ?_))
    (refine aw_ret ?_; (simp only [Fin, Tryd.results3]; refine finS ?_); exact ⟨_, _, .inl ⟨rfl, rfl⟩, List.nodup_nil, rfl⟩)
  · have q1 : prR D ((D.length : Int) - 1) v = (prV D ((D.length : Int) - 1) v, true) ∨ prR D ((D.length : Int) - 1) v = ([], false) := by
      by_cases h : (prV D ((D.length : Int) - 1) v).length ≤ 400
      · exact .inl (prR_t hisv h)
      · exact .inr (prR_l h)
    have d1 : decide ((392 : Int) < ((prV D ((D.length : Int) - 1) v).length : Int)) = true := decide_eq_true (by omega)
    rcases q1 with q1 | q1
    · rw [q1] at P1
      generalize prV D ((D.length : Int) - 1) v = b at *
      refine calls_body Tryd.func3 rfl Tryd.call3 Tryd.ntmps3 (by simp) (by simp [ArgsOk]) (by simp [Rz.nkL, Rz.nk]) fun en hsz hks hk0 => ?_; refine enS ?_
      (repeat (first | refine ctlS ?_ | (refine ol_go ?_ (fun K1 hK1 => ?_); (first | exact trivial | exact rfl); refine evS ?_; (try simp only [e1, d1]); refine hK1 _ _ ?_; clear hK1 K1) | (refine ow_go ?_ (fun x hx => by cases hx <;> (rw [hsz]; decide)) (fun K1 hK1 => ?_); (first | exact trivial | exact rfl); refine evS ?_; (try simp only [e1, d1]); refine hK1 _ ?_; clear hK1 K1) | refine skipS ?_ | (refine callPre ?_; (first | refine callN_funS rfl (b1) ?_ | refine callN_funS rfl (V1) ?_ | refine callN_funS rfl (P1) ?_)) | (refine callPreL ?_; (first | refine callL_funS rfl (b1) ?_ | refine callL_funS rfl (V1) ?_ | refine callL_funS rfl (P1) ?_)) | refine aw_condT rfl ?_ | refine aw_condF rfl ?_))
      (refine aw_ret ?_; (simp only [Fin, Tryd.results3]; refine finS ?_); exact ⟨_, _, .inl ⟨rfl, rfl⟩, List.nodup_nil, rfl⟩)
    · rw [q1] at P1
      refine calls_body Tryd.func3 rfl Tryd.call3 Tryd.ntmps3 (by simp) (by simp [ArgsOk]) (by simp [Rz.nkL, Rz.nk]) fun en hsz hks hk0 => ?_; refine enS ?_
      (repeat (first | refine ctlS ?_ | (refine ol_go ?_ (fun K1 hK1 => ?_); (first | exact trivial | exact rfl); refine evS ?_; (try simp only [e1, d1]); refine hK1 _ _ ?_; clear hK1 K1) | (refine ow_go ?_ (fun x hx => by cases hx <;> (rw [hsz]; decide)) (fun K1 hK1 => ?_); (first | exact trivial | exact rfl); refine evS ?_; (try simp only [e1, d1]); refine hK1 _ ?_; clear hK1 K1) | refine skipS ?_ | (refine callPre ?_; (first | refine callN_funS rfl (b1) ?_ | refine callN_funS rfl (V1) ?_ | refine callN_funS rfl (P1) ?_)) | (refine callPreL ?_; (first | refine callL_funS rfl (b1) ?_ | refine callL_funS rfl (V1) ?_ | refine callL_funS rfl (P1) ?_)) | refine aw_condT rfl ?_ | refine aw_condF rfl ?_))
      (refine aw_ret ?_; (simp only [Fin, Tryd.results3]; refine finS ?_); exact ⟨_, _, .inl ⟨rfl, rfl⟩, List.nodup_nil, rfl⟩)
end Go.Proofs.YtnndpimlfibncaaDoor.Eng
