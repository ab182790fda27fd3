/-
  Mutations, the program: ApplyMutation.
-/
import Derived.Test.YtglacmgeoefcaaaGreatDoorKNR1
set_option linter.unusedSimpArgs false
set_option linter.unusedVariables false
set_option linter.defProp false
set_option maxRecDepth 100000
set_option maxHeartbeats 4000000
namespace Go.Proofs.YtglacmgeoefcaaaGreatDoor.Eng
open Go Go.RowKit

section
variable {b : List UInt8}
private def tyF := And.intro (And.intro (And.intro (And.intro (And.intro ta175 tb22) (And.intro te22 tf51_0)) (And.intro (And.intro tf51_1 tf51_2) (And.intro tk175 tk22))) (And.intro (And.intro (And.intro tk3 tk4) (And.intro tk5 tk51)) (And.intro (And.intro tp175 tp51) (And.intro tq175 tq51)))) (And.intro (And.intro (And.intro (And.intro tr175 tr22) (And.intro tr3 tr4)) (And.intro (And.intro tr5 tr51) (And.intro tu175 tu22))) (And.intro (And.intro (And.intro tu3 tu4) (And.intro tu5 tz175)) (And.intro (And.intro tz22 tz3) (And.intro tz4 (And.intro tz5 tz51)))))
theorem key_c (k i c : Int) : AC Tryz.prog 162 [.d (mutE k i c)] none (fun r' _ => r' = .d (.agg [iD k, iD i, iD c])) := by
  refine calls_body Tryz.func162 rfl Tryz.call162 Tryz.ntmps162 (by simp) (by simp [ArgsOk]) (by simp [Rz.nkL, Rz.nk]) fun en hsz hks hk0 => ?_; refine enS ?_
  refine walkS ?_
  (refine aw_ret ?_; (simp only [Fin, Tryz.results162]; refine finS ?_); exact ⟨_, _, .inl ⟨rfl, rfl⟩, List.nodup_nil, rfl⟩)
theorem applyI_1 (hb : b.length ≤ 1048576) {i c : Nat} (hi : i < b.length) (hc : c ≤ 255) : ACN Tryz.prog 127 [.d (encB b), .d (mutE 1 i c)] (mutD (cutB b i 1 [UInt8.ofNat c])) := by
  have r1 : AC Tryz.prog 79 [.d (iD (c : Nat)), .d (iD 0), .d (iD 255)] none (fun r' _ => r' = .d (bD true)) := (inRangeI_c _ _ _).eqv (by simp; omega)
  have e1 : decide ((i : Int) < 0) = false := by simp
  have e2 : decide ((i : Int) < (b.length : Int)) = true := by simp; omega
  have hS : ∀ tl, splice ((rowD b tl).map A.d) [A.d (uD (UInt8.ofNat c))] (i * 1) = (rowD (b.set i (UInt8.ofNat c)) tl).map A.d := fun tl => by rw [Nat.mul_one]; exact rowA_set hi _
  refine calls_bodyI Tryz.func127 rfl Tryz.call127 Tryz.ntmps127 (by simp) (by simp [ArgsOk]) fun en hsz hcok hX hks => ?_; refine enS ?_
  (repeat (first | (refine ow_bs0 ?_ (fun x hx => by cases hx <;> (rw [hsz]; decide)) rfl te22 tr5 (fun ad => ?_); (first | exact trivial | exact rfl); simp only [St.set]) | (refine ow_appendA ?_ (fun x hx => by cases hx <;> (rw [hsz]; decide)) rfl te22 tr5 tz5 rfl rfl ?_ ?_ (fun tl => ?_); (first | exact trivial | exact rfl); (simp only [List.length_map]; omega); (simp only [List.length_map]; omega); simp only [St.set]) | refine ctlS ?_ | (refine ol_go ?_ (fun K1 hK1 => ?_); (first | exact trivial | exact rfl); refine evS ?_; (try simp only [e1, e2, rowA_eq]); refine hK1 _ _ ?_; clear hK1 K1) | (refine ow_go ?_ (fun x hx => by cases hx <;> (rw [hsz]; decide)) (fun K1 hK1 => ?_); (first | exact trivial | exact rfl); refine evS ?_; (try simp only [e1, e2, rowA_eq]); refine hK1 _ ?_; clear hK1 K1) | refine skipS ?_ | (refine callPre ?_; (first | refine callN_funS rfl (r1) ?_)) | (refine callPreL ?_; (first | refine callL_funS rfl (r1) ?_))))
  have hL := rowD_len b tl
  (repeat (first | refine ctlS ?_ | (refine ol_go ?_ (fun K1 hK1 => ?_); (first | exact trivial | exact rfl); refine evS ?_; (try simp only [e1, e2, u8_nat, hS]); refine hK1 _ _ ?_; clear hK1 K1) | (refine ow_go ?_ (fun x hx => by cases hx <;> (rw [hsz]; decide)) (fun K1 hK1 => ?_); (first | exact trivial | exact rfl); refine evS ?_; (try simp only [e1, e2, u8_nat, hS]); refine hK1 _ ?_; clear hK1 K1) | refine skipS ?_ | (refine callPre ?_; (first | refine callN_funS rfl (r1) ?_)) | (refine callPreL ?_; (first | refine callL_funS rfl (r1) ?_)) | refine aw_condT rfl ?_ | refine aw_condF rfl ?_))
  refine aw_freezeT (.iv (fun k => en.w.heap.size ≤ k) (encB (b.set i (UInt8.ofNat c)))) 4 48 1 b.length ((b.set i (UInt8.ofNat c)).map fun c => [uD c]) (tl.map fun x => A.d (.v x)) rfl (by rw [rowA_eq]; rfl) (by simp) (fun e he => by obtain ⟨x, _, rfl⟩ := List.mem_map.1 he; rfl) hks (by decide) (freeze_new hX fun a => .cons .v .nil) ?_
  (refine aw_ret ?_; (simp only [Fin, Tryz.results127]; refine finS ?_); exact ⟨_, _, .inl ⟨rfl, rfl⟩, List.nodup_nil, by rw [← set_cut hi]⟩)
theorem applyI_2 (hb : b.length ≤ 1048576) {i c : Nat} (hi : i ≤ b.length) (hc : c ≤ 255) : ACN Tryz.prog 127 [.d (encB b), .d (mutE 2 i c)] (mutD (cutB b i 0 [UInt8.ofNat c])) := by
  have r1 : AC Tryz.prog 79 [.d (iD (c : Nat)), .d (iD 0), .d (iD 255)] none (fun r' _ => r' = .d (bD true)) := (inRangeI_c _ _ _).eqv (by simp; omega)
  have e1 : decide ((i : Int) < 0) = false := by simp
  have e2 : decide ((i : Int) ≤ (b.length : Int)) = true := by simp; omega
  have HS := spliceI_c hb (a := i) (rm := 0) (by omega) (new := [UInt8.ofNat c]) (by simp)
  refine calls_bodyI Tryz.func127 rfl Tryz.call127 Tryz.ntmps127 (by simp) (by simp [ArgsOk]) fun en hsz hcok hX hks => ?_; refine enS ?_
  (repeat (first | refine ctlS ?_ | (refine ol_go ?_ (fun K1 hK1 => ?_); (first | exact trivial | exact rfl); refine evS ?_; (try simp only [e1, e2, u8_nat]); refine hK1 _ _ ?_; clear hK1 K1) | (refine ow_go ?_ (fun x hx => by cases hx <;> (rw [hsz]; decide)) (fun K1 hK1 => ?_); (first | exact trivial | exact rfl); refine evS ?_; (try simp only [e1, e2, u8_nat]); refine hK1 _ ?_; clear hK1 K1) | refine skipS ?_ | (refine callPre ?_; (first | refine callN_funS rfl (r1) ?_ | refine callN_funS rfl (HS) ?_)) | (refine callPreL ?_; (first | refine callL_funS rfl (r1) ?_ | refine callL_funS rfl (HS) ?_)) | refine aw_condT rfl ?_ | refine aw_condF rfl ?_))
  refine aw_ownI 4 96 1 5 ((cutB b i 0 [UInt8.ofNat c]).map fun c => [uD c]) rfl rfl (flat_map _ _) hX ?_
  (refine aw_ret ?_; (simp only [Fin, Tryz.results127]; refine finS ?_); exact ⟨_, _, .inl ⟨rfl, rfl⟩, List.nodup_nil, rfl⟩)
theorem applyI_3 (hb : b.length ≤ 1048576) {i : Nat} (hi : i < b.length) : ACN Tryz.prog 127 [.d (encB b), .d (mutE 3 i 0)] (mutD (cutB b i 1 [])) := by
  have r1 : AC Tryz.prog 79 [.d (iD 0), .d (iD 0), .d (iD 255)] none (fun r' _ => r' = .d (bD true)) := (inRangeI_c _ _ _).eqv (by simp)
  have e1 : decide ((i : Int) < 0) = false := by simp
  have e2 : decide ((i : Int) < (b.length : Int)) = true := by simp; omega
  have e3 : ((i : Int) == (i : Int)) = true := by simp
  have HS := spliceI_n hb (a := i) (rm := 1) (by omega)
  have HK := key_c 3 i 0
  refine calls_bodyI Tryz.func127 rfl Tryz.call127 Tryz.ntmps127 (by simp) (by simp [ArgsOk]) fun en hsz hcok hX hks => ?_; refine enS ?_
  (repeat (first | refine ctlS ?_ | (refine ol_go ?_ (fun K1 hK1 => ?_); (first | exact trivial | exact rfl); refine evS ?_; (try simp only [e1, e2, e3]); refine hK1 _ _ ?_; clear hK1 K1) | (refine ow_go ?_ (fun x hx => by cases hx <;> (rw [hsz]; decide)) (fun K1 hK1 => ?_); (first | exact trivial | exact rfl); refine evS ?_; (try simp only [e1, e2, e3]); refine hK1 _ ?_; clear hK1 K1) | refine skipS ?_ | (refine callPre ?_; (first | refine callN_funS rfl (r1) ?_ | refine callN_funS rfl (HS) ?_ | refine callN_funS rfl (HK) ?_)) | (refine callPreL ?_; (first | refine callL_funS rfl (r1) ?_ | refine callL_funS rfl (HS) ?_ | refine callL_funS rfl (HK) ?_)) | refine aw_condT rfl ?_ | refine aw_condF rfl ?_))
  refine aw_ownI 4 288 1 5 ((cutB b i 1 []).map fun c => [uD c]) rfl rfl (flat_map _ _) hX ?_
  (refine aw_ret ?_; (simp only [Fin, Tryz.results127]; refine finS ?_); exact ⟨_, _, .inl ⟨rfl, rfl⟩, List.nodup_nil, rfl⟩)
end
end Go.Proofs.YtglacmgeoefcaaaGreatDoor.Eng
