/-
  The laws: CountApplications, LongestValidPrefix, CountErrors.
-/
import Derived.Test.YtcpboonjaceneaaKLW1
import Derived.Test.YtcpboonjaceneaaKN20
import Derived.Test.YtcpboonjaceneaaKN21
set_option linter.unusedSimpArgs false
set_option linter.unusedVariables false
namespace Go.Proofs.Ytcpboonjaceneaa.Eng
open Go Go.RowKit

private theorem tyF : ((((((tyElem Try.prog 22 = some 5 ∧ tyElem Try.prog 24 = some 87) ∧ (tyElem Try.prog 32 = some 96 ∧ (tyElem Try.prog 46 = some 22 ∧ tyElem Try.prog 84 = some 9))) ∧ ((tyElem Try.prog 85 = some 3 ∧ tyField Try.prog 26 0 = some (0, 24)) ∧ (tyField Try.prog 34 0 = some (0, 32) ∧ (tyField Try.prog 87 0 = some (0, 9) ∧ tyField Try.prog 87 1 = some (1, 3))))) ∧ (((tyField Try.prog 87 2 = some (2, 3) ∧ tyField Try.prog 87 3 = some (3, 4)) ∧ (tyField Try.prog 87 4 = some (4, 22) ∧ (tyField Try.prog 87 5 = some (5, 84) ∧ tyField Try.prog 87 6 = some (6, 85)))) ∧ ((tyField Try.prog 87 7 = some (7, 85) ∧ tyField Try.prog 96 0 = some (0, 9)) ∧ (tyField Try.prog 96 1 = some (1, 3) ∧ (tyField Try.prog 96 2 = some (2, 3) ∧ tyField Try.prog 96 3 = some (3, 4)))))) ∧ ((((tyField Try.prog 96 4 = some (4, 22) ∧ tyField Try.prog 96 5 = some (5, 84)) ∧ (tyField Try.prog 96 6 = some (6, 85) ∧ (tyField Try.prog 96 7 = some (7, 85) ∧ tyK Try.prog 22 = some (false, 1)))) ∧ ((tyK Try.prog 24 = some (false, 1) ∧ tyK Try.prog 26 = some (true, 1)) ∧ (tyK Try.prog 3 = some (false, 1) ∧ (tyK Try.prog 32 = some (false, 1) ∧ tyK Try.prog 34 = some (true, 1))))) ∧ (((tyK Try.prog 4 = some (false, 1) ∧ tyK Try.prog 46 = some (false, 1)) ∧ (tyK Try.prog 5 = some (false, 1) ∧ (tyK Try.prog 84 = some (false, 1) ∧ tyK Try.prog 85 = some (false, 1)))) ∧ ((tyK Try.prog 87 = some (true, 8) ∧ tyK Try.prog 9 = some (false, 1)) ∧ (tyK Try.prog 96 = some (true, 8) ∧ (tyPlaces Try.prog 26 = some [(0, 1)] ∧ tyPlaces Try.prog 34 = some [(0, 1)])))))) ∧ (((((tyPlaces Try.prog 87 = some [(0, 1), (1, 1), (2, 1), (3, 1), (4, 1), (5, 1), (6, 1), (7, 1)] ∧ tyPlaces Try.prog 96 = some [(0, 1), (1, 1), (2, 1), (3, 1), (4, 1), (5, 1), (6, 1), (7, 1)]) ∧ (tyRow Try.prog 22 = some 1 ∧ (tyRow Try.prog 24 = some 1 ∧ tyRow Try.prog 26 = some 1))) ∧ ((tyRow Try.prog 3 = some 1 ∧ tyRow Try.prog 32 = some 1) ∧ (tyRow Try.prog 34 = some 1 ∧ (tyRow Try.prog 4 = some 1 ∧ tyRow Try.prog 46 = some 1)))) ∧ (((tyRow Try.prog 5 = some 1 ∧ tyRow Try.prog 84 = some 1) ∧ (tyRow Try.prog 85 = some 1 ∧ (tyRow Try.prog 87 = some 8 ∧ tyRow Try.prog 9 = some 1))) ∧ ((tyRow Try.prog 96 = some 8 ∧ Try.prog.underlying 22 = some (TypeDesc.slice 5)) ∧ (Try.prog.underlying 24 = some (TypeDesc.slice 87) ∧ (Try.prog.underlying 3 = some (TypeDesc.int IntKind.i64) ∧ Try.prog.underlying 32 = some (TypeDesc.slice 96)))))) ∧ ((((Try.prog.underlying 4 = some (TypeDesc.bool) ∧ Try.prog.underlying 46 = some (TypeDesc.slice 22)) ∧ (Try.prog.underlying 5 = some (TypeDesc.int IntKind.u8) ∧ (Try.prog.underlying 84 = some (TypeDesc.slice 9) ∧ Try.prog.underlying 85 = some (TypeDesc.slice 3)))) ∧ ((Try.prog.underlying 9 = some (TypeDesc.string) ∧ tyZero Try.prog 22 = some [Value.slice none 0 0]) ∧ (tyZero Try.prog 24 = some [Value.slice none 0 0] ∧ (tyZero Try.prog 26 = some [Value.slice none 0 0] ∧ tyZero Try.prog 3 = some [Value.int IntKind.i64 0])))) ∧ (((tyZero Try.prog 32 = some [Value.slice none 0 0] ∧ tyZero Try.prog 34 = some [Value.slice none 0 0]) ∧ (tyZero Try.prog 4 = some [Value.bool false] ∧ (tyZero Try.prog 46 = some [Value.slice none 0 0] ∧ tyZero Try.prog 5 = some [Value.int IntKind.u8 0]))) ∧ ((tyZero Try.prog 84 = some [Value.slice none 0 0] ∧ tyZero Try.prog 85 = some [Value.slice none 0 0]) ∧ (tyZero Try.prog 87 = some [Value.string ByteArray.empty, Value.int IntKind.i64 0, Value.int IntKind.i64 0, Value.bool false, Value.slice none 0 0, Value.slice none 0 0, Value.slice none 0 0, Value.slice none 0 0] ∧ (tyZero Try.prog 9 = some [Value.string ByteArray.empty] ∧ tyZero Try.prog 96 = some [Value.string ByteArray.empty, Value.int IntKind.i64 0, Value.int IntKind.i64 0, Value.bool false, Value.slice none 0 0, Value.slice none 0 0, Value.slice none 0 0, Value.slice none 0 0]))))))) := ⟨⟨⟨⟨⟨⟨te22, te24⟩, ⟨te32, ⟨te46, te84⟩⟩⟩, ⟨⟨te85, tf26_0⟩, ⟨tf34_0, ⟨tf87_0, tf87_1⟩⟩⟩⟩, ⟨⟨⟨tf87_2, tf87_3⟩, ⟨tf87_4, ⟨tf87_5, tf87_6⟩⟩⟩, ⟨⟨tf87_7, tf96_0⟩, ⟨tf96_1, ⟨tf96_2, tf96_3⟩⟩⟩⟩⟩, ⟨⟨⟨⟨tf96_4, tf96_5⟩, ⟨tf96_6, ⟨tf96_7, tk22⟩⟩⟩, ⟨⟨tk24, tk26⟩, ⟨tk3, ⟨tk32, tk34⟩⟩⟩⟩, ⟨⟨⟨tk4, tk46⟩, ⟨tk5, ⟨tk84, tk85⟩⟩⟩, ⟨⟨tk87, tk9⟩, ⟨tk96, ⟨tp26, tp34⟩⟩⟩⟩⟩⟩, ⟨⟨⟨⟨⟨tp87, tp96⟩, ⟨tr22, ⟨tr24, tr26⟩⟩⟩, ⟨⟨tr3, tr32⟩, ⟨tr34, ⟨tr4, tr46⟩⟩⟩⟩, ⟨⟨⟨tr5, tr84⟩, ⟨tr85, ⟨tr87, tr9⟩⟩⟩, ⟨⟨tr96, tu22⟩, ⟨tu24, ⟨tu3, tu32⟩⟩⟩⟩⟩, ⟨⟨⟨⟨tu4, tu46⟩, ⟨tu5, ⟨tu84, tu85⟩⟩⟩, ⟨⟨tu9, tz22⟩, ⟨tz24, ⟨tz26, tz3⟩⟩⟩⟩, ⟨⟨⟨tz32, tz34⟩, ⟨tz4, ⟨tz46, tz5⟩⟩⟩, ⟨⟨tz84, tz85⟩, ⟨tz87, ⟨tz9, tz96⟩⟩⟩⟩⟩⟩⟩
set_option maxRecDepth 100000 in
set_option maxHeartbeats 4000000 in
theorem lawCountApplications_c {D : List RuleD} (hD : DB 9223372036854775807 D) {b : List UInt8} (hb0 : b.length ≤ 9223372036854775807) : AC Try.prog 7 [.d (encD D), .d (encB b)] none (fun r' _ => r' = .d (bD true)) := by
  refine calls_body Try.func7 rfl Try.call7 Try.ntmps7 (by simp) (by simp [ArgsOk]) (by simp [Rz.nkL, Rz.nk]) fun en hsz hks hk0 => ?_; simp only [St.init, frOf, Rz.addSL, Rz.addS, Rz.toAL, Rz.toA, Rz.nk, List.zipIdx_cons, List.zipIdx_nil, List.map_cons, List.map_nil, Nat.zero_add, Nat.reduceAdd]
  refine walkS ?_
  refine aw_condS rfl (fun h0 => ?_) (fun h0 => ?_)
  · refine walkS ?_
    (refine aw_ret ?_; (simp only [Fin, Try.results7]; refine finS ?_); exact ⟨_, _, .inl ⟨rfl, rfl⟩, List.nodup_nil, rfl⟩)
  have hb : b.length ≤ 1048576 := by omega
  (repeat (first | refine walkS ?_ | (refine callPre ?_; (first | refine callN_funS rfl (szDescription_c hD 1048576 (by omega)) ?_)) | (refine callPreL ?_; (first | refine callL_funS rfl (szDescription_c hD 1048576 (by omega)) ?_))))
  refine aw_condS rfl (fun h1 => ?_) (fun h1 => ?_)
  · refine walkS ?_
    (refine aw_ret ?_; (simp only [Fin, Try.results7]; refine finS ?_); exact ⟨_, _, .inl ⟨rfl, rfl⟩, List.nodup_nil, rfl⟩)
  have hDM : DB 1048576 D := lftDs_ge (x := 1048576) (by omega) (by omega) (by omega)
  have HS := countS_c hDM (Nat.le_refl _) hb
  have HI := countI_c hDM (Nat.le_refl _) hb
  generalize cntF D b = z at HS HI
  (repeat (first | refine walkS ?_ | (refine callPre ?_; (first | refine callN_funS rfl (toDescription_c hDM (Nat.le_refl _)) ?_ | refine callN_funS rfl (toByteS_c hb) ?_ | refine callN_funS rfl (HS) ?_ | refine callN_funS rfl (HI) ?_)) | (refine callPreL ?_; (first | refine callL_funS rfl (toDescription_c hDM (Nat.le_refl _)) ?_ | refine callL_funS rfl (toByteS_c hb) ?_ | refine callL_funS rfl (HS) ?_ | refine callL_funS rfl (HI) ?_))))
  refine aw_condS rfl (fun h2 => ?_) (fun h2 => ?_)
  · exact absurd rfl h2
  (repeat (first | refine walkS ?_ | (refine callPre ?_; (first | refine callN_funS rfl (toDescription_c hDM (Nat.le_refl _)) ?_ | refine callN_funS rfl (toByteS_c hb) ?_ | refine callN_funS rfl (eqDescription_c hDM (Nat.le_refl _)) ?_ | refine callN_funS rfl (eqByteS_c hb) ?_)) | (refine callPreL ?_; (first | refine callL_funS rfl (toDescription_c hDM (Nat.le_refl _)) ?_ | refine callL_funS rfl (toByteS_c hb) ?_ | refine callL_funS rfl (eqDescription_c hDM (Nat.le_refl _)) ?_ | refine callL_funS rfl (eqByteS_c hb) ?_))))
  refine aw_condS rfl (fun hc => ?_) (fun hc => ?_)
  · (first | exact absurd trivial hc | exact absurd rfl hc | (cases hc; done) | omega | exact absurd hc (by decide) | (simp at hc; done))
  (repeat (first | refine walkS ?_ | (refine callPre ?_; (first | refine callN_funS rfl (toDescription_c hDM (Nat.le_refl _)) ?_ | refine callN_funS rfl (toByteS_c hb) ?_ | refine callN_funS rfl (eqDescription_c hDM (Nat.le_refl _)) ?_ | refine callN_funS rfl (eqByteS_c hb) ?_)) | (refine callPreL ?_; (first | refine callL_funS rfl (toDescription_c hDM (Nat.le_refl _)) ?_ | refine callL_funS rfl (toByteS_c hb) ?_ | refine callL_funS rfl (eqDescription_c hDM (Nat.le_refl _)) ?_ | refine callL_funS rfl (eqByteS_c hb) ?_))))
  refine aw_condS rfl (fun hc => ?_) (fun hc => ?_)
  · (first | exact absurd trivial hc | exact absurd rfl hc | (cases hc; done) | omega | exact absurd hc (by decide) | (simp at hc; done))
  · refine walkS ?_
    (refine aw_ret ?_; (simp only [Fin, Try.results7]; refine finS ?_); exact ⟨_, _, .inl ⟨rfl, rfl⟩, List.nodup_nil, rfl⟩)

set_option maxRecDepth 100000 in
set_option maxHeartbeats 4000000 in
theorem lawLongestValidPrefix_c {D : List RuleD} (hD : DB 9223372036854775807 D) {b : List UInt8} (hb0 : b.length ≤ 9223372036854775807) : AC Try.prog 8 [.d (encD D), .d (encB b)] none (fun r' _ => r' = .d (bD true)) := by
  refine calls_body Try.func8 rfl Try.call8 Try.ntmps8 (by simp) (by simp [ArgsOk]) (by simp [Rz.nkL, Rz.nk]) fun en hsz hks hk0 => ?_; simp only [St.init, frOf, Rz.addSL, Rz.addS, Rz.toAL, Rz.toA, Rz.nk, List.zipIdx_cons, List.zipIdx_nil, List.map_cons, List.map_nil, Nat.zero_add, Nat.reduceAdd]
  refine walkS ?_
  refine aw_condS rfl (fun h0 => ?_) (fun h0 => ?_)
  · refine walkS ?_
    (refine aw_ret ?_; (simp only [Fin, Try.results8]; refine finS ?_); exact ⟨_, _, .inl ⟨rfl, rfl⟩, List.nodup_nil, rfl⟩)
  have hb : b.length ≤ 1048576 := by omega
  (repeat (first | refine walkS ?_ | (refine callPre ?_; (first | refine callN_funS rfl (szDescription_c hD 1048576 (by omega)) ?_)) | (refine callPreL ?_; (first | refine callL_funS rfl (szDescription_c hD 1048576 (by omega)) ?_))))
  refine aw_condS rfl (fun h1 => ?_) (fun h1 => ?_)
  · refine walkS ?_
    (refine aw_ret ?_; (simp only [Fin, Try.results8]; refine finS ?_); exact ⟨_, _, .inl ⟨rfl, rfl⟩, List.nodup_nil, rfl⟩)
  have hDM : DB 1048576 D := lftDs_ge (x := 1048576) (by omega) (by omega) (by omega)
  have HS := longPS_c hDM (Nat.le_refl _) hb
  have HI := longPI_c hDM (Nat.le_refl _) hb
  generalize longP D b b.length = z at HS HI
  (repeat (first | refine walkS ?_ | (refine callPre ?_; (first | refine callN_funS rfl (toDescription_c hDM (Nat.le_refl _)) ?_ | refine callN_funS rfl (toByteS_c hb) ?_ | refine callN_funS rfl (HS) ?_ | refine callN_funS rfl (HI) ?_)) | (refine callPreL ?_; (first | refine callL_funS rfl (toDescription_c hDM (Nat.le_refl _)) ?_ | refine callL_funS rfl (toByteS_c hb) ?_ | refine callL_funS rfl (HS) ?_ | refine callL_funS rfl (HI) ?_))))
  refine aw_condS rfl (fun h2 => ?_) (fun h2 => ?_)
  · exact absurd rfl h2
  (repeat (first | refine walkS ?_ | (refine callPre ?_; (first | refine callN_funS rfl (toDescription_c hDM (Nat.le_refl _)) ?_ | refine callN_funS rfl (toByteS_c hb) ?_ | refine callN_funS rfl (eqDescription_c hDM (Nat.le_refl _)) ?_ | refine callN_funS rfl (eqByteS_c hb) ?_)) | (refine callPreL ?_; (first | refine callL_funS rfl (toDescription_c hDM (Nat.le_refl _)) ?_ | refine callL_funS rfl (toByteS_c hb) ?_ | refine callL_funS rfl (eqDescription_c hDM (Nat.le_refl _)) ?_ | refine callL_funS rfl (eqByteS_c hb) ?_))))
  refine aw_condS rfl (fun hc => ?_) (fun hc => ?_)
  · (first | exact absurd trivial hc | exact absurd rfl hc | (cases hc; done) | omega | exact absurd hc (by decide) | (simp at hc; done))
  (repeat (first | refine walkS ?_ | (refine callPre ?_; (first | refine callN_funS rfl (toDescription_c hDM (Nat.le_refl _)) ?_ | refine callN_funS rfl (toByteS_c hb) ?_ | refine callN_funS rfl (eqDescription_c hDM (Nat.le_refl _)) ?_ | refine callN_funS rfl (eqByteS_c hb) ?_)) | (refine callPreL ?_; (first | refine callL_funS rfl (toDescription_c hDM (Nat.le_refl _)) ?_ | refine callL_funS rfl (toByteS_c hb) ?_ | refine callL_funS rfl (eqDescription_c hDM (Nat.le_refl _)) ?_ | refine callL_funS rfl (eqByteS_c hb) ?_))))
  refine aw_condS rfl (fun hc => ?_) (fun hc => ?_)
  · (first | exact absurd trivial hc | exact absurd rfl hc | (cases hc; done) | omega | exact absurd hc (by decide) | (simp at hc; done))
  · refine walkS ?_
    (refine aw_ret ?_; (simp only [Fin, Try.results8]; refine finS ?_); exact ⟨_, _, .inl ⟨rfl, rfl⟩, List.nodup_nil, rfl⟩)

set_option maxRecDepth 100000 in
set_option maxHeartbeats 4000000 in
theorem lawCountErrors_c {D : List RuleD} (hD : DB 9223372036854775807 D) {l : List (List UInt8)} (hl0 : BsB 9223372036854775807 l) (c : Int) : AC Try.prog 9 [.d (encD D), .d (encBs l), .d (iD c)] none (fun r' _ => r' = .d (bD true)) := by
  have hx := lftDs_le (x := 1048576) (D := D) (by omega)
  refine calls_body Try.func9 rfl Try.call9 Try.ntmps9 (by simp) (by simp [ArgsOk]) (by simp [Rz.nkL, Rz.nk]) fun en hsz hks hk0 => ?_; simp only [St.init, frOf, Rz.addSL, Rz.addS, Rz.toAL, Rz.toA, Rz.nk, List.zipIdx_cons, List.zipIdx_nil, List.map_cons, List.map_nil, Nat.zero_add, Nat.reduceAdd]
  (repeat (first | refine walkS ?_ | (refine callPre ?_; (first | refine callN_funS rfl (szDescription_c hD 1048576 (by omega)) ?_)) | (refine callPreL ?_; (first | refine callL_funS rfl (szDescription_c hD 1048576 (by omega)) ?_))))
  refine aw_condS rfl (fun h1 => ?_) (fun h1 => ?_)
  · refine walkS ?_
    (refine aw_ret ?_; (simp only [Fin, Try.results9]; refine finS ?_); exact ⟨_, _, .inl ⟨rfl, rfl⟩, List.nodup_nil, rfl⟩)
  have hDM : DB 1048576 D := lftDs_ge (x := 1048576) (by omega) (by omega) (by omega)
  (repeat (first | refine walkS ?_ | (refine callPre ?_; (first | refine callN_funS rfl (szByteSS_c hl0 (lftDs 1048576 D) (by omega)) ?_)) | (refine callPreL ?_; (first | refine callL_funS rfl (szByteSS_c hl0 (lftDs 1048576 D) (by omega)) ?_))))
  refine aw_condS rfl (fun h0 => ?_) (fun h0 => ?_)
  · refine walkS ?_
    (refine aw_ret ?_; (simp only [Fin, Try.results9]; refine finS ?_); exact ⟨_, _, .inl ⟨rfl, rfl⟩, List.nodup_nil, rfl⟩)
  have hl : BsB 1048576 l := lftBs_ge (x := lftDs 1048576 D) (by omega) (by omega) (by omega)
  have HS := errS_c hDM (Nat.le_refl _) hl c
  have HI := errI_c hDM (Nat.le_refl _) hl c
  generalize errN D c l 0 = z at HS HI
  (repeat (first | refine walkS ?_ | (refine callPre ?_; (first | refine callN_funS rfl (toDescription_c hDM (Nat.le_refl _)) ?_ | refine callN_funS rfl (toByteSS_c hl) ?_ | refine callN_funS rfl (HS) ?_ | refine callN_funS rfl (HI) ?_)) | (refine callPreL ?_; (first | refine callL_funS rfl (toDescription_c hDM (Nat.le_refl _)) ?_ | refine callL_funS rfl (toByteSS_c hl) ?_ | refine callL_funS rfl (HS) ?_ | refine callL_funS rfl (HI) ?_))))
  refine aw_condS rfl (fun h2 => ?_) (fun h2 => ?_)
  · exact absurd rfl h2
  (repeat (first | refine walkS ?_ | (refine callPre ?_; (first | refine callN_funS rfl (toDescription_c hDM (Nat.le_refl _)) ?_ | refine callN_funS rfl (toByteSS_c hl) ?_ | refine callN_funS rfl (eqDescription_c hDM (Nat.le_refl _)) ?_ | refine callN_funS rfl (eqByteSS_c hl) ?_)) | (refine callPreL ?_; (first | refine callL_funS rfl (toDescription_c hDM (Nat.le_refl _)) ?_ | refine callL_funS rfl (toByteSS_c hl) ?_ | refine callL_funS rfl (eqDescription_c hDM (Nat.le_refl _)) ?_ | refine callL_funS rfl (eqByteSS_c hl) ?_))))
  refine aw_condS rfl (fun hc => ?_) (fun hc => ?_)
  · (first | exact absurd trivial hc | exact absurd rfl hc | (cases hc; done) | omega | exact absurd hc (by decide) | (simp at hc; done))
  (repeat (first | refine walkS ?_ | (refine callPre ?_; (first | refine callN_funS rfl (toDescription_c hDM (Nat.le_refl _)) ?_ | refine callN_funS rfl (toByteSS_c hl) ?_ | refine callN_funS rfl (eqDescription_c hDM (Nat.le_refl _)) ?_ | refine callN_funS rfl (eqByteSS_c hl) ?_)) | (refine callPreL ?_; (first | refine callL_funS rfl (toDescription_c hDM (Nat.le_refl _)) ?_ | refine callL_funS rfl (toByteSS_c hl) ?_ | refine callL_funS rfl (eqDescription_c hDM (Nat.le_refl _)) ?_ | refine callL_funS rfl (eqByteSS_c hl) ?_))))
  refine aw_condS rfl (fun hc => ?_) (fun hc => ?_)
  · (first | exact absurd trivial hc | exact absurd rfl hc | (cases hc; done) | omega | exact absurd hc (by decide) | (simp at hc; done))
  · refine walkS ?_
    (refine aw_ret ?_; (simp only [Fin, Try.results9]; refine finS ?_); exact ⟨_, _, .inl ⟨rfl, rfl⟩, List.nodup_nil, rfl⟩)
end Go.Proofs.Ytcpboonjaceneaa.Eng
