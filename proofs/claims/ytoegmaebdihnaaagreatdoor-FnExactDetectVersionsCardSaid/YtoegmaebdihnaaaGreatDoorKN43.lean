/-
  The versions of which bytes are a file: both sides.
-/
import Derived.Test.YtoegmaebdihnaaaGreatDoorKN34
import Derived.Test.YtoegmaebdihnaaaGreatDoorKLR1
set_option linter.unusedSimpArgs false
set_option linter.unusedVariables false
namespace Go.Proofs.YtoegmaebdihnaaaGreatDoor.Eng
open Go Go.RowKit

/-- Of which of the first k descriptions the bytes are a file. -/
noncomputable def detK (l : List (List RuleD)) (b : List UInt8) : Nat → List Int
  | 0 => []
  | k + 1 => if fileP (l.getD k []) b = true then detK l b k ++ [(k : Int)] else detK l b k
theorem detK_len (l : List (List RuleD)) (b : List UInt8) : ∀ k, (detK l b k).length ≤ k
  | 0 => by simp [detK]
  | k + 1 => by
    have := detK_len l b k
    unfold detK
    split
    · simp; omega
    · omega
abbrev ownI (x : List Int) : Rz := .own 3 1 (x.map fun c => [iD c])
theorem ownI_ok (x : List Int) : rzOk (ownI x) := by
  unfold rzOk
  exact flat_map _ _
theorem det_step {l : List (List RuleD)} {b : List UInt8} {k : Nat} (h : k < l.length) : detK l b (k + 1) = if fileP l[k] b = true then detK l b k ++ [(k : Int)] else detK l b k := by
  rw [detK]
  simp [h]
section
variable {l : List (List RuleD)} {b : List UInt8}
private theorem tyF : ((((((bytesT Tryz.prog 25 = true ∧ tyElem Tryz.prog 104 = some 9) ∧ (tyElem Tryz.prog 25 = some 5 ∧ tyElem Tryz.prog 28 = some 107)) ∧ ((tyElem Tryz.prog 54 = some 3 ∧ tyElem Tryz.prog 56 = some 30) ∧ (tyField Tryz.prog 107 0 = some (0, 9) ∧ tyField Tryz.prog 107 1 = some (1, 3)))) ∧ (((tyField Tryz.prog 107 2 = some (2, 3) ∧ tyField Tryz.prog 107 3 = some (3, 4)) ∧ (tyField Tryz.prog 107 4 = some (4, 25) ∧ tyField Tryz.prog 107 5 = some (5, 104))) ∧ ((tyField Tryz.prog 107 6 = some (6, 54) ∧ tyField Tryz.prog 107 7 = some (7, 54)) ∧ (tyField Tryz.prog 30 0 = some (0, 28) ∧ tyField Tryz.prog 58 0 = some (0, 56))))) ∧ ((((tyK Tryz.prog 104 = some (false, 1) ∧ tyK Tryz.prog 107 = some (true, 8)) ∧ (tyK Tryz.prog 25 = some (false, 1) ∧ tyK Tryz.prog 28 = some (false, 1))) ∧ ((tyK Tryz.prog 3 = some (false, 1) ∧ tyK Tryz.prog 30 = some (true, 1)) ∧ (tyK Tryz.prog 4 = some (false, 1) ∧ tyK Tryz.prog 5 = some (false, 1)))) ∧ (((tyK Tryz.prog 54 = some (false, 1) ∧ tyK Tryz.prog 56 = some (false, 1)) ∧ (tyK Tryz.prog 58 = some (true, 1) ∧ tyK Tryz.prog 9 = some (false, 1))) ∧ ((tyPlaces Tryz.prog 107 = some [(0, 1), (1, 1), (2, 1), (3, 1), (4, 1), (5, 1), (6, 1), (7, 1)] ∧ tyPlaces Tryz.prog 30 = some [(0, 1)]) ∧ (tyPlaces Tryz.prog 58 = some [(0, 1)] ∧ tyRow Tryz.prog 104 = some 1))))) ∧ (((((tyRow Tryz.prog 107 = some 8 ∧ tyRow Tryz.prog 25 = some 1) ∧ (tyRow Tryz.prog 28 = some 1 ∧ tyRow Tryz.prog 3 = some 1)) ∧ ((tyRow Tryz.prog 30 = some 1 ∧ tyRow Tryz.prog 4 = some 1) ∧ (tyRow Tryz.prog 5 = some 1 ∧ tyRow Tryz.prog 54 = some 1))) ∧ (((tyRow Tryz.prog 56 = some 1 ∧ tyRow Tryz.prog 58 = some 1) ∧ (tyRow Tryz.prog 9 = some 1 ∧ Tryz.prog.underlying 104 = some (TypeDesc.slice 9))) ∧ ((Tryz.prog.underlying 25 = some (TypeDesc.slice 5) ∧ Tryz.prog.underlying 28 = some (TypeDesc.slice 107)) ∧ (Tryz.prog.underlying 3 = some (TypeDesc.int IntKind.i64) ∧ Tryz.prog.underlying 4 = some (TypeDesc.bool))))) ∧ ((((Tryz.prog.underlying 5 = some (TypeDesc.int IntKind.u8) ∧ Tryz.prog.underlying 54 = some (TypeDesc.slice 3)) ∧ (Tryz.prog.underlying 56 = some (TypeDesc.slice 30) ∧ Tryz.prog.underlying 9 = some (TypeDesc.string))) ∧ ((tyZero Tryz.prog 104 = some [Value.slice none 0 0] ∧ tyZero Tryz.prog 107 = some [Value.string ByteArray.empty, Value.int IntKind.i64 0, Value.int IntKind.i64 0, Value.bool false, Value.slice none 0 0, Value.slice none 0 0, Value.slice none 0 0, Value.slice none 0 0]) ∧ (tyZero Tryz.prog 25 = some [Value.slice none 0 0] ∧ tyZero Tryz.prog 28 = some [Value.slice none 0 0]))) ∧ (((tyZero Tryz.prog 3 = some [Value.int IntKind.i64 0] ∧ tyZero Tryz.prog 30 = some [Value.slice none 0 0]) ∧ (tyZero Tryz.prog 4 = some [Value.bool false] ∧ tyZero Tryz.prog 5 = some [Value.int IntKind.u8 0])) ∧ ((tyZero Tryz.prog 54 = some [Value.slice none 0 0] ∧ tyZero Tryz.prog 56 = some [Value.slice none 0 0]) ∧ (tyZero Tryz.prog 58 = some [Value.slice none 0 0] ∧ tyZero Tryz.prog 9 = some [Value.string ByteArray.empty])))))) := ⟨⟨⟨⟨⟨⟨tb25, te104⟩, ⟨te25, te28⟩⟩, ⟨⟨te54, te56⟩, ⟨tf107_0, tf107_1⟩⟩⟩, ⟨⟨⟨tf107_2, tf107_3⟩, ⟨tf107_4, tf107_5⟩⟩, ⟨⟨tf107_6, tf107_7⟩, ⟨tf30_0, tf58_0⟩⟩⟩⟩, ⟨⟨⟨⟨tk104, tk107⟩, ⟨tk25, tk28⟩⟩, ⟨⟨tk3, tk30⟩, ⟨tk4, tk5⟩⟩⟩, ⟨⟨⟨tk54, tk56⟩, ⟨tk58, tk9⟩⟩, ⟨⟨tp107, tp30⟩, ⟨tp58, tr104⟩⟩⟩⟩⟩, ⟨⟨⟨⟨⟨tr107, tr25⟩, ⟨tr28, tr3⟩⟩, ⟨⟨tr30, tr4⟩, ⟨tr5, tr54⟩⟩⟩, ⟨⟨⟨tr56, tr58⟩, ⟨tr9, tu104⟩⟩, ⟨⟨tu25, tu28⟩, ⟨tu3, tu4⟩⟩⟩⟩, ⟨⟨⟨⟨tu5, tu54⟩, ⟨tu56, tu9⟩⟩, ⟨⟨tz104, tz107⟩, ⟨tz25, tz28⟩⟩⟩, ⟨⟨⟨tz3, tz30⟩, ⟨tz4, tz5⟩⟩, ⟨⟨tz54, tz56⟩, ⟨tz58, tz9⟩⟩⟩⟩⟩⟩
set_option maxRecDepth 100000 in
set_option maxHeartbeats 1000000 in
theorem detI_c (hl : GB 1048576 l) (hb : b.length ≤ 1048576) : AC Tryz.prog 37 [.d (encG l), .d (encB b)] none (fun r' _ => r' = ownI (detK l b l.length)) := by
  have hl1 := hl.len
  unfold encG
  refine calls_body Tryz.func37 rfl Tryz.call37 Tryz.ntmps37 (by simp) (by simp [ArgsOk]) (by simp [Rz.nkL, Rz.nk]) fun en hsz hks hk0 => ?_; simp only [St.init, frOf, Rz.addSL, Rz.addS, Rz.toAL, Rz.toA, Rz.nk, List.zipIdx_cons, List.zipIdx_nil, List.map_cons, List.map_nil, Nat.zero_add, Nat.reduceAdd]
  refine walkS ?_
  refine aw_loopS [1, 4, 10, 11] (fun κ s' => [(κ, keyOf (s'.f 5))]) (fun κ x => [(12, .d (iD (x.1 : Nat))), (5, .own κ 3 1 (x.2.map fun c => [iD c]))]) [] (fun _ _ => []) [32] (fun κ x => [(κ, some (x.2.length, 3, 1))]) (fun x : Nat × List Int => x.1 ≤ l.length ∧ x.2 = detK l b x.1) (fun x => l.length - x.1) ((0, [])) hks (fun _ => rfl) ⟨Nat.zero_le _, rfl⟩ wkS ?_; intro x hx; simp (decide := true) only [St.head, List.map_cons, List.map_nil, lk, rmv, List.cons_append, List.nil_append, List.append_nil, reduceIte, Nat.reduceAdd]
  obtain ⟨k, acc⟩ := x
  simp only at hx ⊢
  obtain ⟨hx1, rfl⟩ := hx
  have hlen := detK_len l b k
  refine walkS ?_
  refine aw_condS rfl (fun hk => ?_) (fun hk => ?_)
  · have hk' : k < l.length := by omega
    have hD := hl.el l[k] (List.getElem_mem _)
    have HF := isFileI_c hD (Nat.le_refl _) hb
    have hs := det_step (b := b) hk'
    cases hf : fileP l[k] b with
    | true =>
      rw [hf] at HF hs
      rw [if_pos rfl] at hs
      (repeat (first | refine walkS ?_ | (refine callPre ?_; (first | refine callN_funS rfl (HF) ?_)) | (refine callPreL ?_; (first | refine callL_funS rfl (HF) ?_))))
      refine aw_condS rfl (fun hc => ?_) (fun hc => ?_)
      · refine walkS ?_
        refine ⟨(k + 1, detK l b k ++ [(k : Int)]), ⟨by simp only; omega, hs.symm⟩, by simp only; omega, ?_⟩
        exact wkS
      · (first | exact absurd trivial hc | exact absurd rfl hc | (cases hc; done) | omega | exact absurd hc (by decide) | (simp at hc; done))
    | false =>
      rw [hf] at HF hs
      rw [if_neg (by decide)] at hs
      (repeat (first | refine walkS ?_ | (refine callPre ?_; (first | refine callN_funS rfl (HF) ?_)) | (refine callPreL ?_; (first | refine callL_funS rfl (HF) ?_))))
      refine aw_condS rfl (fun hc => ?_) (fun hc => ?_)
      · (first | exact absurd trivial hc | exact absurd rfl hc | (cases hc; done) | omega | exact absurd hc (by decide) | (simp at hc; done))
      · refine walkS ?_
        refine ⟨(k + 1, detK l b k), ⟨by simp only; omega, hs.symm⟩, by simp only; omega, ?_⟩
        exact wkS
  · obtain rfl : k = l.length := by omega
    refine walkS ?_
    (refine aw_ret ?_; (simp only [Fin, Tryz.results37]; refine finS ?_); exact ⟨_, _, .inl (toZ_own (by simp [lk, St.mem])), by simp, rfl⟩)
set_option maxRecDepth 100000 in
set_option maxHeartbeats 1000000 in
theorem detS_c (hl : GB 1048576 l) (hb : b.length ≤ 1048576) : AC Tryz.prog 35 [.d (encG l), .d (encB b)] none (fun r' _ => r' = ownI (detK l b l.length)) := by
  have hl1 := hl.len
  unfold encG
  refine calls_body Tryz.func35 rfl Tryz.call35 Tryz.ntmps35 (by simp) (by simp [ArgsOk]) (by simp [Rz.nkL, Rz.nk]) fun en hsz hks hk0 => ?_; simp only [St.init, frOf, Rz.addSL, Rz.addS, Rz.toAL, Rz.toA, Rz.nk, List.zipIdx_cons, List.zipIdx_nil, List.map_cons, List.map_nil, Nat.zero_add, Nat.reduceAdd]
  refine walkS ?_
  refine aw_loopS [1, 2, 4] (fun κ s' => [(κ, keyOf (s'.f 5))]) (fun κ x => [(6, .d (iD (x.1 : Nat))), (5, .own κ 3 1 (x.2.map fun c => [iD c]))]) [] (fun _ _ => []) [32] (fun κ x => [(κ, some (x.2.length, 3, 1))]) (fun x : Nat × List Int => x.1 ≤ l.length ∧ x.2 = detK l b x.1) (fun x => l.length - x.1) ((0, [])) hks (fun _ => rfl) ⟨Nat.zero_le _, rfl⟩ wkS ?_; intro x hx; simp (decide := true) only [St.head, List.map_cons, List.map_nil, lk, rmv, List.cons_append, List.nil_append, List.append_nil, reduceIte, Nat.reduceAdd]
  obtain ⟨k, acc⟩ := x
  simp only at hx ⊢
  obtain ⟨hx1, rfl⟩ := hx
  have hlen := detK_len l b k
  refine walkS ?_
  refine aw_condS rfl (fun hk => ?_) (fun hk => ?_)
  · have hk' : k < l.length := by omega
    have hD := hl.el l[k] (List.getElem_mem _)
    have HF := isFileS_c hD (Nat.le_refl _) hb
    have hs := det_step (b := b) hk'
    cases hf : fileP l[k] b with
    | true =>
      rw [hf] at HF hs
      rw [if_pos rfl] at hs
      (repeat (first | refine walkS ?_ | (refine callPre ?_; (first | refine callN_funS rfl (HF) ?_)) | (refine callPreL ?_; (first | refine callL_funS rfl (HF) ?_))))
      refine aw_condS rfl (fun hc => ?_) (fun hc => ?_)
      · refine walkS ?_
        refine ⟨(k + 1, detK l b k ++ [(k : Int)]), ⟨by simp only; omega, hs.symm⟩, by simp only; omega, ?_⟩
        exact wkS
      · (first | exact absurd trivial hc | exact absurd rfl hc | (cases hc; done) | omega | exact absurd hc (by decide) | (simp at hc; done))
    | false =>
      rw [hf] at HF hs
      rw [if_neg (by decide)] at hs
      (repeat (first | refine walkS ?_ | (refine callPre ?_; (first | refine callN_funS rfl (HF) ?_)) | (refine callPreL ?_; (first | refine callL_funS rfl (HF) ?_))))
      refine aw_condS rfl (fun hc => ?_) (fun hc => ?_)
      · (first | exact absurd trivial hc | exact absurd rfl hc | (cases hc; done) | omega | exact absurd hc (by decide) | (simp at hc; done))
      · refine walkS ?_
        refine ⟨(k + 1, detK l b k), ⟨by simp only; omega, hs.symm⟩, by simp only; omega, ?_⟩
        exact wkS
  · obtain rfl : k = l.length := by omega
    refine walkS ?_
    (refine aw_ret ?_; (simp only [Fin, Tryz.results35]; refine finS ?_); exact ⟨_, _, .inl (toZ_own (by simp [lk, St.mem])), by simp, rfl⟩)
end
end Go.Proofs.YtoegmaebdihnaaaGreatDoor.Eng
