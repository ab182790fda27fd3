/-
  SameFile: both sides.
-/
import Derived.Test.YtoegmaebdihnaaaGreatDoorKN34
import Derived.Test.YtoegmaebdihnaaaGreatDoorKN36
set_option linter.unusedSimpArgs false
set_option linter.unusedVariables false
namespace Go.Proofs.YtoegmaebdihnaaaGreatDoor.Eng
open Go Go.RowKit

theorem VBs.app {M : Nat} {v : V} {vs : List V} (h : VB M v) (k : VBs M vs) : VBs M (v :: vs) := by unfold VBs; exact ⟨h, k⟩
theorem VB_0 {M : Nat} : VB M V0 := by unfold V0 VB; exact ⟨Nat.zero_le _, Nat.zero_le _, by unfold VBs; trivial⟩
theorem rdItems_VB {M : Nat} {f : Nat → Nat → V × Nat × Nat} (hf : ∀ k p, VB M (f k p).1) : ∀ (ks : List Nat) (p : Nat), VBs M (rdItems f ks p).1 ∧ (rdItems f ks p).1.length ≤ ks.length
  | [], p => ⟨by unfold rdItems VBs; trivial, Nat.le_refl _⟩
  | k :: ks, p => by
    have h1 := hf k p
    unfold rdItems
    generalize f k p = x at *
    obtain ⟨v, q, c⟩ := x
    have h2 := rdItems_VB hf ks q
    simp only
    split
    · generalize rdItems f ks q = y at *
      obtain ⟨vs, q2, c2⟩ := y
      simp only
      split
      · exact ⟨VBs.app h1 h2.1, by simp only [List.length_cons]; have := h2.2; simp only at this; omega⟩
      · exact ⟨by unfold VBs; trivial, Nat.zero_le _⟩
    · exact ⟨by unfold VBs; trivial, Nat.zero_le _⟩
theorem mkItems_VB {M : Nat} {n : Int} {x : List V × Nat × Nat} (h : VBs M x.1) (hl : x.1.length ≤ M) : VB M (mkItems n x).1 := by
  unfold mkItems
  split
  · unfold VB; exact ⟨Nat.zero_le _, hl, h⟩
  · exact VB_0
theorem bytesAt_VB {M : Nat} {b : List UInt8} {p n : Nat} (h : b.length ≤ M) : VB M (bytesAt b p n).1 := by
  unfold bytesAt
  split
  · exact VB_0
  · unfold VB; exact ⟨by simp; omega, Nat.zero_le _, by unfold VBs; trivial⟩
theorem term_VB (t : UInt8) : ∀ (n : Nat) (l : List UInt8), l.length ≤ n → ∀ x, term t l = some x → x.1.length ≤ l.length := by
  intro n
  induction n with
  | zero =>
    intro l hl x h
    have : l = [] := List.eq_nil_of_length_eq_zero (by omega)
    subst this
    simp [term] at h
  | succ n ih =>
    intro l hl x h
    match l with
    | [] => simp [term] at h
    | c :: r =>
      rw [term_cons] at h
      simp only [List.length_cons] at hl ⊢
      split at h
      · have := Option.some.inj h; subst this; simp
      · split at h
        · match r with
          | [] => simp at h
          | d :: r2 =>
            simp only [Option.map_eq_some_iff] at h
            obtain ⟨y, hy, rfl⟩ := h
            have := ih r2 (by simp at hl; omega) y hy
            simp; omega
        · simp only [Option.map_eq_some_iff] at h
          obtain ⟨y, hy, rfl⟩ := h
          have := ih r (by omega) y hy
          simp; omega
theorem readTerm_VB {b : List UInt8} {p : Nat} {t : UInt8} {x : List UInt8 × Nat} (h : readTerm b p t = some x) : x.1.length ≤ b.length := by
  unfold readTerm at h
  simp only [Option.map_eq_some_iff] at h
  obtain ⟨y, hy, rfl⟩ := h
  have := term_VB t _ _ (Nat.le_refl _) y hy
  simp at this ⊢
  omega
theorem rd_VB {D : List RuleD} {b : List UInt8} {M : Nat} (hD : DB M D) (hb : b.length ≤ M) (h40 : 40 ≤ M) : ∀ (f rule p : Nat), VB M (rd D b f rule p).1
  | 0, rule, p => VB_0
  | f + 1, rule, p => by
    have IT : ∀ (n : Int) (ks : List Nat) (q : Nat), ks.length ≤ M → VB M (mkItems n (rdItems (rd D b f) ks q)).1 := fun n ks q h => by
      have := rdItems_VB (fun k p => rd_VB hD hb h40 f k p) ks q
      exact mkItems_VB this.1 (by omega)
    have ITE : ∀ (c : Prop) [Decidable c] (x y : V × Nat × Nat), (c → VB M x.1) → VB M y.1 → VB M (if c then x else y).1 := fun c _ x y hx hy => by
      by_cases h : c
      · rw [if_pos h]; exact hx h
      · rw [if_neg h]; exact hy
    have hk : (ruleD D rule).kids.length ≤ M := by
      unfold ruleD
      cases hr : ruleAt D rule with
      | none => exact Nat.zero_le _
      | some r =>
        unfold ruleAt at hr
        split at hr
        · exact (hD.rule r (List.mem_of_getElem? hr)).lk
        · cases hr
    rw [rd]
    dsimp only
    generalize ruleD D rule = r at *
    refine ITE _ _ _ (fun _ => ?_) (ITE _ _ _ (fun _ => VB_0) (ITE _ _ _ (fun _ => bytesAt_VB hb) (ITE _ _ _ (fun _ => ?_) (ITE _ _ _ (fun _ => IT _ _ _ (by simpa using hk)) (ITE _ _ _ (fun _ => ?_) (ITE _ _ _ (fun _ => ?_) (ITE _ _ _ (fun _ => ?_) ?_)))))))
    · split
      · unfold VB; exact ⟨Nat.zero_le _, Nat.zero_le _, by unfold VBs; trivial⟩
      · exact VB_0
    · split
      · rename_i x h
        unfold VB
        exact ⟨by have := readTerm_VB h; omega, Nat.zero_le _, by unfold VBs; trivial⟩
      · exact VB_0
    · split
      · exact VB_0
      · split
        · exact VB_0
        · exact IT _ _ _ (by simp; omega)
    · split
      · exact VB_0
      · rename_i c _
        by_cases h : 1 < c.toNat
        · rw [if_pos h]; exact VB_0
        · rw [if_neg h]; exact IT _ _ _ (by simp; omega)
    · have h1 := IT 0 [(kid0 r).toNat] p (by simp; omega)
      generalize mkItems 0 (rdItems (rd D b f) [(kid0 r).toNat] p) = x at *
      obtain ⟨v, q, c⟩ := x
      dsimp only
      refine ITE _ _ _ (fun _ => ?_) h1
      split
      · exact VB_0
      · exact ITE _ _ _ (fun _ => h1) VB_0
    · split
      · exact VB_0
      · rename_i n _
        refine ITE _ _ _ (fun _ => bytesAt_VB hb) ?_
        by_cases h : 40 < n
        · rw [if_pos h]; exact VB_0
        · rw [if_neg h]; exact IT _ _ _ (by simp; omega)
theorem readV_VB {D : List RuleD} {b : List UInt8} {M : Nat} (hD : DB M D) (hb : b.length ≤ M) (h40 : 40 ≤ M) (i p : Int) : VB M (readV D b i p).1 := by
  unfold readV
  split
  · exact rd_VB hD hb h40 _ _ _
  · exact VB_0
theorem readF_VB {D : List RuleD} {b : List UInt8} {M : Nat} (hD : DB M D) (hb : b.length ≤ M) (h40 : 40 ≤ M) : VB M (readF D b).1 := by
  unfold readF
  split
  · exact VB_0
  · exact readV_VB hD hb h40 _ _
theorem DB.mono {M N : Nat} {D : List RuleD} (h : DB M D) (k : M ≤ N) : DB N D :=
  ⟨Nat.le_trans h.len k, fun r hr => by
    have := h.rule r hr
    exact ⟨Nat.le_trans this.name k, Nat.le_trans this.lb k, Nat.le_trans this.ln k, Nat.le_trans this.lt k, Nat.le_trans this.lk k, fun s hs => Nat.le_trans (this.nm s hs) k⟩⟩

noncomputable def sameP (D : List RuleD) (a b : List UInt8) : Bool := ((((readF D a).2.2 : Int) == 0) && (((readF D b).2.2 : Int) == 0)) && eqV (readF D a).1 (readF D b).1
section
variable {M : Nat} {D : List RuleD} {a b : List UInt8}
private theorem tyF : ((((((bytesT Tryz.prog 25 = true ∧ tyElem Tryz.prog 104 = some 9) ∧ (tyElem Tryz.prog 25 = some 5 ∧ tyElem Tryz.prog 28 = some 107)) ∧ ((tyElem Tryz.prog 39 = some 41 ∧ tyElem Tryz.prog 54 = some 3) ∧ (tyField Tryz.prog 107 0 = some (0, 9) ∧ tyField Tryz.prog 107 1 = some (1, 3)))) ∧ (((tyField Tryz.prog 107 2 = some (2, 3) ∧ tyField Tryz.prog 107 3 = some (3, 4)) ∧ (tyField Tryz.prog 107 4 = some (4, 25) ∧ tyField Tryz.prog 107 5 = some (5, 104))) ∧ ((tyField Tryz.prog 107 6 = some (6, 54) ∧ tyField Tryz.prog 107 7 = some (7, 54)) ∧ (tyField Tryz.prog 30 0 = some (0, 28) ∧ tyField Tryz.prog 41 0 = some (0, 3))))) ∧ ((((tyField Tryz.prog 41 1 = some (1, 25) ∧ tyField Tryz.prog 41 2 = some (2, 39)) ∧ (tyK Tryz.prog 104 = some (false, 1) ∧ tyK Tryz.prog 107 = some (true, 8))) ∧ ((tyK Tryz.prog 25 = some (false, 1) ∧ tyK Tryz.prog 28 = some (false, 1)) ∧ (tyK Tryz.prog 3 = some (false, 1) ∧ tyK Tryz.prog 30 = some (true, 1)))) ∧ (((tyK Tryz.prog 39 = some (false, 1) ∧ tyK Tryz.prog 4 = some (false, 1)) ∧ (tyK Tryz.prog 41 = some (true, 3) ∧ tyK Tryz.prog 5 = some (false, 1))) ∧ ((tyK Tryz.prog 54 = some (false, 1) ∧ tyK Tryz.prog 9 = some (false, 1)) ∧ (tyPlaces Tryz.prog 107 = some [(0, 1), (1, 1), (2, 1), (3, 1), (4, 1), (5, 1), (6, 1), (7, 1)] ∧ (tyPlaces Tryz.prog 30 = some [(0, 1)] ∧ tyPlaces Tryz.prog 41 = some [(0, 1), (1, 1), (2, 1)])))))) ∧ (((((tyRow Tryz.prog 104 = some 1 ∧ tyRow Tryz.prog 107 = some 8) ∧ (tyRow Tryz.prog 25 = some 1 ∧ tyRow Tryz.prog 28 = some 1)) ∧ ((tyRow Tryz.prog 3 = some 1 ∧ tyRow Tryz.prog 30 = some 1) ∧ (tyRow Tryz.prog 39 = some 1 ∧ tyRow Tryz.prog 4 = some 1))) ∧ (((tyRow Tryz.prog 41 = some 3 ∧ tyRow Tryz.prog 5 = some 1) ∧ (tyRow Tryz.prog 54 = some 1 ∧ tyRow Tryz.prog 9 = some 1)) ∧ ((Tryz.prog.underlying 104 = some (TypeDesc.slice 9) ∧ Tryz.prog.underlying 25 = some (TypeDesc.slice 5)) ∧ (Tryz.prog.underlying 28 = some (TypeDesc.slice 107) ∧ Tryz.prog.underlying 3 = some (TypeDesc.int IntKind.i64))))) ∧ ((((Tryz.prog.underlying 39 = some (TypeDesc.slice 41) ∧ Tryz.prog.underlying 4 = some (TypeDesc.bool)) ∧ (Tryz.prog.underlying 5 = some (TypeDesc.int IntKind.u8) ∧ Tryz.prog.underlying 54 = some (TypeDesc.slice 3))) ∧ ((Tryz.prog.underlying 9 = some (TypeDesc.string) ∧ tyZero Tryz.prog 104 = some [Value.slice none 0 0]) ∧ (tyZero Tryz.prog 107 = some [Value.string ByteArray.empty, Value.int IntKind.i64 0, Value.int IntKind.i64 0, Value.bool false, Value.slice none 0 0, Value.slice none 0 0, Value.slice none 0 0, Value.slice none 0 0] ∧ tyZero Tryz.prog 25 = some [Value.slice none 0 0]))) ∧ (((tyZero Tryz.prog 28 = some [Value.slice none 0 0] ∧ tyZero Tryz.prog 3 = some [Value.int IntKind.i64 0]) ∧ (tyZero Tryz.prog 30 = some [Value.slice none 0 0] ∧ tyZero Tryz.prog 39 = some [Value.slice none 0 0])) ∧ ((tyZero Tryz.prog 4 = some [Value.bool false] ∧ tyZero Tryz.prog 41 = some [Value.int IntKind.i64 0, Value.slice none 0 0, Value.slice none 0 0]) ∧ (tyZero Tryz.prog 5 = some [Value.int IntKind.u8 0] ∧ (tyZero Tryz.prog 54 = some [Value.slice none 0 0] ∧ tyZero Tryz.prog 9 = some [Value.string ByteArray.empty]))))))) := ⟨⟨⟨⟨⟨⟨tb25, te104⟩, ⟨te25, te28⟩⟩, ⟨⟨te39, te54⟩, ⟨tf107_0, tf107_1⟩⟩⟩, ⟨⟨⟨tf107_2, tf107_3⟩, ⟨tf107_4, tf107_5⟩⟩, ⟨⟨tf107_6, tf107_7⟩, ⟨tf30_0, tf41_0⟩⟩⟩⟩, ⟨⟨⟨⟨tf41_1, tf41_2⟩, ⟨tk104, tk107⟩⟩, ⟨⟨tk25, tk28⟩, ⟨tk3, tk30⟩⟩⟩, ⟨⟨⟨tk39, tk4⟩, ⟨tk41, tk5⟩⟩, ⟨⟨tk54, tk9⟩, ⟨tp107, ⟨tp30, tp41⟩⟩⟩⟩⟩⟩, ⟨⟨⟨⟨⟨tr104, tr107⟩, ⟨tr25, tr28⟩⟩, ⟨⟨tr3, tr30⟩, ⟨tr39, tr4⟩⟩⟩, ⟨⟨⟨tr41, tr5⟩, ⟨tr54, tr9⟩⟩, ⟨⟨tu104, tu25⟩, ⟨tu28, tu3⟩⟩⟩⟩, ⟨⟨⟨⟨tu39, tu4⟩, ⟨tu5, tu54⟩⟩, ⟨⟨tu9, tz104⟩, ⟨tz107, tz25⟩⟩⟩, ⟨⟨⟨tz28, tz3⟩, ⟨tz30, tz39⟩⟩, ⟨⟨tz4, tz41⟩, ⟨tz5, ⟨tz54, tz9⟩⟩⟩⟩⟩⟩⟩
set_option maxRecDepth 100000 in
set_option maxHeartbeats 1000000 in
theorem sameI_c (hD : DB M D) (hM : M ≤ 1048576) (ha : a.length ≤ 1048576) (hb : b.length ≤ 1048576) : AC Tryz.prog 24 [.d (encD D), .d (encB a), .d (encB b)] none (fun r' _ => r' = .d (bD (sameP D a b))) := by
  have HA := readFileI_c hD hM ha
  have HB := readFileI_c hD hM hb
  have va := readF_VB (hD.mono hM) ha (by omega)
  have vb := readF_VB (hD.mono hM) hb (by omega)
  have hs : sameP D a b = (((((readF D a).2.2 : Int) == 0) && (((readF D b).2.2 : Int) == 0)) && eqV (readF D a).1 (readF D b).1) := rfl
  generalize readF D a = x at *
  generalize readF D b = y at *
  obtain ⟨v, q, c⟩ := x
  obtain ⟨w, q2, c2⟩ := y
  have HE := eqValI_c va vb
  simp only at hs HE
  by_cases h1 : c = 0
  · subst h1
    by_cases h2 : c2 = 0
    · subst h2
      refine calls_body Tryz.func24 rfl Tryz.call24 Tryz.ntmps24 (by simp) (by simp [ArgsOk]) (by simp [Rz.nkL, Rz.nk]) fun en hsz hks hk0 => ?_; simp only [St.init, frOf, Rz.addSL, Rz.addS, Rz.toAL, Rz.toA, Rz.nk, List.zipIdx_cons, List.zipIdx_nil, List.map_cons, List.map_nil, Nat.zero_add, Nat.reduceAdd]
      (repeat (first | refine walkS ?_ | (refine callPre ?_; (first | refine callN_funS rfl (HA) ?_ | refine callN_funS rfl (HB) ?_ | refine callN_funS rfl (HE) ?_)) | (refine callPreL ?_; (first | refine callL_funS rfl (HA) ?_ | refine callL_funS rfl (HB) ?_ | refine callL_funS rfl (HE) ?_))))
      (refine aw_ret ?_; (simp only [Fin, Tryz.results24]; refine finS ?_); exact ⟨_, _, .inl ⟨rfl, rfl⟩, List.nodup_nil, by rw [hs]; rfl⟩)
    · have e2 : ((c2 : Int) == 0) = false := by simpa using h2
      refine calls_body Tryz.func24 rfl Tryz.call24 Tryz.ntmps24 (by simp) (by simp [ArgsOk]) (by simp [Rz.nkL, Rz.nk]) fun en hsz hks hk0 => ?_; simp only [St.init, frOf, Rz.addSL, Rz.addS, Rz.toAL, Rz.toA, Rz.nk, List.zipIdx_cons, List.zipIdx_nil, List.map_cons, List.map_nil, Nat.zero_add, Nat.reduceAdd]
      (repeat (first | refine aw_seq ?_ | refine aw_region ?_ | refine aw_block ?_ | (refine aw_exit ?_; (try simp (decide := true) only [reduceIte])) | (refine aw_skip ?_; try dsimp only) | (refine aw_any (by kernel_rfl) (by kernel_rfl) (by simp only [hsz]; kernel_rfl) ?_) | (refine ow_nil ?_; try dsimp only) | (refine ol_go ?_ (fun K1 hK1 => ?_); (first | exact trivial | exact rfl); refine evS ?_; (try simp only [e2]); refine hK1 _ _ ?_; clear hK1 K1) | (refine ol_skip rfl rfl ?_ ?_; (focus (intro hne; cases hne; done)); simp only [St.set]) | (refine ol_nil ⟨by kernel_rfl, ?_⟩; try dsimp only) | (refine ow_go ?_ (fun x hx => by cases hx <;> (rw [hsz]; decide)) (fun K1 hK1 => ?_); (first | exact trivial | exact rfl); refine evS ?_; (try simp only [e2]); refine hK1 _ ?_; clear hK1 K1) | (refine ow_skip rfl rfl ?_ (fun x hx => by cases hx <;> (rw [hsz]; decide)) ?_; (focus (intro hne; cases hne; done)); simp only [St.set]) | (refine callPre ?_; (first | refine callN_funS rfl (HA) ?_ | refine callN_funS rfl (HB) ?_ | refine callN_funS rfl (HE) ?_)) | (refine callPreL ?_; (first | refine callL_funS rfl (HA) ?_ | refine callL_funS rfl (HB) ?_ | refine callL_funS rfl (HE) ?_))))
      (refine aw_ret ?_; (simp only [Fin, Tryz.results24]; refine finS ?_); exact ⟨_, _, .inl ⟨rfl, rfl⟩, List.nodup_nil, by rw [hs, e2]; rfl⟩)
  · have e1 : ((c : Int) == 0) = false := by simpa using h1
    refine calls_body Tryz.func24 rfl Tryz.call24 Tryz.ntmps24 (by simp) (by simp [ArgsOk]) (by simp [Rz.nkL, Rz.nk]) fun en hsz hks hk0 => ?_; simp only [St.init, frOf, Rz.addSL, Rz.addS, Rz.toAL, Rz.toA, Rz.nk, List.zipIdx_cons, List.zipIdx_nil, List.map_cons, List.map_nil, Nat.zero_add, Nat.reduceAdd]
    (repeat (first | refine aw_seq ?_ | refine aw_region ?_ | refine aw_block ?_ | (refine aw_exit ?_; (try simp (decide := true) only [reduceIte])) | (refine aw_skip ?_; try dsimp only) | (refine aw_any (by kernel_rfl) (by kernel_rfl) (by simp only [hsz]; kernel_rfl) ?_) | (refine ow_nil ?_; try dsimp only) | (refine ol_go ?_ (fun K1 hK1 => ?_); (first | exact trivial | exact rfl); refine evS ?_; (try simp only [e1]); refine hK1 _ _ ?_; clear hK1 K1) | (refine ol_skip rfl rfl ?_ ?_; (focus (intro hne; cases hne; done)); simp only [St.set]) | (refine ol_nil ⟨by kernel_rfl, ?_⟩; try dsimp only) | (refine ow_go ?_ (fun x hx => by cases hx <;> (rw [hsz]; decide)) (fun K1 hK1 => ?_); (first | exact trivial | exact rfl); refine evS ?_; (try simp only [e1]); refine hK1 _ ?_; clear hK1 K1) | (refine ow_skip rfl rfl ?_ (fun x hx => by cases hx <;> (rw [hsz]; decide)) ?_; (focus (intro hne; cases hne; done)); simp only [St.set]) | (refine callPre ?_; (first | refine callN_funS rfl (HA) ?_ | refine callN_funS rfl (HB) ?_ | refine callN_funS rfl (HE) ?_)) | (refine callPreL ?_; (first | refine callL_funS rfl (HA) ?_ | refine callL_funS rfl (HB) ?_ | refine callL_funS rfl (HE) ?_))))
    (refine aw_ret ?_; (simp only [Fin, Tryz.results24]; refine finS ?_); exact ⟨_, _, .inl ⟨rfl, rfl⟩, List.nodup_nil, by rw [hs, e1]; rfl⟩)
set_option maxRecDepth 100000 in
set_option maxHeartbeats 1000000 in
theorem sameS_c (hD : DB M D) (hM : M ≤ 1048576) (ha : a.length ≤ 1048576) (hb : b.length ≤ 1048576) : AC Tryz.prog 23 [.d (encD D), .d (encB a), .d (encB b)] none (fun r' _ => r' = .d (bD (sameP D a b))) := by
  have HA := readFile_c hD hM ha
  have HB := readFile_c hD hM hb
  have va := readF_VB (hD.mono hM) ha (by omega)
  have vb := readF_VB (hD.mono hM) hb (by omega)
  have hs : sameP D a b = (((((readF D a).2.2 : Int) == 0) && (((readF D b).2.2 : Int) == 0)) && eqV (readF D a).1 (readF D b).1) := rfl
  generalize readF D a = x at *
  generalize readF D b = y at *
  obtain ⟨v, q, c⟩ := x
  obtain ⟨w, q2, c2⟩ := y
  have HE := eqValS_c va vb
  simp only at hs HE
  by_cases h1 : c = 0
  · subst h1
    by_cases h2 : c2 = 0
    · subst h2
      refine calls_body Tryz.func23 rfl Tryz.call23 Tryz.ntmps23 (by simp) (by simp [ArgsOk]) (by simp [Rz.nkL, Rz.nk]) fun en hsz hks hk0 => ?_; simp only [St.init, frOf, Rz.addSL, Rz.addS, Rz.toAL, Rz.toA, Rz.nk, List.zipIdx_cons, List.zipIdx_nil, List.map_cons, List.map_nil, Nat.zero_add, Nat.reduceAdd]
      (repeat (first | refine walkS ?_ | (refine callPre ?_; (first | refine callN_funS rfl (HA) ?_ | refine callN_funS rfl (HB) ?_ | refine callN_funS rfl (HE) ?_)) | (refine callPreL ?_; (first | refine callL_funS rfl (HA) ?_ | refine callL_funS rfl (HB) ?_ | refine callL_funS rfl (HE) ?_))))
      (refine aw_ret ?_; (simp only [Fin, Tryz.results23]; refine finS ?_); exact ⟨_, _, .inl ⟨rfl, rfl⟩, List.nodup_nil, by rw [hs]; rfl⟩)
    · have e2 : ((c2 : Int) == 0) = false := by simpa using h2
      refine calls_body Tryz.func23 rfl Tryz.call23 Tryz.ntmps23 (by simp) (by simp [ArgsOk]) (by simp [Rz.nkL, Rz.nk]) fun en hsz hks hk0 => ?_; simp only [St.init, frOf, Rz.addSL, Rz.addS, Rz.toAL, Rz.toA, Rz.nk, List.zipIdx_cons, List.zipIdx_nil, List.map_cons, List.map_nil, Nat.zero_add, Nat.reduceAdd]
      (repeat (first | refine aw_seq ?_ | refine aw_region ?_ | refine aw_block ?_ | (refine aw_exit ?_; (try simp (decide := true) only [reduceIte])) | (refine aw_skip ?_; try dsimp only) | (refine aw_any (by kernel_rfl) (by kernel_rfl) (by simp only [hsz]; kernel_rfl) ?_) | (refine ow_nil ?_; try dsimp only) | (refine ol_go ?_ (fun K1 hK1 => ?_); (first | exact trivial | exact rfl); refine evS ?_; (try simp only [e2]); refine hK1 _ _ ?_; clear hK1 K1) | (refine ol_skip rfl rfl ?_ ?_; (focus (intro hne; cases hne; done)); simp only [St.set]) | (refine ol_nil ⟨by kernel_rfl, ?_⟩; try dsimp only) | (refine ow_go ?_ (fun x hx => by cases hx <;> (rw [hsz]; decide)) (fun K1 hK1 => ?_); (first | exact trivial | exact rfl); refine evS ?_; (try simp only [e2]); refine hK1 _ ?_; clear hK1 K1) | (refine ow_skip rfl rfl ?_ (fun x hx => by cases hx <;> (rw [hsz]; decide)) ?_; (focus (intro hne; cases hne; done)); simp only [St.set]) | (refine callPre ?_; (first | refine callN_funS rfl (HA) ?_ | refine callN_funS rfl (HB) ?_ | refine callN_funS rfl (HE) ?_)) | (refine callPreL ?_; (first | refine callL_funS rfl (HA) ?_ | refine callL_funS rfl (HB) ?_ | refine callL_funS rfl (HE) ?_))))
      (refine aw_ret ?_; (simp only [Fin, Tryz.results23]; refine finS ?_); exact ⟨_, _, .inl ⟨rfl, rfl⟩, List.nodup_nil, by rw [hs, e2]; rfl⟩)
  · have e1 : ((c : Int) == 0) = false := by simpa using h1
    refine calls_body Tryz.func23 rfl Tryz.call23 Tryz.ntmps23 (by simp) (by simp [ArgsOk]) (by simp [Rz.nkL, Rz.nk]) fun en hsz hks hk0 => ?_; simp only [St.init, frOf, Rz.addSL, Rz.addS, Rz.toAL, Rz.toA, Rz.nk, List.zipIdx_cons, List.zipIdx_nil, List.map_cons, List.map_nil, Nat.zero_add, Nat.reduceAdd]
    (repeat (first | refine aw_seq ?_ | refine aw_region ?_ | refine aw_block ?_ | (refine aw_exit ?_; (try simp (decide := true) only [reduceIte])) | (refine aw_skip ?_; try dsimp only) | (refine aw_any (by kernel_rfl) (by kernel_rfl) (by simp only [hsz]; kernel_rfl) ?_) | (refine ow_nil ?_; try dsimp only) | (refine ol_go ?_ (fun K1 hK1 => ?_); (first | exact trivial | exact rfl); refine evS ?_; (try simp only [e1]); refine hK1 _ _ ?_; clear hK1 K1) | (refine ol_skip rfl rfl ?_ ?_; (focus (intro hne; cases hne; done)); simp only [St.set]) | (refine ol_nil ⟨by kernel_rfl, ?_⟩; try dsimp only) | (refine ow_go ?_ (fun x hx => by cases hx <;> (rw [hsz]; decide)) (fun K1 hK1 => ?_); (first | exact trivial | exact rfl); refine evS ?_; (try simp only [e1]); refine hK1 _ ?_; clear hK1 K1) | (refine ow_skip rfl rfl ?_ (fun x hx => by cases hx <;> (rw [hsz]; decide)) ?_; (focus (intro hne; cases hne; done)); simp only [St.set]) | (refine callPre ?_; (first | refine callN_funS rfl (HA) ?_ | refine callN_funS rfl (HB) ?_ | refine callN_funS rfl (HE) ?_)) | (refine callPreL ?_; (first | refine callL_funS rfl (HA) ?_ | refine callL_funS rfl (HB) ?_ | refine callL_funS rfl (HE) ?_))))
    (refine aw_ret ?_; (simp only [Fin, Tryz.results23]; refine finS ?_); exact ⟨_, _, .inl ⟨rfl, rfl⟩, List.nodup_nil, by rw [hs, e1]; rfl⟩)
end
end Go.Proofs.YtoegmaebdihnaaaGreatDoor.Eng
