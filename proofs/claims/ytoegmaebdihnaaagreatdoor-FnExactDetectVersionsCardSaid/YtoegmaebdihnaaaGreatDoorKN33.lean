/-
  The program's reader: ReadValue, ReadFile, IsFileOf.
-/
import Derived.Test.YtoegmaebdihnaaaGreatDoorKN32
import Derived.Test.YtoegmaebdihnaaaGreatDoorKN23
import Derived.Test.YtoegmaebdihnaaaGreatDoorKN40
set_option linter.unusedSimpArgs false
set_option linter.unusedVariables false
namespace Go.Proofs.YtoegmaebdihnaaaGreatDoor.Eng
open Go Go.RowKit

theorem mkItems_err {n : Int} {x : List V × Nat × Nat} (h : (mkItems n x).2.2 ≠ 0) : (mkItems n x).1 = V0 := by
  unfold mkItems at h ⊢
  split
  · rename_i h0
    rw [if_pos h0] at h
    exact absurd rfl h
  · rfl
theorem rd_err (D : List RuleD) (b : List UInt8) : ∀ (f rule p : Nat), (rd D b f rule p).2.2 ≠ 0 → (rd D b f rule p).1 = V0
  | 0, rule, p, _ => rfl
  | f + 1, rule, p, h => by
    have ITE : ∀ (c : Prop) [Decidable c] (x y : V × Nat × Nat), (x.2.2 ≠ 0 → x.1 = V0) → (y.2.2 ≠ 0 → y.1 = V0) → (if c then x else y).2.2 ≠ 0 → (if c then x else y).1 = V0 := fun c _ x y hx hy => by
      by_cases h : c
      · rw [if_pos h]; exact hx
      · rw [if_neg h]; exact hy
    have BA : ∀ q n, (bytesAt b q n).2.2 ≠ 0 → (bytesAt b q n).1 = V0 := fun q n h => by
      unfold bytesAt at h ⊢
      split
      · rfl
      · rename_i h0; rw [if_neg h0] at h; exact absurd rfl h
    revert h
    rw [rd]
    dsimp only
    generalize ruleD D rule = r
    refine ITE _ _ _ ?_ (ITE _ _ _ (fun _ => rfl) (ITE _ _ _ (BA _ _) (ITE _ _ _ ?_ (ITE _ _ _ mkItems_err (ITE _ _ _ ?_ (ITE _ _ _ ?_ (ITE _ _ _ ?_ ?_)))))))
    · split
      · exact fun h => absurd rfl h
      · exact fun _ => rfl
    · split
      · exact fun h => absurd rfl h
      · exact fun _ => rfl
    · split
      · exact fun _ => rfl
      · split
        · exact fun _ => rfl
        · exact mkItems_err
    · split
      · exact fun _ => rfl
      · exact ITE _ _ _ (fun _ => rfl) mkItems_err
    · have h1 := mkItems_err (n := 0) (x := rdItems (rd D b f) [(kid0 r).toNat] p)
      generalize mkItems 0 (rdItems (rd D b f) [(kid0 r).toNat] p) = x at *
      obtain ⟨v, q, c⟩ := x
      dsimp only
      refine ITE _ _ _ ?_ h1
      split
      · exact fun _ => rfl
      · exact ITE _ _ _ (fun h => absurd rfl h) (fun _ => rfl)
    · split
      · exact fun _ => rfl
      · exact ITE _ _ _ (BA _ _) (ITE _ _ _ (fun _ => rfl) mkItems_err)

section
variable {M : Nat} {D : List RuleD} {b : List UInt8}
private theorem tyF : ((((((bytesT Tryz.prog 25 = true ∧ (tyElem Tryz.prog 104 = some 9 ∧ tyElem Tryz.prog 25 = some 5)) ∧ (tyElem Tryz.prog 28 = some 107 ∧ (tyElem Tryz.prog 39 = some 41 ∧ tyElem Tryz.prog 54 = some 3))) ∧ ((tyField Tryz.prog 107 0 = some (0, 9) ∧ (tyField Tryz.prog 107 1 = some (1, 3) ∧ tyField Tryz.prog 107 2 = some (2, 3))) ∧ (tyField Tryz.prog 107 3 = some (3, 4) ∧ (tyField Tryz.prog 107 4 = some (4, 25) ∧ tyField Tryz.prog 107 5 = some (5, 104))))) ∧ (((tyField Tryz.prog 107 6 = some (6, 54) ∧ (tyField Tryz.prog 107 7 = some (7, 54) ∧ tyField Tryz.prog 30 0 = some (0, 28))) ∧ (tyField Tryz.prog 41 0 = some (0, 3) ∧ (tyField Tryz.prog 41 1 = some (1, 25) ∧ tyField Tryz.prog 41 2 = some (2, 39)))) ∧ ((tyField Tryz.prog 81 0 = some (0, 30) ∧ (tyField Tryz.prog 81 1 = some (1, 25) ∧ tyField Tryz.prog 90 0 = some (0, 3))) ∧ (tyField Tryz.prog 90 1 = some (1, 3) ∧ (tyK Tryz.prog 104 = some (false, 1) ∧ tyK Tryz.prog 107 = some (true, 8)))))) ∧ ((((tyK Tryz.prog 20 = some (false, 1) ∧ (tyK Tryz.prog 25 = some (false, 1) ∧ tyK Tryz.prog 28 = some (false, 1))) ∧ (tyK Tryz.prog 3 = some (false, 1) ∧ (tyK Tryz.prog 30 = some (true, 1) ∧ tyK Tryz.prog 39 = some (false, 1)))) ∧ ((tyK Tryz.prog 4 = some (false, 1) ∧ (tyK Tryz.prog 41 = some (true, 3) ∧ tyK Tryz.prog 5 = some (false, 1))) ∧ (tyK Tryz.prog 54 = some (false, 1) ∧ (tyK Tryz.prog 79 = some (false, 1) ∧ tyK Tryz.prog 81 = some (true, 2))))) ∧ (((tyK Tryz.prog 83 = some (false, 1) ∧ (tyK Tryz.prog 86 = some (false, 1) ∧ tyK Tryz.prog 88 = some (false, 1))) ∧ (tyK Tryz.prog 9 = some (false, 1) ∧ (tyK Tryz.prog 90 = some (true, 2) ∧ tyPlaces Tryz.prog 107 = some [(0, 1), (1, 1), (2, 1), (3, 1), (4, 1), (5, 1), (6, 1), (7, 1)]))) ∧ ((tyPlaces Tryz.prog 30 = some [(0, 1)] ∧ (tyPlaces Tryz.prog 41 = some [(0, 1), (1, 1), (2, 1)] ∧ tyPlaces Tryz.prog 81 = some [(0, 1), (1, 1)])) ∧ ((tyPlaces Tryz.prog 90 = some [(0, 1), (1, 1)] ∧ tyFlat Tryz.prog 90 = some [0, 0]) ∧ (tyRow Tryz.prog 104 = some 1 ∧ tyRow Tryz.prog 107 = some 8)))))) ∧ (((((tyRow Tryz.prog 20 = some 1 ∧ (tyRow Tryz.prog 25 = some 1 ∧ tyRow Tryz.prog 28 = some 1)) ∧ (tyRow Tryz.prog 3 = some 1 ∧ (tyRow Tryz.prog 30 = some 1 ∧ tyRow Tryz.prog 39 = some 1))) ∧ ((tyRow Tryz.prog 4 = some 1 ∧ (tyRow Tryz.prog 41 = some 3 ∧ tyRow Tryz.prog 5 = some 1)) ∧ (tyRow Tryz.prog 54 = some 1 ∧ (tyRow Tryz.prog 79 = some 1 ∧ tyRow Tryz.prog 81 = some 2)))) ∧ (((tyRow Tryz.prog 83 = some 1 ∧ (tyRow Tryz.prog 86 = some 1 ∧ tyRow Tryz.prog 88 = some 1)) ∧ (tyRow Tryz.prog 9 = some 1 ∧ (tyRow Tryz.prog 90 = some 2 ∧ Tryz.prog.underlying 104 = some (TypeDesc.slice 9)))) ∧ ((Tryz.prog.underlying 20 = some (TypeDesc.interface #[]) ∧ (Tryz.prog.underlying 25 = some (TypeDesc.slice 5) ∧ Tryz.prog.underlying 28 = some (TypeDesc.slice 107))) ∧ ((Tryz.prog.underlying 3 = some (TypeDesc.int IntKind.i64) ∧ Tryz.prog.underlying 39 = some (TypeDesc.slice 41)) ∧ (Tryz.prog.underlying 4 = some (TypeDesc.bool) ∧ Tryz.prog.underlying 5 = some (TypeDesc.int IntKind.u8)))))) ∧ ((((Tryz.prog.underlying 54 = some (TypeDesc.slice 3) ∧ (Tryz.prog.underlying 79 = some (TypeDesc.pointer 81) ∧ Tryz.prog.underlying 83 = some (TypeDesc.interface #[("Error", 222)]))) ∧ (Tryz.prog.underlying 86 = some (TypeDesc.pointer 90) ∧ (Tryz.prog.underlying 88 = some (TypeDesc.pointer 86) ∧ Tryz.prog.underlying 9 = some (TypeDesc.string)))) ∧ ((tyZero Tryz.prog 104 = some [Value.slice none 0 0] ∧ (tyZero Tryz.prog 107 = some [Value.string ByteArray.empty, Value.int IntKind.i64 0, Value.int IntKind.i64 0, Value.bool false, Value.slice none 0 0, Value.slice none 0 0, Value.slice none 0 0, Value.slice none 0 0] ∧ tyZero Tryz.prog 20 = some [Value.nilIface])) ∧ (tyZero Tryz.prog 25 = some [Value.slice none 0 0] ∧ (tyZero Tryz.prog 28 = some [Value.slice none 0 0] ∧ tyZero Tryz.prog 3 = some [Value.int IntKind.i64 0])))) ∧ (((tyZero Tryz.prog 30 = some [Value.slice none 0 0] ∧ (tyZero Tryz.prog 39 = some [Value.slice none 0 0] ∧ tyZero Tryz.prog 4 = some [Value.bool false])) ∧ (tyZero Tryz.prog 41 = some [Value.int IntKind.i64 0, Value.slice none 0 0, Value.slice none 0 0] ∧ (tyZero Tryz.prog 5 = some [Value.int IntKind.u8 0] ∧ tyZero Tryz.prog 54 = some [Value.slice none 0 0]))) ∧ ((tyZero Tryz.prog 79 = some [Value.pointer none] ∧ (tyZero Tryz.prog 81 = some [Value.slice none 0 0, Value.slice none 0 0] ∧ tyZero Tryz.prog 83 = some [Value.nilIface])) ∧ ((tyZero Tryz.prog 86 = some [Value.pointer none] ∧ tyZero Tryz.prog 88 = some [Value.pointer none]) ∧ (tyZero Tryz.prog 9 = some [Value.string ByteArray.empty] ∧ tyZero Tryz.prog 90 = some [Value.int IntKind.i64 0, Value.int IntKind.i64 0]))))))) := ⟨⟨⟨⟨⟨⟨tb25, ⟨te104, te25⟩⟩, ⟨te28, ⟨te39, te54⟩⟩⟩, ⟨⟨tf107_0, ⟨tf107_1, tf107_2⟩⟩, ⟨tf107_3, ⟨tf107_4, tf107_5⟩⟩⟩⟩, ⟨⟨⟨tf107_6, ⟨tf107_7, tf30_0⟩⟩, ⟨tf41_0, ⟨tf41_1, tf41_2⟩⟩⟩, ⟨⟨tf81_0, ⟨tf81_1, tf90_0⟩⟩, ⟨tf90_1, ⟨tk104, tk107⟩⟩⟩⟩⟩, ⟨⟨⟨⟨tk20, ⟨tk25, tk28⟩⟩, ⟨tk3, ⟨tk30, tk39⟩⟩⟩, ⟨⟨tk4, ⟨tk41, tk5⟩⟩, ⟨tk54, ⟨tk79, tk81⟩⟩⟩⟩, ⟨⟨⟨tk83, ⟨tk86, tk88⟩⟩, ⟨tk9, ⟨tk90, tp107⟩⟩⟩, ⟨⟨tp30, ⟨tp41, tp81⟩⟩, ⟨⟨tp90, tq90⟩, ⟨tr104, tr107⟩⟩⟩⟩⟩⟩, ⟨⟨⟨⟨⟨tr20, ⟨tr25, tr28⟩⟩, ⟨tr3, ⟨tr30, tr39⟩⟩⟩, ⟨⟨tr4, ⟨tr41, tr5⟩⟩, ⟨tr54, ⟨tr79, tr81⟩⟩⟩⟩, ⟨⟨⟨tr83, ⟨tr86, tr88⟩⟩, ⟨tr9, ⟨tr90, tu104⟩⟩⟩, ⟨⟨tu20, ⟨tu25, tu28⟩⟩, ⟨⟨tu3, tu39⟩, ⟨tu4, tu5⟩⟩⟩⟩⟩, ⟨⟨⟨⟨tu54, ⟨tu79, tu83⟩⟩, ⟨tu86, ⟨tu88, tu9⟩⟩⟩, ⟨⟨tz104, ⟨tz107, tz20⟩⟩, ⟨tz25, ⟨tz28, tz3⟩⟩⟩⟩, ⟨⟨⟨tz30, ⟨tz39, tz4⟩⟩, ⟨tz41, ⟨tz5, tz54⟩⟩⟩, ⟨⟨tz79, ⟨tz81, tz83⟩⟩, ⟨⟨tz86, tz88⟩, ⟨tz9, tz90⟩⟩⟩⟩⟩⟩⟩
set_option maxRecDepth 100000 in
set_option maxHeartbeats 2000000 in
theorem readValueI_c (hD : DB M D) (hM : M ≤ 1048576) (hb : b.length ≤ 1048576) (i p : Int) : AC Tryz.prog 26 [.d (encD D), .d (iD i), .d (encB b), .d (iD p)] none (fun r' _ => r' = rdR (readV D b i p)) := by
  have no : ¬ (vKnown D i = true ∧ (0 ≤ p ∧ p ≤ b.length) ∧ b.length ≤ 400) → readV D b i p = (V0, 0, 8) := fun h => if_neg h
  by_cases hv : vKnown D i = true
  · by_cases hp0 : p < 0
    · have e1 : decide (p < 0) = true := decide_eq_true hp0
      refine calls_body Tryz.func26 rfl Tryz.call26 Tryz.ntmps26 (by simp) (by simp [ArgsOk]) (by simp [Rz.nkL, Rz.nk]) fun en hsz hks hk0 => ?_; simp only [St.init, frOf, Rz.addSL, Rz.addS, Rz.toAL, Rz.toA, Rz.nk, List.zipIdx_cons, List.zipIdx_nil, List.map_cons, List.map_nil, Nat.zero_add, Nat.reduceAdd]
      (repeat (first | refine aw_seq ?_ | refine aw_region ?_ | refine aw_block ?_ | (refine aw_exit ?_; (try simp (decide := true) only [reduceIte])) | (refine aw_skip ?_; try dsimp only) | (refine aw_any (by kernel_rfl) (by kernel_rfl) (by simp only [hsz]; kernel_rfl) ?_) | (refine ow_nil ?_; try dsimp only) | (refine ol_go ?_ (fun K1 hK1 => ?_); (first | exact trivial | exact rfl); refine evS ?_; (try simp only [e1]); refine hK1 _ _ ?_; clear hK1 K1) | (refine ol_skip rfl rfl ?_ ?_; (focus (intro hne; cases hne; done)); simp only [St.set]) | (refine ol_nil ⟨by kernel_rfl, ?_⟩; try dsimp only) | (refine ow_go ?_ (fun x hx => by cases hx <;> (rw [hsz]; decide)) (fun K1 hK1 => ?_); (first | exact trivial | exact rfl); refine evS ?_; (try simp only [e1]); refine hK1 _ ?_; clear hK1 K1) | (refine ow_skip rfl rfl ?_ (fun x hx => by cases hx <;> (rw [hsz]; decide)) ?_; (focus (intro hne; cases hne; done)); simp only [St.set]) | (refine callPre ?_; (first | refine callN_funS rfl ((known_c hD hM i).eqv (r1 := .d (bD true)) (by rw [hv])) ?_)) | (refine callPreL ?_; (first | refine callL_funS rfl ((known_c hD hM i).eqv (r1 := .d (bD true)) (by rw [hv])) ?_))))
      refine aw_condS rfl (fun hc => ?_) (fun hc => ?_)
      · refine walkS ?_
        (refine aw_ret ?_; (simp only [Fin, Tryz.results26]; refine finS ?_); refine ⟨_, [], .inr (.inl ⟨.tup [encV V0, iD 0, iD 8], rfl, rfl, ?_⟩), List.nodup_nil, by rw [no (fun h => by omega)]; rfl⟩; exact wkDS)
      · (first | exact absurd trivial hc | exact absurd rfl hc | (cases hc; done) | omega | exact absurd hc (by decide) | (simp at hc; done))
    · have e1 : decide (p < 0) = false := decide_eq_false hp0
      by_cases hp1 : (b.length : Int) < p
      · have e2 : decide ((b.length : Int) < p) = true := decide_eq_true hp1
        refine calls_body Tryz.func26 rfl Tryz.call26 Tryz.ntmps26 (by simp) (by simp [ArgsOk]) (by simp [Rz.nkL, Rz.nk]) fun en hsz hks hk0 => ?_; simp only [St.init, frOf, Rz.addSL, Rz.addS, Rz.toAL, Rz.toA, Rz.nk, List.zipIdx_cons, List.zipIdx_nil, List.map_cons, List.map_nil, Nat.zero_add, Nat.reduceAdd]
        (repeat (first | refine aw_seq ?_ | refine aw_region ?_ | refine aw_block ?_ | (refine aw_exit ?_; (try simp (decide := true) only [reduceIte])) | (refine aw_skip ?_; try dsimp only) | (refine aw_any (by kernel_rfl) (by kernel_rfl) (by simp only [hsz]; kernel_rfl) ?_) | (refine ow_nil ?_; try dsimp only) | (refine ol_go ?_ (fun K1 hK1 => ?_); (first | exact trivial | exact rfl); refine evS ?_; (try simp only [e1, e2]); refine hK1 _ _ ?_; clear hK1 K1) | (refine ol_skip rfl rfl ?_ ?_; (focus (intro hne; cases hne; done)); simp only [St.set]) | (refine ol_nil ⟨by kernel_rfl, ?_⟩; try dsimp only) | (refine ow_go ?_ (fun x hx => by cases hx <;> (rw [hsz]; decide)) (fun K1 hK1 => ?_); (first | exact trivial | exact rfl); refine evS ?_; (try simp only [e1, e2]); refine hK1 _ ?_; clear hK1 K1) | (refine ow_skip rfl rfl ?_ (fun x hx => by cases hx <;> (rw [hsz]; decide)) ?_; (focus (intro hne; cases hne; done)); simp only [St.set]) | (refine callPre ?_; (first | refine callN_funS rfl ((known_c hD hM i).eqv (r1 := .d (bD true)) (by rw [hv])) ?_)) | (refine callPreL ?_; (first | refine callL_funS rfl ((known_c hD hM i).eqv (r1 := .d (bD true)) (by rw [hv])) ?_))))
        refine aw_condS rfl (fun hc => ?_) (fun hc => ?_)
        · refine walkS ?_
          (refine aw_ret ?_; (simp only [Fin, Tryz.results26]; refine finS ?_); refine ⟨_, [], .inr (.inl ⟨.tup [encV V0, iD 0, iD 8], rfl, rfl, ?_⟩), List.nodup_nil, by rw [no (fun h => by omega)]; rfl⟩; exact wkDS)
        · (first | exact absurd trivial hc | exact absurd rfl hc | (cases hc; done) | omega | exact absurd hc (by decide) | (simp at hc; done))
      · have e2 : decide ((b.length : Int) < p) = false := decide_eq_false hp1
        refine calls_body Tryz.func26 rfl Tryz.call26 Tryz.ntmps26 (by simp) (by simp [ArgsOk]) (by simp [Rz.nkL, Rz.nk]) fun en hsz hks hk0 => ?_; simp only [St.init, frOf, Rz.addSL, Rz.addS, Rz.toAL, Rz.toA, Rz.nk, List.zipIdx_cons, List.zipIdx_nil, List.map_cons, List.map_nil, Nat.zero_add, Nat.reduceAdd]
        (repeat (first | refine aw_seq ?_ | refine aw_region ?_ | refine aw_block ?_ | (refine aw_exit ?_; (try simp (decide := true) only [reduceIte])) | (refine aw_skip ?_; try dsimp only) | (refine aw_any (by kernel_rfl) (by kernel_rfl) (by simp only [hsz]; kernel_rfl) ?_) | (refine ow_nil ?_; try dsimp only) | (refine ol_go ?_ (fun K1 hK1 => ?_); (first | exact trivial | exact rfl); refine evS ?_; (try simp only [e1, e2]); refine hK1 _ _ ?_; clear hK1 K1) | (refine ol_skip rfl rfl ?_ ?_; (focus (intro hne; cases hne; done)); simp only [St.set]) | (refine ol_nil ⟨by kernel_rfl, ?_⟩; try dsimp only) | (refine ow_go ?_ (fun x hx => by cases hx <;> (rw [hsz]; decide)) (fun K1 hK1 => ?_); (first | exact trivial | exact rfl); refine evS ?_; (try simp only [e1, e2]); refine hK1 _ ?_; clear hK1 K1) | (refine ow_skip rfl rfl ?_ (fun x hx => by cases hx <;> (rw [hsz]; decide)) ?_; (focus (intro hne; cases hne; done)); simp only [St.set]) | (refine callPre ?_; (first | refine callN_funS rfl ((known_c hD hM i).eqv (r1 := .d (bD true)) (by rw [hv])) ?_)) | (refine callPreL ?_; (first | refine callL_funS rfl ((known_c hD hM i).eqv (r1 := .d (bD true)) (by rw [hv])) ?_))))
        refine aw_condS rfl (fun hc => ?_) (fun hc => ?_)
        · refine walkS ?_
          (refine aw_ret ?_; (simp only [Fin, Tryz.results26]; refine finS ?_); refine ⟨_, [], .inr (.inl ⟨.tup [encV V0, iD 0, iD 8], rfl, rfl, ?_⟩), List.nodup_nil, by rw [no (fun h => by omega)]; rfl⟩; exact wkDS)
        · have hyes : readV D b i p = rd D b D.length i.toNat p.toNat := if_pos ⟨hv, by omega, by omega⟩
          obtain ⟨v1, v2, v3⟩ := vKnown_spec hv
          obtain ⟨m, hm, HV⟩ := valueI_all hD hM hb v1 D.length i.toNat p.toNat (by omega) (by omega) (by omega)
          have herr := rd_err D b D.length i.toNat p.toNat
          rw [Int.toNat_of_nonneg v2, Int.toNat_of_nonneg (by omega), ← hyes] at HV
          rw [← hyes] at hm herr
          generalize readV D b i p = z at *
          obtain ⟨v, q, c⟩ := z
          simp only at hm herr
          by_cases hc0 : c = 0
          · subst hc0
            obtain rfl := hm rfl
            rw [rdE_0] at HV
            refine walkS ?_
            refine ow_freezeB 41 64 [encDs D, encB b] rfl rfl hks (by decide) ?_
            (repeat (first | refine walkS ?_ | (refine ow_call1d (k := 112) ?_ (fun x hx => by cases hx <;> (rw [hsz]; decide)) rfl (as_nil_m) rfl rfl ?_; (first | exact trivial | exact rfl); simp only [St.set, List.map_cons, List.map_nil, Nat.reduceAdd]) | (refine ol_call1d (k := 112) ?_ rfl (as_nil_m) rfl rfl ⟨0, List.mem_cons_self⟩ ?_; (first | exact trivial | exact rfl); simp only [St.set, List.map_cons, List.map_nil, Nat.reduceAdd]) | (refine callPre ?_; (first | refine callN_funS rfl (HV) ?_)) | (refine callPreL ?_; (first | refine callL_funS rfl (HV) ?_))))
            refine aw_condS rfl (fun hc => ?_) (fun hc => ?_)
            · (first | exact absurd trivial hc | exact absurd rfl hc | (cases hc; done) | omega | exact absurd hc (by decide) | (simp at hc; done))
            · refine walkS ?_
              (refine aw_ret ?_; (simp only [Fin, Tryz.results26]; refine finS ?_); refine ⟨_, [], .inr (.inl ⟨.tup [encV v, iD (m : Nat), iD 0], rfl, rfl, ?_⟩), List.nodup_nil, rfl⟩; exact wkDS)
          · rw [rdE_p hc0] at HV
            obtain rfl := herr hc0
            refine walkS ?_
            refine ow_freezeB 41 64 [encDs D, encB b] rfl rfl hks (by decide) ?_
            (repeat (first | refine walkS ?_ | (refine ow_call1d (k := 112) ?_ (fun x hx => by cases hx <;> (rw [hsz]; decide)) rfl (as_hit_m q c) rfl rfl ?_; (first | exact trivial | exact rfl); simp only [St.set, List.map_cons, List.map_nil, Nat.reduceAdd]) | (refine ol_call1d (k := 112) ?_ rfl (as_hit_m q c) rfl rfl ⟨0, List.mem_cons_self⟩ ?_; (first | exact trivial | exact rfl); simp only [St.set, List.map_cons, List.map_nil, Nat.reduceAdd]) | (refine callPre ?_; (first | refine callN_funS rfl (HV) ?_)) | (refine callPreL ?_; (first | refine callL_funS rfl (HV) ?_))))
            refine aw_condS rfl (fun hc => ?_) (fun hc => ?_)
            · refine walkS ?_
              (refine aw_ret ?_; (simp only [Fin, Tryz.results26]; refine finS ?_); refine ⟨_, [], .inr (.inl ⟨.tup [encV V0, iD (q : Nat), iD (c : Nat)], rfl, rfl, ?_⟩), List.nodup_nil, rfl⟩; exact wkDS)
            · (first | exact absurd trivial hc | exact absurd rfl hc | (cases hc; done) | omega | exact absurd hc (by decide) | (simp at hc; done))
  · have hv' : vKnown D i = false := by simpa using hv
    refine calls_body Tryz.func26 rfl Tryz.call26 Tryz.ntmps26 (by simp) (by simp [ArgsOk]) (by simp [Rz.nkL, Rz.nk]) fun en hsz hks hk0 => ?_; simp only [St.init, frOf, Rz.addSL, Rz.addS, Rz.toAL, Rz.toA, Rz.nk, List.zipIdx_cons, List.zipIdx_nil, List.map_cons, List.map_nil, Nat.zero_add, Nat.reduceAdd]
    (repeat (first | refine walkS ?_ | (refine callPre ?_; (first | refine callN_funS rfl ((known_c hD hM i).eqv (r1 := .d (bD false)) (by rw [hv'])) ?_)) | (refine callPreL ?_; (first | refine callL_funS rfl ((known_c hD hM i).eqv (r1 := .d (bD false)) (by rw [hv'])) ?_))))
    refine aw_condS rfl (fun hc => ?_) (fun hc => ?_)
    · refine walkS ?_
      (refine aw_ret ?_; (simp only [Fin, Tryz.results26]; refine finS ?_); refine ⟨_, [], .inr (.inl ⟨.tup [encV V0, iD 0, iD 8], rfl, rfl, ?_⟩), List.nodup_nil, by rw [no (fun h => hv h.1)]; rfl⟩; exact wkDS)
    · (first | exact absurd trivial hc | exact absurd rfl hc | (cases hc; done) | omega | exact absurd hc (by decide) | (simp at hc; done))
end
end Go.Proofs.YtoegmaebdihnaaaGreatDoor.Eng
