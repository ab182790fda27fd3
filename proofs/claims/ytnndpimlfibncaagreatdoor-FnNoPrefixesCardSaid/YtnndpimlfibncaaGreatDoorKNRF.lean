/-
  The program's reader: ReadValue, ReadFile, IsFileOf.

  The program: ReadFile, IsFileOf; the reference's IsFileOf.
-/
import Derived.Test.YtnndpimlfibncaaGreatDoorKN32
import Derived.Test.YtnndpimlfibncaaGreatDoorKN23
import Derived.Test.YtnndpimlfibncaaGreatDoorKN40
set_option linter.unusedSimpArgs false
set_option linter.unusedVariables false
set_option linter.defProp false
set_option maxRecDepth 100000
set_option maxHeartbeats 4000000
namespace Go.Proofs.YtnndpimlfibncaaGreatDoor.Eng
open Go Go.RowKit

theorem mkItems_err {n : Int} {x : List V × Nat × Nat} (h : (mkItems n x).2.2 ≠ 0) : (mkItems n x).1 = V0 := by
  unfold mkItems at h ⊢
  split
  · rename_i h0
    rw [if_pos h0] at h
    exact absurd rfl h
  · rfl
theorem rd_err (D : List RuleD) (b : List UInt8) : ∀ (f rule p : Nat), (rd D b f rule p).2.2 ≠ 0 → (rd D b f rule p).1 = V0
  | 0, rule, p, _ => rfl
  | f + 1, rule, p, h => by
    have ITE : ∀ (c : Prop) [Decidable c] (x y : V × Nat × Nat), (x.2.2 ≠ 0 → x.1 = V0) → (y.2.2 ≠ 0 → y.1 = V0) → (if c then x else y).2.2 ≠ 0 → (if c then x else y).1 = V0 := fun c _ x y hx hy => by
      by_cases h : c
      · rw [if_pos h]; exact hx
      · rw [if_neg h]; exact hy
    have BA : ∀ q n, (bytesAt b q n).2.2 ≠ 0 → (bytesAt b q n).1 = V0 := fun q n h => by
      unfold bytesAt at h ⊢
      split
      · rfl
      · rename_i h0; rw [if_neg h0] at h; exact absurd rfl h
    revert h
    rw [rd]
    dsimp only
    generalize ruleD D rule = r
    refine ITE _ _ _ ?_ (ITE _ _ _ (fun _ => rfl) (ITE _ _ _ (BA _ _) (ITE _ _ _ ?_ (ITE _ _ _ mkItems_err (ITE _ _ _ ?_ (ITE _ _ _ ?_ (ITE _ _ _ ?_ ?_)))))))
    · split
      · exact fun h => absurd rfl h
      · exact fun _ => rfl
    · split
      · exact fun h => absurd rfl h
      · exact fun _ => rfl
    · split
      · exact fun _ => rfl
      · split
        · exact fun _ => rfl
        · exact mkItems_err
    · split
      · exact fun _ => rfl
      · exact ITE _ _ _ (fun _ => rfl) mkItems_err
    · have h1 := mkItems_err (n := 0) (x := rdItems (rd D b f) [(kid0 r).toNat] p)
      generalize mkItems 0 (rdItems (rd D b f) [(kid0 r).toNat] p) = x at *
      obtain ⟨v, q, c⟩ := x
      dsimp only
      refine ITE _ _ _ ?_ h1
      split
      · exact fun _ => rfl
      · exact ITE _ _ _ (fun h => absurd rfl h) (fun _ => rfl)
    · split
      · exact fun _ => rfl
      · exact ITE _ _ _ (BA _ _) (ITE _ _ _ (fun _ => rfl) mkItems_err)

section
variable {M : Nat} {D : List RuleD} {b : List UInt8}
private def tyF := And.intro (And.intro (And.intro (And.intro (And.intro (And.intro tb22 (And.intro te22 te24)) (And.intro te47 (And.intro te55 te75))) (And.intro (And.intro tf26_0 (And.intro tf49_0 tf49_1)) (And.intro tf49_2 (And.intro tf77_0 tf77_1)))) (And.intro (And.intro (And.intro tf77_2 (And.intro tf77_3 tf77_4)) (And.intro tf77_5 (And.intro tf77_6 tf77_7))) (And.intro (And.intro tf86_0 (And.intro tf86_1 tf95_0)) (And.intro tf95_1 (And.intro tk20 tk22))))) (And.intro (And.intro (And.intro (And.intro tk24 (And.intro tk26 tk3)) (And.intro tk4 (And.intro tk47 tk49))) (And.intro (And.intro tk5 (And.intro tk55 tk75)) (And.intro tk77 (And.intro tk84 tk86)))) (And.intro (And.intro (And.intro tk88 (And.intro tk9 tk91)) (And.intro tk93 (And.intro tk95 tp26))) (And.intro (And.intro tp49 (And.intro tp77 tp86)) (And.intro (And.intro tp95 tq95) (And.intro tr20 tr22)))))) (And.intro (And.intro (And.intro (And.intro (And.intro tr24 (And.intro tr26 tr3)) (And.intro tr4 (And.intro tr47 tr49))) (And.intro (And.intro tr5 (And.intro tr55 tr75)) (And.intro tr77 (And.intro tr84 tr86)))) (And.intro (And.intro (And.intro tr88 (And.intro tr9 tr91)) (And.intro tr93 (And.intro tr95 tu20))) (And.intro (And.intro tu22 (And.intro tu24 tu3)) (And.intro (And.intro tu4 tu47) (And.intro tu5 tu55))))) (And.intro (And.intro (And.intro (And.intro tu75 (And.intro tu84 tu88)) (And.intro tu9 (And.intro tu91 tu93))) (And.intro (And.intro tz20 (And.intro tz22 tz24)) (And.intro tz26 (And.intro tz3 tz4)))) (And.intro (And.intro (And.intro tz47 (And.intro tz49 tz5)) (And.intro tz55 (And.intro tz75 tz77))) (And.intro (And.intro tz84 (And.intro tz86 tz88)) (And.intro (And.intro tz9 tz91) (And.intro tz93 tz95))))))
theorem readValueI_c (hD : DB M D) (hM : M ≤ 1048576) (hb : b.length ≤ 1048576) (i p : Int) : AC Tryz.prog 46 [.d (encD D), .d (iD i), .d (encB b), .d (iD p)] none (fun r' _ => r' = rdR (readV D b i p)) := by
  have no : ¬ (vKnown D i = true ∧ (0 ≤ p ∧ p ≤ b.length) ∧ b.length ≤ 400) → readV D b i p = (V0, 0, 8) := fun h => if_neg h
  by_cases hv : vKnown D i = true
  · by_cases hp0 : p < 0
    · have e1 : decide (p < 0) = true := decide_eq_true hp0
      refine calls_body Tryz.func46 rfl Tryz.call46 Tryz.ntmps46 (by simp) (by simp [ArgsOk]) (by simp [Rz.nkL, Rz.nk]) fun en hsz hks hk0 => ?_; refine enS ?_
      (repeat (first | refine ctlS ?_ | (refine ol_go ?_ (fun K1 hK1 => ?_); (first | exact trivial | exact rfl); refine evS ?_; (try simp only [e1]); refine hK1 _ _ ?_; clear hK1 K1) | (refine ow_go ?_ (fun x hx => by cases hx <;> (rw [hsz]; decide)) (fun K1 hK1 => ?_); (first | exact trivial | exact rfl); refine evS ?_; (try simp only [e1]); refine hK1 _ ?_; clear hK1 K1) | refine skipS ?_ | (refine callPre ?_; (first | refine callN_funS rfl ((known_c hD hM i).eqv (r1 := .d (bD true)) (by rw [hv])) ?_)) | (refine callPreL ?_; (first | refine callL_funS rfl ((known_c hD hM i).eqv (r1 := .d (bD true)) (by rw [hv])) ?_))))
      refine aw_condS rfl (fun hc => ?_) (fun hc => ?_)
      · refine walkS ?_
        (refine aw_ret ?_; (simp only [Fin, Tryz.results46]; refine finS ?_); refine ⟨_, [], .inr (.inl ⟨.tup [encV V0, iD 0, iD 8], rfl, rfl, ?_⟩), List.nodup_nil, by rw [no (fun h => by omega)]; rfl⟩; exact wkDS)
      · (first | exact absurd trivial hc | exact absurd rfl hc | (cases hc; done) | omega | exact absurd hc (by decide) | (simp at hc; done))
    · have e1 : decide (p < 0) = false := decide_eq_false hp0
      by_cases hp1 : (b.length : Int) < p
      · have e2 : decide ((b.length : Int) < p) = true := decide_eq_true hp1
        refine calls_body Tryz.func46 rfl Tryz.call46 Tryz.ntmps46 (by simp) (by simp [ArgsOk]) (by simp [Rz.nkL, Rz.nk]) fun en hsz hks hk0 => ?_; refine enS ?_
        (repeat (first | refine ctlS ?_ | (refine ol_go ?_ (fun K1 hK1 => ?_); (first | exact trivial | exact rfl); refine evS ?_; (try simp only [e1, e2]); refine hK1 _ _ ?_; clear hK1 K1) | (refine ow_go ?_ (fun x hx => by cases hx <;> (rw [hsz]; decide)) (fun K1 hK1 => ?_); (first | exact trivial | exact rfl); refine evS ?_; (try simp only [e1, e2]); refine hK1 _ ?_; clear hK1 K1) | refine skipS ?_ | (refine callPre ?_; (first | refine callN_funS rfl ((known_c hD hM i).eqv (r1 := .d (bD true)) (by rw [hv])) ?_)) | (refine callPreL ?_; (first | refine callL_funS rfl ((known_c hD hM i).eqv (r1 := .d (bD true)) (by rw [hv])) ?_))))
        refine aw_condS rfl (fun hc => ?_) (fun hc => ?_)
        · refine walkS ?_
          (refine aw_ret ?_; (simp only [Fin, Tryz.results46]; refine finS ?_); refine ⟨_, [], .inr (.inl ⟨.tup [encV V0, iD 0, iD 8], rfl, rfl, ?_⟩), List.nodup_nil, by rw [no (fun h => by omega)]; rfl⟩; exact wkDS)
        · (first | exact absurd trivial hc | exact absurd rfl hc | (cases hc; done) | omega | exact absurd hc (by decide) | (simp at hc; done))
      · have e2 : decide ((b.length : Int) < p) = false := decide_eq_false hp1
        refine calls_body Tryz.func46 rfl Tryz.call46 Tryz.ntmps46 (by simp) (by simp [ArgsOk]) (by simp [Rz.nkL, Rz.nk]) fun en hsz hks hk0 => ?_; refine enS ?_
        (repeat (first | refine ctlS ?_ | (refine ol_go ?_ (fun K1 hK1 => ?_); (first | exact trivial | exact rfl); refine evS ?_; (try simp only [e1, e2]); refine hK1 _ _ ?_; clear hK1 K1) | (refine ow_go ?_ (fun x hx => by cases hx <;> (rw [hsz]; decide)) (fun K1 hK1 => ?_); (first | exact trivial | exact rfl); refine evS ?_; (try simp only [e1, e2]); refine hK1 _ ?_; clear hK1 K1) | refine skipS ?_ | (refine callPre ?_; (first | refine callN_funS rfl ((known_c hD hM i).eqv (r1 := .d (bD true)) (by rw [hv])) ?_)) | (refine callPreL ?_; (first | refine callL_funS rfl ((known_c hD hM i).eqv (r1 := .d (bD true)) (by rw [hv])) ?_))))
        refine aw_condS rfl (fun hc => ?_) (fun hc => ?_)
        · refine walkS ?_
          (refine aw_ret ?_; (simp only [Fin, Tryz.results46]; refine finS ?_); refine ⟨_, [], .inr (.inl ⟨.tup [encV V0, iD 0, iD 8], rfl, rfl, ?_⟩), List.nodup_nil, by rw [no (fun h => by omega)]; rfl⟩; exact wkDS)
        · have hyes : readV D b i p = rd D b D.length i.toNat p.toNat := if_pos ⟨hv, by omega, by omega⟩
          obtain ⟨v1, v2, v3⟩ := vKnown_spec hv
          obtain ⟨m, hm, HV⟩ := valueI_all hD hM hb v1 D.length i.toNat p.toNat (by omega) (by omega) (by omega)
          have herr := rd_err D b D.length i.toNat p.toNat
          rw [Int.toNat_of_nonneg v2, Int.toNat_of_nonneg (by omega), ← hyes] at HV
          rw [← hyes] at hm herr
          generalize readV D b i p = z at *
          obtain ⟨v, q, c⟩ := z
          simp only at hm herr
          by_cases hc0 : c = 0
          · subst hc0
            obtain rfl := hm rfl
            rw [rdE_0] at HV
            refine walkS ?_
            refine ow_freezeB 41 64 [encDs D, encB b] rfl rfl hks (by decide) ?_
            (repeat (first | refine walkS ?_ | (refine ol_call1r (k := 112) ?_ rfl (as_nil_m) rfl rfl ⟨0, List.mem_cons_self⟩ ?_; (first | exact trivial | exact rfl); simp only [St.set, List.map_cons, List.map_nil, Nat.reduceAdd, Nat.reduceMul]) | (refine ow_call1d (k := 112) ?_ (fun x hx => by cases hx <;> (rw [hsz]; decide)) rfl (as_nil_m) rfl rfl ?_; (first | exact trivial | exact rfl); simp only [St.set, List.map_cons, List.map_nil, Nat.reduceAdd]) | (refine ol_call1d (k := 112) ?_ rfl (as_nil_m) rfl rfl ⟨0, List.mem_cons_self⟩ ?_; (first | exact trivial | exact rfl); simp only [St.set, List.map_cons, List.map_nil, Nat.reduceAdd]) | (refine callPre ?_; (first | refine callN_funS rfl (HV) ?_)) | (refine callPreL ?_; (first | refine callL_funS rfl (HV) ?_))))
            refine aw_condS rfl (fun hc => ?_) (fun hc => ?_)
            · (first | exact absurd trivial hc | exact absurd rfl hc | (cases hc; done) | omega | exact absurd hc (by decide) | (simp at hc; done))
            · refine walkS ?_
              (refine aw_ret ?_; (simp only [Fin, Tryz.results46]; refine finS ?_); refine ⟨_, [], .inr (.inl ⟨.tup [encV v, iD (m : Nat), iD 0], rfl, rfl, ?_⟩), List.nodup_nil, rfl⟩; exact wkDS)
          · rw [rdE_p hc0] at HV
            obtain rfl := herr hc0
            refine walkS ?_
            refine ow_freezeB 41 64 [encDs D, encB b] rfl rfl hks (by decide) ?_
            (repeat (first | refine walkS ?_ | (refine ol_call1r (k := 112) ?_ rfl (as_hit_m q c) rfl rfl ⟨0, List.mem_cons_self⟩ ?_; (first | exact trivial | exact rfl); simp only [St.set, List.map_cons, List.map_nil, Nat.reduceAdd, Nat.reduceMul]) | (refine ow_call1d (k := 112) ?_ (fun x hx => by cases hx <;> (rw [hsz]; decide)) rfl (as_hit_m q c) rfl rfl ?_; (first | exact trivial | exact rfl); simp only [St.set, List.map_cons, List.map_nil, Nat.reduceAdd]) | (refine ol_call1d (k := 112) ?_ rfl (as_hit_m q c) rfl rfl ⟨0, List.mem_cons_self⟩ ?_; (first | exact trivial | exact rfl); simp only [St.set, List.map_cons, List.map_nil, Nat.reduceAdd]) | (refine callPre ?_; (first | refine callN_funS rfl (HV) ?_)) | (refine callPreL ?_; (first | refine callL_funS rfl (HV) ?_))))
            refine aw_condS rfl (fun hc => ?_) (fun hc => ?_)
            · refine walkS ?_
              (refine aw_ret ?_; (simp only [Fin, Tryz.results46]; refine finS ?_); refine ⟨_, [], .inr (.inl ⟨.tup [encV V0, iD (q : Nat), iD (c : Nat)], rfl, rfl, ?_⟩), List.nodup_nil, rfl⟩; exact wkDS)
            · (first | exact absurd trivial hc | exact absurd rfl hc | (cases hc; done) | omega | exact absurd hc (by decide) | (simp at hc; done))
  · have hv' : vKnown D i = false := by simpa using hv
    refine calls_body Tryz.func46 rfl Tryz.call46 Tryz.ntmps46 (by simp) (by simp [ArgsOk]) (by simp [Rz.nkL, Rz.nk]) fun en hsz hks hk0 => ?_; refine enS ?_
    (repeat (first | refine walkS ?_ | (refine callPre ?_; (first | refine callN_funS rfl ((known_c hD hM i).eqv (r1 := .d (bD false)) (by rw [hv'])) ?_)) | (refine callPreL ?_; (first | refine callL_funS rfl ((known_c hD hM i).eqv (r1 := .d (bD false)) (by rw [hv'])) ?_))))
    refine aw_condS rfl (fun hc => ?_) (fun hc => ?_)
    · refine walkS ?_
      (refine aw_ret ?_; (simp only [Fin, Tryz.results46]; refine finS ?_); refine ⟨_, [], .inr (.inl ⟨.tup [encV V0, iD 0, iD 8], rfl, rfl, ?_⟩), List.nodup_nil, by rw [no (fun h => hv h.1)]; rfl⟩; exact wkDS)
    · (first | exact absurd trivial hc | exact absurd rfl hc | (cases hc; done) | omega | exact absurd hc (by decide) | (simp at hc; done))
end
end Go.Proofs.YtnndpimlfibncaaGreatDoor.Eng
namespace Go.Proofs.YtnndpimlfibncaaGreatDoor.Eng
open Go Go.RowKit

section
variable {M : Nat} {D : List RuleD} {b : List UInt8}
theorem readFileI_c (hD : DB M D) (hM : M ≤ 1048576) (hb : b.length ≤ 1048576) : AC Tryz.prog 27 [.d (encD D), .d (encB b)] none (fun r' _ => r' = rdR (readF D b)) := by
  have HV := readValueI_c hD hM hb ((D.length : Int) - 1) 0
  have hf : readF D b = if (readV D b ((D.length : Int) - 1) 0).2.2 = 0 ∧ (readV D b ((D.length : Int) - 1) 0).2.1 < b.length then (V0, (readV D b ((D.length : Int) - 1) 0).2.1, 7) else readV D b ((D.length : Int) - 1) 0 := rfl
  generalize readV D b ((D.length : Int) - 1) 0 = x at HV hf
  obtain ⟨v, q, c⟩ := x
  simp only at hf
  refine calls_body Tryz.func27 rfl Tryz.call27 Tryz.ntmps27 (by simp) (by simp [ArgsOk]) (by simp [Rz.nkL, Rz.nk]) fun en hsz hks hk0 => ?_; refine enS ?_
  (repeat (first | refine walkS ?_ | (refine callPre ?_; (first | refine callN_funS rfl (rootI_c hD hM) ?_ | refine callN_funS rfl (HV) ?_)) | (refine callPreL ?_; (first | refine callL_funS rfl (rootI_c hD hM) ?_ | refine callL_funS rfl (HV) ?_))))
  (refine ow_gd rfl rfl (fun x hx => by cases hx <;> (rw [hsz]; decide)) (fun hg K1 hK1 => ?_) (fun hg => ?_); ((try simp only [hg]); refine evS ?_;  refine hK1 _ ?_; clear hK1 K1); rotate_left; (simp only [Bool.not_true, Bool.not_false] at hg; simp only [St.set, hg]); rotate_left)
  · have hg' : (c : Int) = 0 := by simpa using hg
    refine walkS ?_
    refine aw_condS rfl (fun hc => ?_) (fun hc => ?_)
    · refine walkS ?_
      (refine aw_ret ?_; (simp only [Fin, Tryz.results27]; refine finS ?_); refine ⟨_, [], .inr (.inl ⟨.tup [encV V0, iD (q : Int), iD 7], rfl, rfl, ?_⟩), List.nodup_nil, by rw [hf, if_pos (by constructor <;> omega)]; rfl⟩; exact wkDS)
    · refine walkS ?_
      (refine aw_ret ?_; (simp only [Fin, Tryz.results27]; refine finS ?_); refine ⟨_, [], .inr (.inl ⟨.tup [encV v, iD (q : Int), iD (c : Int)], rfl, rfl, ?_⟩), List.nodup_nil, by rw [hf, if_neg (by omega)]⟩; exact wkDS)
  · have hg' : (c : Int) ≠ 0 := by simpa using hg
    refine walkS ?_
    refine aw_condS rfl (fun hc => ?_) (fun hc => ?_)
    · (first | exact absurd trivial hc | exact absurd rfl hc | (cases hc; done) | omega | exact absurd hc (by decide) | (simp at hc; done))
    · refine walkS ?_
      (refine aw_ret ?_; (simp only [Fin, Tryz.results27]; refine finS ?_); refine ⟨_, [], .inr (.inl ⟨.tup [encV v, iD (q : Int), iD (c : Int)], rfl, rfl, ?_⟩), List.nodup_nil, by rw [hf, if_neg (by omega)]⟩; exact wkDS)

noncomputable def fileP (D : List RuleD) (b : List UInt8) : Bool := (((readF D b).2.2 : Int) == 0)
theorem isFileI_c (hD : DB M D) (hM : M ≤ 1048576) (hb : b.length ≤ 1048576) : AC Tryz.prog 9 [.d (encD D), .d (encB b)] none (fun r' _ => r' = .d (bD (fileP D b))) := by
  have HV := readFileI_c hD hM hb
  have hf : fileP D b = (((readF D b).2.2 : Int) == 0) := rfl
  generalize readF D b = x at HV hf
  obtain ⟨v, q, c⟩ := x
  refine calls_body Tryz.func9 rfl Tryz.call9 Tryz.ntmps9 (by simp) (by simp [ArgsOk]) (by simp [Rz.nkL, Rz.nk]) fun en hsz hks hk0 => ?_; refine enS ?_
  (repeat (first | refine walkS ?_ | (refine callPre ?_; (first | refine callN_funS rfl (HV) ?_)) | (refine callPreL ?_; (first | refine callL_funS rfl (HV) ?_))))
  (refine aw_ret ?_; (simp only [Fin, Tryz.results9]; refine finS ?_); exact ⟨_, _, .inl ⟨rfl, rfl⟩, List.nodup_nil, by rw [hf]⟩)
theorem isFileS_c (hD : DB M D) (hM : M ≤ 1048576) (hb : b.length ≤ 1048576) : AC Tryz.prog 10 [.d (encD D), .d (encB b)] none (fun r' _ => r' = .d (bD (fileP D b))) := by
  have HV := readFile_c hD hM hb
  have hf : fileP D b = (((readF D b).2.2 : Int) == 0) := rfl
  generalize readF D b = x at HV hf
  obtain ⟨v, q, c⟩ := x
  refine calls_body Tryz.func10 rfl Tryz.call10 Tryz.ntmps10 (by simp) (by simp [ArgsOk]) (by simp [Rz.nkL, Rz.nk]) fun en hsz hks hk0 => ?_; refine enS ?_
  (repeat (first | refine walkS ?_ | (refine callPre ?_; (first | refine callN_funS rfl (HV) ?_)) | (refine callPreL ?_; (first | refine callL_funS rfl (HV) ?_))))
  (refine aw_ret ?_; (simp only [Fin, Tryz.results10]; refine finS ?_); exact ⟨_, _, .inl ⟨rfl, rfl⟩, List.nodup_nil, by rw [hf]⟩)
end
end Go.Proofs.YtnndpimlfibncaaGreatDoor.Eng
