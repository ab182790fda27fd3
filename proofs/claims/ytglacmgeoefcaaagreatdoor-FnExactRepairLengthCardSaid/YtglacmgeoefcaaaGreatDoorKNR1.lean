/-
  Mutations: the program.
-/
import Derived.Test.YtglacmgeoefcaaaGreatDoorKTy
import Derived.Test.YtglacmgeoefcaaaGreatDoorKN0
import Derived.Test.YtglacmgeoefcaaaGreatDoorKN44
import Derived.Test.YtglacmgeoefcaaaGreatDoorKE38
import Derived.Test.YtglacmgeoefcaaaGreatDoorKPR1
set_option linter.unusedSimpArgs false
set_option linter.unusedVariables false
set_option linter.defProp false
set_option maxRecDepth 100000
set_option maxHeartbeats 4000000
namespace Go.Proofs.YtglacmgeoefcaaaGreatDoor.Eng
open Go Go.RowKit

abbrev rzB (x : List UInt8 × Bool) : Rz := .tup [.own 5 1 (x.1.map fun c => [uD c]), .d (bD x.2)]
def rowD (b : List UInt8) (tl : List Value) : List D := (b.map fun c => uD c) ++ tl.map .v
theorem rowD_len (b : List UInt8) (tl : List Value) : (rowD b tl).length = b.length + tl.length := by simp [rowD]
theorem rowA_eq (b : List UInt8) (tl : List Value) : ((b.map fun c => [uD c]).flatten.map A.d) ++ (tl.map fun x => A.d (.v x)) = (rowD b tl).map A.d := by
  have h : ∀ b : List UInt8, (b.map fun c => [uD c]).flatten.map A.d = (b.map fun c => uD c).map A.d := fun b => by
    induction b with
    | nil => rfl
    | cons c b ih => simp only [List.map_cons, List.flatten_cons, List.cons_append, List.nil_append, ih]
  unfold rowD
  rw [List.map_append, h, List.map_map (f := D.v)]
  rfl
theorem rowA_set {b : List UInt8} {tl : List Value} {i : Nat} (h : i < b.length) (c : UInt8) : splice ((rowD b tl).map A.d) [A.d (uD c)] i = (rowD (b.set i c) tl).map A.d := by
  unfold rowD splice
  rw [List.length_singleton, List.map_append, List.take_append_of_le_length (by simp; omega), List.drop_append_of_le_length (by simp; omega), List.set_eq_take_append_cons_drop, if_pos h]
  simp [List.map_take, List.map_drop]
theorem argsT_d {k z n : Nat} {es : List (List D)} {d : D} (h : n = es.length) : argsT k z es [.d d, .arr k z n] = some [.d d, .d (.sl z es)] := by
  simp [argsT, argT, argOf, frz, h]
theorem u8_nat (c : Nat) : IntKind.u8.wrap (c : Int) = ((UInt8.ofNat c).toNat : Int) := by
  have h1 : IntKind.u8.wrap (c : Int) = (c : Int) % 256 := by
    simp [IntKind.wrap, IntKind.bits, IntKind.signed]
  rw [h1, UInt8.toNat_ofNat']
  omega
private def tyF := And.intro (And.intro (And.intro tb22 (And.intro te22 tk22)) (And.intro (And.intro tk3 tk5) (And.intro tr22 tr3))) (And.intro (And.intro tr5 (And.intro tu22 tu3)) (And.intro (And.intro tu5 tz22) (And.intro tz3 tz5)))
theorem inRangeI_c (n a b : Int) : AC Tryz.prog 79 [.d (iD n), .d (iD a), .d (iD b)] none (fun r' _ => r' = .d (bD (decide (a ≤ n) && decide (n ≤ b)))) := by
  refine calls_body Tryz.func79 rfl Tryz.call79 Tryz.ntmps79 (by simp) (by simp [ArgsOk]) (by simp [Rz.nkL, Rz.nk]) fun en hsz hks hk0 => ?_; refine enS ?_
  refine walkS ?_
  (refine ow_gd rfl rfl (fun x hx => by cases hx <;> (rw [hsz]; decide)) (fun hg K1 hK1 => ?_) (fun hg => ?_); ((try simp only [hg]); refine evS ?_;  refine hK1 _ ?_; clear hK1 K1); rotate_left; (simp only [Bool.not_true, Bool.not_false] at hg; simp only [St.set, hg]); rotate_left)
  · refine walkS ?_
    (refine aw_ret ?_; (simp only [Fin, Tryz.results79]; refine finS ?_); exact ⟨_, _, .inl ⟨rfl, rfl⟩, List.nodup_nil, by simp at hg; simp [hg]⟩)
  · refine walkS ?_
    (refine aw_ret ?_; (simp only [Fin, Tryz.results79]; refine finS ?_); exact ⟨_, _, .inl ⟨rfl, rfl⟩, List.nodup_nil, by simp at hg; simp <;> omega⟩)
section
variable {b : List UInt8}
theorem cut3 (l : List UInt8) (a h : Nat) : (D.sl 1 (((l.map fun c => [uD c]).drop a).take h)) = encB ((l.drop a).take h) := by unfold encB; rw [List.map_take, List.map_drop]
theorem spliceI_c (hb : b.length ≤ 1048576) {a rm : Nat} (h : a + rm ≤ b.length) {new : List UInt8} (hn : new.length ≤ 16) : AC Tryz.prog 161 [.d (encB b), .d (iD a), .d (iD rm), .d (encB new)] none (fun r' _ => r' = rzB (cutB b a rm new, true)) := by
  have e1 : decide ((a : Int) < 0) = false := by simp
  have e2 : decide ((rm : Int) < 0) = false := by simp
  have e3 : decide ((b.length : Int) < (a : Int)) = false := by simp; omega
  have e4 : decide ((b.length : Int) - (a : Int) < (rm : Int)) = false := by simp; omega
  have l1 : (b.take a).length ≤ 1048576 := by rw [List.length_take]; omega
  have l2 : (b.drop (a + rm)).length ≤ 1048576 := by rw [List.length_drop]; omega
  have t1 : ((a : Int)).toNat = a := by omega
  have t2 : ((a : Int) + (rm : Int)).toNat = a + rm := by omega
  have t3 : ((b.length : Int)).toNat = b.length := by omega
  have s1 : D.sl 1 (((b.map fun c => [uD c]).drop (0 : Int).toNat).take (((a : Int)).toNat - (0 : Int).toNat)) = encB (b.take a) := by
    rw [cut3, t1]; rfl
  have s2 : D.sl 1 (((b.map fun c => [uD c]).drop ((a : Int) + (rm : Int)).toNat).take (((b.length : Int)).toNat - ((a : Int) + (rm : Int)).toNat)) = encB (b.drop (a + rm)) := by
    rw [cut3, t2, t3, List.take_of_length_le (by simp)]
  refine calls_body Tryz.func161 rfl Tryz.call161 Tryz.ntmps161 (by simp) (by simp [ArgsOk]) (by simp [Rz.nkL, Rz.nk]) fun en hsz hks hk0 => ?_; refine enS ?_
  (repeat (first | refine ctlS ?_ | (refine ol_go ?_ (fun K1 hK1 => ?_); (first | exact trivial | exact rfl); refine evS ?_; (try simp only [e1, e2, e3, e4]); refine hK1 _ _ ?_; clear hK1 K1) | (refine ow_go ?_ (fun x hx => by cases hx <;> (rw [hsz]; decide)) (fun K1 hK1 => ?_); (first | exact trivial | exact rfl); refine evS ?_; (try simp only [e1, e2, e3, e4]); refine hK1 _ ?_; clear hK1 K1) | refine skipS ?_))
  refine aw_condS rfl (fun h0 => ?_) (fun h0 => ?_)
  · (first | exact absurd trivial h0 | exact absurd rfl h0 | (cases h0; done) | omega | exact absurd h0 (by decide) | (simp at h0; done))
  refine walkS ?_
  refine ow_slice3 (lv := 0) (hv := (a : Int)) (mv := (a : Int)) ?_ (fun x hx => by cases hx <;> (rw [hsz]; decide)) rfl rfl te22 tk5 rfl rfl rfl (by simp only [List.length_map]; omega) ?_; (first | exact trivial | exact rfl); rw [s1]; simp only [St.set]
  refine walkS ?_
  refine ow_slice3 (lv := (a : Int) + (rm : Int)) (hv := (b.length : Int)) (mv := (b.length : Int)) ?_ (fun x hx => by cases hx <;> (rw [hsz]; decide)) rfl rfl te22 tk5 rfl rfl rfl (by simp only [List.length_map]; omega) ?_; (first | exact trivial | exact rfl); rw [s2]; simp only [St.set]
  refine walkS ?_
  (refine aw_ret ?_; (simp only [Fin, Tryz.results161]; refine finS ?_); exact ⟨_, _, .inl (toZ_tup (toZL_cons (toZ_own (by simp [lk, St.mem] <;> omega)) (toZL_cons toZ_d toZL_nil))), by simp, by rw [rzB]; simp [cutB]⟩)
theorem spliceI_n (hb : b.length ≤ 1048576) {a rm : Nat} (h : a + rm ≤ b.length) : AC Tryz.prog 161 [.d (encB b), .d (iD a), .d (iD rm), .d (.v (.slice none 0 0))] none (fun r' _ => r' = rzB (cutB b a rm [], true)) :=
  (spliceI_c hb h (new := []) (by simp)).w (by simp (decide := true) only [St.head, wkFr, wkBx, wkB, wkBc, wkAl, wkAlv, wkA, wkO, wkL, wkD_selfT, wkL_d, ltL_dT, sg, keyOf, keyB, keyBc, List.getD_cons_zero, List.getD_cons_succ, encVs_len, lk, St.f, rmv, keysOk, liveKeys, A.lt, A.ltL, List.map_cons, List.map_nil, List.cons_append, List.nil_append, and_true, true_and, and_self, reduceIte, reduceCtorEq, Option.some.injEq, List.length_cons, List.length_nil, List.length_append, Nat.reduceAdd, exists_eq_left', exists_eq_left, natCast0, natCast1, Int.add_sub_cancel, List.flatten_replicate_singleton, List.take_zero, Nat.sub_zero, List.map_replicate, Nat.zero_add, List.append_nil, List.all_nil, List.all_cons, List.map_append, List.length_map, wkL_arrC, arrC_lt, wkD_ownB, wkD_ownB0, wkD_ownV0, wkD_nilB, wkD_ownV, wkD_nilV, wkD_agg, wkD_tup, wkDL_nil, wkDL_cons, encVs_append, encVs_one, encVs_nil, encV_mk, V0, dle_agg, dle_tup, dleL_nil, dleL_cons, dle_nil, dle_nilB, wkD_tupd, wkD_aggd, dle_selfT])
abbrev mutD (x : List UInt8) (n : Nat) : Eng.D := .tup [.iv (fun k => n ≤ k) (encB x), bD true]
abbrev mutE (kind i c : Int) : Eng.D := .agg [iD kind, iD i, iD c]
theorem anti_tup {f : Nat → List D} (h : ∀ m n, m ≤ n → ∀ (C : CellR) us, RepL C (f n) us → RepL C (f m) us) : ∀ m n, m ≤ n → ∀ (C : CellR) u, RepD C (.tup (f n)) u → RepD C (.tup (f m)) u := fun m n hmn C u k => by
  unfold RepD at k ⊢
  obtain ⟨us, h1, h2⟩ := k
  exact ⟨us, h1, h m n hmn C us h2⟩
theorem anti_mutD (x : List UInt8) : ∀ m n, m ≤ n → ∀ (C : CellR) u, RepD C (mutD x n) u → RepD C (mutD x m) u :=
  anti_tup (f := fun n => [.iv (fun k => n ≤ k) (encB x), bD true]) fun m n h C us k => repL_semi h (fun _ k => k) k
abbrev repN (x : List UInt8 × Mut × Bool) (n : Nat) : Eng.D := .tup [.iv (fun k => n ≤ k) (encB x.1), mutE x.2.1.1 x.2.1.2.1 x.2.1.2.2, bD x.2.2]
theorem anti_repN (x : List UInt8 × Mut × Bool) : ∀ m n, m ≤ n → ∀ (C : CellR) u, RepD C (repN x n) u → RepD C (repN x m) u :=
  anti_tup (f := fun n => [.iv (fun k => n ≤ k) (encB x.1), mutE x.2.1.1 x.2.1.2.1 x.2.1.2.2, bD x.2.2]) fun m n h C us k => repL_semi h (fun _ k => k) k
end
end Go.Proofs.YtglacmgeoefcaaaGreatDoor.Eng
