/-
  Counting what is applied, the reference.
-/
import Derived.Test.YtcpboonjaceneaaKN8
import Derived.Test.YtcpboonjaceneaaKN9
import Derived.Test.YtcpboonjaceneaaKE26
import Derived.Test.YtcpboonjaceneaaKPure10
import Derived.Test.YtcpboonjaceneaaKN12
set_option linter.unusedSimpArgs false
set_option linter.unusedVariables false
namespace Go.Proofs.Ytcpboonjaceneaa.Eng
open Go Go.RowKit

section
variable {M : Nat} {D : List RuleD} {b : List UInt8}
abbrev lcR (x : Nat × Nat × Bool) : Rz := .d (.tup [iD (IntKind.i64.wrap x.1), iD x.2.1, bD x.2.2])
/-- It counts for every rule below f. -/
def LcOK (D : List RuleD) (b : List UInt8) (f : Nat) : Prop := ∀ n p : Nat, n < f → n < D.length → p ≤ b.length → AC Try.prog 58 [.d (encD D), .d (iD n), .d (encB b), .d (iD p)] none (fun r _ => r = lcR (lc D b f n p))

/-- What is known where the items begin. -/
structure LcI (D : List RuleD) (b : List UInt8) (f n p : Nat) (r : RuleD) (n0 num c pos : Int) (ks : List Nat) : Prop where
  n : ∃ N q : Nat, n0 = N ∧ pos = q ∧ (ks = [] ∨ q ≤ b.length) ∧ lc D b (f + 1) n p = lcFin (rd D b (f + 1) n p).2 (lcItems (lc D b f) ks q N)
  c : c = ks.length
  it : ∀ i (hi : i < ks.length), itemK r num i = (ks[i] : Int) ∧ ks[i] < f ∧ ks[i] < D.length
  len : ks.length ≤ 1048576
  sm : -9223372036854775808 ≤ n0 ∧ n0 ≤ 9223372036854775807

theorem lcItems_ok {g : Nat → Nat → Nat × Nat × Bool} {k : Nat} {ks : List Nat} {p n : Nat} (h : (g k p).2.2 = true) : lcItems g (k :: ks) p n = lcItems g ks (g k p).2.1 (n + (g k p).1) := by rw [lcItems, if_pos h]
theorem lcItems_bad {g : Nat → Nat → Nat × Nat × Bool} {k : Nat} {ks : List Nat} {p n : Nat} (h : (g k p).2.2 = false) : lcItems g (k :: ks) p n = (n + (g k p).1, (g k p).2.1, false) := by rw [lcItems, if_neg (by simp [h])]
theorem lcFin_t {z : Nat × Nat} {n q : Nat} : lcFin z (n, q, true) = (n, z.1, z.2 == 0) := by simp [lcFin]
theorem lcFin_f {z : Nat × Nat} {n q : Nat} : lcFin z (n, q, false) = (n, q, false) := by simp [lcFin]


section
variable {f n p : Nat} {r : RuleD}
theorem lcI_mk {N q : Nat} {ks : List Nat} {num : Int} (h : lc D b (f + 1) n p = lcFin (rd D b (f + 1) n p).2 (lcItems (lc D b f) ks q N)) (hq : ks = [] ∨ q ≤ b.length) (hl : ks.length ≤ 1048576) (hN : N ≤ 2) (hit : ∀ i (hi : i < ks.length), itemK r num i = (ks[i] : Int) ∧ ks[i] < f ∧ ks[i] < D.length) :
    LcI D b f n p r N num ks.length q ks := ⟨⟨N, q, rfl, rfl, hq, h⟩, rfl, hit, hl, by omega⟩
theorem none_it {num : Int} : ∀ i (hi : i < ([] : List Nat).length), itemK r num i = (([] : List Nat)[i] : Int) ∧ ([] : List Nat)[i] < f ∧ ([] : List Nat)[i] < D.length := fun i hi => by simp at hi
theorem one_it {num : Int} {x : Nat} (h : itemK r num 0 = (x : Int)) (hx : x < f ∧ x < D.length) : ∀ i (hi : i < [x].length), itemK r num i = ([x][i] : Int) ∧ [x][i] < f ∧ [x][i] < D.length := fun i hi => by
  have : i = 0 := by simpa using hi
  subst this
  exact ⟨h, hx⟩
theorem rep_it {num : Int} {x m : Nat} (h : ∀ i, itemK r num i = (x : Int)) (hx : x < f ∧ x < D.length) : ∀ i (hi : i < (List.replicate m x).length), itemK r num i = ((List.replicate m x)[i] : Int) ∧ (List.replicate m x)[i] < f ∧ (List.replicate m x)[i] < D.length := fun i hi => by
  rw [replicate_get hi]; exact ⟨h i, hx⟩
theorem lcKids_5c {m : Nat} (hk : r.kind = 5) (hm : 40 < m) : lcKids r m = [] := by unfold lcKids; rw [if_pos hk, if_pos hm]
theorem lcKids_5s {m : Nat} (hk : r.kind = 5) (hm : ¬ 40 < m) : lcKids r m = List.replicate m (kid1 r).toNat := by unfold lcKids; rw [if_pos hk, if_neg hm]
theorem lcKids_7t {m : Nat} (hk : r.kind = 7) (ht : tagIx r.tags m = none) : lcKids r m = [] := by unfold lcKids; rw [if_neg (by omega), if_pos hk, ht]
theorem lcKids_7s {m k : Nat} (hk : r.kind = 7) (ht : tagIx r.tags m = some k) : lcKids r m = [(r.kids.getD (k + 1) 0).toNat] := by unfold lcKids; rw [if_neg (by omega), if_pos hk, ht]
theorem lcKids_4 {m : Nat} (hk : r.kind = 4) : lcKids r m = [] := by unfold lcKids; rw [if_neg (by omega), if_neg (by omega)]
theorem lcKids0_6 (hk : r.kind = 6) : lcKids0 r b p = r.kids.map Int.toNat := by unfold lcKids0; rw [if_pos hk]
theorem lcKids0_9 (hk : r.kind = 9) : lcKids0 r b p = [(kid0 r).toNat] := by unfold lcKids0; rw [if_neg (by omega), if_pos hk]
theorem lcKids0_8y (hk : r.kind = 8) (h : b[p]? = some 1) : lcKids0 r b p = [(kid0 r).toNat] := by unfold lcKids0; rw [if_neg (by omega), if_neg (by omega), if_pos ⟨hk, h⟩]
theorem lcKids0_8n (hk : r.kind = 8) (h : b[p]? ≠ some 1) : lcKids0 r b p = [] := by unfold lcKids0; rw [if_neg (by omega), if_neg (by omega), if_neg (fun e => h e.2)]
theorem lcKids0_n (hk : r.kind ≠ 6 ∧ r.kind ≠ 9 ∧ r.kind ≠ 8) : lcKids0 r b p = [] := by unfold lcKids0; rw [if_neg hk.1, if_neg hk.2.1, if_neg (fun e => hk.2.2 e.1)]
end

private theorem tyF : ((((((tyElem Try.prog 22 = some 5 ∧ tyElem Try.prog 24 = some 87) ∧ (tyElem Try.prog 57 = some 59 ∧ tyElem Try.prog 84 = some 9)) ∧ ((tyElem Try.prog 85 = some 3 ∧ tyField Try.prog 26 0 = some (0, 24)) ∧ (tyField Try.prog 59 0 = some (0, 3) ∧ tyField Try.prog 59 1 = some (1, 22)))) ∧ (((tyField Try.prog 59 2 = some (2, 57) ∧ tyField Try.prog 87 0 = some (0, 9)) ∧ (tyField Try.prog 87 1 = some (1, 3) ∧ tyField Try.prog 87 2 = some (2, 3))) ∧ ((tyField Try.prog 87 3 = some (3, 4) ∧ tyField Try.prog 87 4 = some (4, 22)) ∧ (tyField Try.prog 87 5 = some (5, 84) ∧ tyField Try.prog 87 6 = some (6, 85))))) ∧ ((((tyField Try.prog 87 7 = some (7, 85) ∧ tyK Try.prog 22 = some (false, 1)) ∧ (tyK Try.prog 24 = some (false, 1) ∧ tyK Try.prog 26 = some (true, 1))) ∧ ((tyK Try.prog 3 = some (false, 1) ∧ tyK Try.prog 4 = some (false, 1)) ∧ (tyK Try.prog 5 = some (false, 1) ∧ tyK Try.prog 57 = some (false, 1)))) ∧ (((tyK Try.prog 59 = some (true, 3) ∧ tyK Try.prog 84 = some (false, 1)) ∧ (tyK Try.prog 85 = some (false, 1) ∧ tyK Try.prog 87 = some (true, 8))) ∧ ((tyK Try.prog 9 = some (false, 1) ∧ tyPlaces Try.prog 26 = some [(0, 1)]) ∧ (tyPlaces Try.prog 59 = some [(0, 1), (1, 1), (2, 1)] ∧ tyPlaces Try.prog 87 = some [(0, 1), (1, 1), (2, 1), (3, 1), (4, 1), (5, 1), (6, 1), (7, 1)]))))) ∧ (((((tyRow Try.prog 22 = some 1 ∧ tyRow Try.prog 24 = some 1) ∧ (tyRow Try.prog 26 = some 1 ∧ tyRow Try.prog 3 = some 1)) ∧ ((tyRow Try.prog 4 = some 1 ∧ tyRow Try.prog 5 = some 1) ∧ (tyRow Try.prog 57 = some 1 ∧ tyRow Try.prog 59 = some 3))) ∧ (((tyRow Try.prog 84 = some 1 ∧ tyRow Try.prog 85 = some 1) ∧ (tyRow Try.prog 87 = some 8 ∧ tyRow Try.prog 9 = some 1)) ∧ ((Try.prog.underlying 22 = some (TypeDesc.slice 5) ∧ Try.prog.underlying 24 = some (TypeDesc.slice 87)) ∧ (Try.prog.underlying 3 = some (TypeDesc.int IntKind.i64) ∧ Try.prog.underlying 4 = some (TypeDesc.bool))))) ∧ ((((Try.prog.underlying 5 = some (TypeDesc.int IntKind.u8) ∧ Try.prog.underlying 57 = some (TypeDesc.slice 59)) ∧ (Try.prog.underlying 84 = some (TypeDesc.slice 9) ∧ Try.prog.underlying 85 = some (TypeDesc.slice 3))) ∧ ((Try.prog.underlying 9 = some (TypeDesc.string) ∧ tyZero Try.prog 22 = some [Value.slice none 0 0]) ∧ (tyZero Try.prog 24 = some [Value.slice none 0 0] ∧ tyZero Try.prog 26 = some [Value.slice none 0 0]))) ∧ (((tyZero Try.prog 3 = some [Value.int IntKind.i64 0] ∧ tyZero Try.prog 4 = some [Value.bool false]) ∧ (tyZero Try.prog 5 = some [Value.int IntKind.u8 0] ∧ tyZero Try.prog 57 = some [Value.slice none 0 0])) ∧ ((tyZero Try.prog 59 = some [Value.int IntKind.i64 0, Value.slice none 0 0, Value.slice none 0 0] ∧ tyZero Try.prog 84 = some [Value.slice none 0 0]) ∧ (tyZero Try.prog 85 = some [Value.slice none 0 0] ∧ (tyZero Try.prog 87 = some [Value.string ByteArray.empty, Value.int IntKind.i64 0, Value.int IntKind.i64 0, Value.bool false, Value.slice none 0 0, Value.slice none 0 0, Value.slice none 0 0, Value.slice none 0 0] ∧ tyZero Try.prog 9 = some [Value.string ByteArray.empty]))))))) := ⟨⟨⟨⟨⟨⟨te22, te24⟩, ⟨te57, te84⟩⟩, ⟨⟨te85, tf26_0⟩, ⟨tf59_0, tf59_1⟩⟩⟩, ⟨⟨⟨tf59_2, tf87_0⟩, ⟨tf87_1, tf87_2⟩⟩, ⟨⟨tf87_3, tf87_4⟩, ⟨tf87_5, tf87_6⟩⟩⟩⟩, ⟨⟨⟨⟨tf87_7, tk22⟩, ⟨tk24, tk26⟩⟩, ⟨⟨tk3, tk4⟩, ⟨tk5, tk57⟩⟩⟩, ⟨⟨⟨tk59, tk84⟩, ⟨tk85, tk87⟩⟩, ⟨⟨tk9, tp26⟩, ⟨tp59, tp87⟩⟩⟩⟩⟩, ⟨⟨⟨⟨⟨tr22, tr24⟩, ⟨tr26, tr3⟩⟩, ⟨⟨tr4, tr5⟩, ⟨tr57, tr59⟩⟩⟩, ⟨⟨⟨tr84, tr85⟩, ⟨tr87, tr9⟩⟩, ⟨⟨tu22, tu24⟩, ⟨tu3, tu4⟩⟩⟩⟩, ⟨⟨⟨⟨tu5, tu57⟩, ⟨tu84, tu85⟩⟩, ⟨⟨tu9, tz22⟩, ⟨tz24, tz26⟩⟩⟩, ⟨⟨⟨tz3, tz4⟩, ⟨tz5, tz57⟩⟩, ⟨⟨tz59, tz84⟩, ⟨tz85, ⟨tz87, tz9⟩⟩⟩⟩⟩⟩⟩
set_option maxRecDepth 100000 in
set_option maxHeartbeats 8000000 in
theorem l14Count_step (hD : DB M D) (hM : M ≤ 1048576) (hb : b.length ≤ 1048576) (hV : descP D) {f : Nat} (H : LcOK D b f) : LcOK D b (f + 1) := fun n p hnf hnl hp => by
  obtain ⟨r, hr⟩ : ∃ r, D[n]? = some r := ⟨_, List.getElem?_eq_getElem hnl⟩
  have G : GoodR D n r := good_of hV hr
  have hrb := hD.rule r (List.mem_of_getElem? hr)
  have hrd := ruleD_get hr
  have hn : n ≤ f := by omega
  have hlk := hrb.lk
  have hlt := hrb.lt
  obtain ⟨kd1, kd2⟩ := G.kd
  have HR := l11Read_all hD hM hb hV (f + 1) n p (by omega) hnl hp
  have hrin := rd_in D b (f + 1) n p hp
  have hneg : decide ((-1 : Int) < 0) = true := rfl
  have H5 : r.kind = 5 → 2 ≤ r.kids.length := fun h => by have := (G.k5 h).1; omega
  have H7 : r.kind = 7 → r.kids.length = r.tags.length + 1 := fun h => (G.k7 h).1
  have H8 : r.kind = 8 ∨ r.kind = 9 → 1 ≤ r.kids.length := fun h => by
    rcases h with h | h
    · have := G.k8 h; omega
    · have := G.k9 h; omega
  have eB : ((rd D b (f + 1) n p).2.2 == 0) = (((rd D b (f + 1) n p).2.2 : Int) == 0) := by
    rw [Bool.eq_iff_iff]
    simp only [beq_iff_eq]
    omega
  refine calls_body Try.func58 rfl Try.call58 Try.ntmps58 (by simp) (by simp [ArgsOk]) (by simp [Rz.nkL, Rz.nk]) fun en hsz hks hk0 => ?_; simp only [St.init, frOf, Rz.addSL, Rz.addS, Rz.toAL, Rz.toA, Rz.nk, List.zipIdx_cons, List.zipIdx_nil, List.map_cons, List.map_nil, Nat.zero_add, Nat.reduceAdd]
  refine walkJS ?_
  refine aw_joinS [1, 2, 3, 4, 8, 9, 10, 11] (fun _ _ => []) (fun _ z => [(12, .d (iD z.1)), (13, .d (iD z.2.1)), (14, .d (iD z.2.2.1)), (15, .d (iD z.2.2.2.1))]) [] (fun _ _ => []) [] (fun _ _ => []) (fun z : Int × Int × Int × Int × List Nat => LcI D b f n p r z.1 z.2.1 z.2.2.1 z.2.2.2.1 z.2.2.2.2) hks (fun _ => rfl) (fun x hx => ?_) ?_; rotate_left
  · refine walkS ?_
    refine aw_condS rfl (fun n4 => ?_) (fun n4 => ?_)
    · refine walkS ?_
      refine aw_condS rfl (fun n4b => ?_) (fun n4b => ?_)
      · obtain ⟨j, q, ej, hj, hq, hqr⟩ := kid_int (D := D) (i := kid0 r) (by have := (G.k4 n4).2; omega)
        have hkid : r.kids[0]? = some (j : Int) := by rw [kids0 (by have := (G.k4 n4).1; omega), ej]
        cases hi : intAt q b p with
        | none =>
          have hfin := lc_none (f := f) hrd (by omega) (by rw [hqr]; exact hi)
          (repeat (first | refine walkS ?_ | (refine callPre ?_; (first | refine callN_funS rfl ((l11Integer_c hD hM hb hj hq p hp).eqv (r1 := .d (.tup [iD 0, iD p, bD false])) (by rw [intR, intRes_none hi]; rfl)) ?_)) | (refine callPreL ?_; (first | refine callL_funS rfl ((l11Integer_c hD hM hb hj hq p hp).eqv (r1 := .d (.tup [iD 0, iD p, bD false])) (by rw [intR, intRes_none hi]; rfl)) ?_))))
          refine aw_condS rfl (fun hc => ?_) (fun hc => ?_)
          · refine walkS ?_
            (refine aw_ret ?_; (simp only [Fin, Try.results58]; refine finS ?_); exact ⟨_, _, .inl ⟨rfl, rfl⟩, List.nodup_nil, by rw [hfin]; rfl⟩)
          · (first | exact absurd trivial hc | exact absurd rfl hc | (cases hc; done) | omega | exact absurd hc (by decide) | (simp at hc; done))
        | some m =>
          obtain ⟨hi1, hi2⟩ := intAt_in hi hp
          have hfin := lc_int (f := f) hrd (by omega) (m := m) (by rw [hqr]; exact hi)
          rw [hqr] at hfin
          (repeat (first | refine walkS ?_ | (refine callPre ?_; (first | refine callN_funS rfl ((l11Integer_c hD hM hb hj hq p hp).eqv (r1 := .d (.tup [iD (m : Nat), iD ((p + q.size.toNat : Nat) : Int), bD true])) (by rw [intR, intRes_some hi])) ?_)) | (refine callPreL ?_; (first | refine callL_funS rfl ((l11Integer_c hD hM hb hj hq p hp).eqv (r1 := .d (.tup [iD (m : Nat), iD ((p + q.size.toNat : Nat) : Int), bD true])) (by rw [intR, intRes_some hi])) ?_))))
          refine aw_condS rfl (fun hc => ?_) (fun hc => ?_)
          · (first | exact absurd trivial hc | exact absurd rfl hc | (cases hc; done) | omega | exact absurd hc (by decide) | (simp at hc; done))
          rw [lcKids_4 n4] at hfin
          have f4 : (r.kind == 4) = true := by simpa using n4
          refine walkS ?_
          refine aw_condS rfl (fun m5 => ?_) (fun m5 => ?_)
          · omega
          (repeat (first | refine aw_seq ?_ | refine aw_region ?_ | refine aw_block ?_ | (refine aw_exit ?_; (try simp (decide := true) only [reduceIte])) | (refine aw_skip ?_; try dsimp only) | (refine aw_any (by kernel_rfl) (by kernel_rfl) (by simp only [hsz]; kernel_rfl) ?_) | (refine ow_nil ?_; try dsimp only) | (refine ol_go ?_ (fun K1 hK1 => ?_); (first | exact trivial | exact rfl); refine evS ?_; (try simp only [f4]); refine hK1 _ _ ?_; clear hK1 K1) | (refine ol_skip rfl rfl ?_ ?_; (focus (intro hne; cases hne; done)); simp only [St.set]) | (refine ol_nil ⟨by kernel_rfl, ?_⟩; try dsimp only) | (refine ow_go ?_ (fun x hx => by cases hx <;> (rw [hsz]; decide)) (fun K1 hK1 => ?_); (first | exact trivial | exact rfl); refine evS ?_; (try simp only [f4]); refine hK1 _ ?_; clear hK1 K1) | (refine ow_skip rfl rfl ?_ (fun x hx => by cases hx <;> (rw [hsz]; decide)) ?_; (focus (intro hne; cases hne; done)); simp only [St.set])))
          refine aw_condS rfl (fun z => ?_) (fun z => ?_)
          · refine walkS ?_
            refine ⟨(2, (m : Nat), 0, ((p + q.size.toNat : Nat) : Int), []), ?_, ?_⟩
            · exact lcI_mk (N := 2) hfin (.inl rfl) (by simp) (by omega) none_it
            · exact wkS
          · (first | exact absurd trivial z | exact absurd rfl z | (cases z; done) | omega | exact absurd z (by decide) | (simp at z; done))
      · exact absurd n4 n4b
    · refine walkS ?_
      refine aw_condS rfl (fun n5 => ?_) (fun n5 => ?_)
      · refine walkS ?_
        refine aw_condS rfl (fun n5b => ?_) (fun n5b => ?_)
        · obtain ⟨j, q, ej, hj, hq, hqr⟩ := kid_int (D := D) (i := kid0 r) (by have := (G.k5 n5).2; omega)
          have hkid : r.kids[0]? = some (j : Int) := by rw [kids0 (by have := (G.k5 n5).1; omega), ej]
          cases hi : intAt q b p with
          | none =>
            have hfin := lc_none (f := f) hrd (by omega) (by rw [hqr]; exact hi)
            (repeat (first | refine walkS ?_ | (refine callPre ?_; (first | refine callN_funS rfl ((l11Integer_c hD hM hb hj hq p hp).eqv (r1 := .d (.tup [iD 0, iD p, bD false])) (by rw [intR, intRes_none hi]; rfl)) ?_)) | (refine callPreL ?_; (first | refine callL_funS rfl ((l11Integer_c hD hM hb hj hq p hp).eqv (r1 := .d (.tup [iD 0, iD p, bD false])) (by rw [intR, intRes_none hi]; rfl)) ?_))))
            refine aw_condS rfl (fun hc => ?_) (fun hc => ?_)
            · refine walkS ?_
              (refine aw_ret ?_; (simp only [Fin, Try.results58]; refine finS ?_); exact ⟨_, _, .inl ⟨rfl, rfl⟩, List.nodup_nil, by rw [hfin]; rfl⟩)
            · (first | exact absurd trivial hc | exact absurd rfl hc | (cases hc; done) | omega | exact absurd hc (by decide) | (simp at hc; done))
          | some m =>
            obtain ⟨hi1, hi2⟩ := intAt_in hi hp
            have hfin := lc_int (f := f) hrd (by omega) (m := m) (by rw [hqr]; exact hi)
            rw [hqr] at hfin
            (repeat (first | refine walkS ?_ | (refine callPre ?_; (first | refine callN_funS rfl ((l11Integer_c hD hM hb hj hq p hp).eqv (r1 := .d (.tup [iD (m : Nat), iD ((p + q.size.toNat : Nat) : Int), bD true])) (by rw [intR, intRes_some hi])) ?_)) | (refine callPreL ?_; (first | refine callL_funS rfl ((l11Integer_c hD hM hb hj hq p hp).eqv (r1 := .d (.tup [iD (m : Nat), iD ((p + q.size.toNat : Nat) : Int), bD true])) (by rw [intR, intRes_some hi])) ?_))))
            refine aw_condS rfl (fun hc => ?_) (fun hc => ?_)
            · (first | exact absurd trivial hc | exact absurd rfl hc | (cases hc; done) | omega | exact absurd hc (by decide) | (simp at hc; done))
            have f4 : (r.kind == 4) = false := by simpa using n4
            have f5 : (r.kind == 5) = true := by simpa using n5
            have f7 : (r.kind == 7) = false := by simp; omega
            refine walkS ?_
            refine aw_condS rfl (fun m5 => ?_) (fun m5 => ?_)
            · by_cases hm : 40 < m
              · have f40 : decide ((40 : Int) < (m : Int)) = true := by simp; omega
                rw [lcKids_5c n5 hm] at hfin
                (repeat (first | refine aw_seq ?_ | refine aw_region ?_ | refine aw_block ?_ | (refine aw_exit ?_; (try simp (decide := true) only [reduceIte])) | (refine aw_skip ?_; try dsimp only) | (refine aw_any (by kernel_rfl) (by kernel_rfl) (by simp only [hsz]; kernel_rfl) ?_) | (refine ow_nil ?_; try dsimp only) | (refine ol_go ?_ (fun K1 hK1 => ?_); (first | exact trivial | exact rfl); refine evS ?_; (try simp only [f4, f5, f40]); refine hK1 _ _ ?_; clear hK1 K1) | (refine ol_skip rfl rfl ?_ ?_; (focus (intro hne; cases hne; done)); simp only [St.set]) | (refine ol_nil ⟨by kernel_rfl, ?_⟩; try dsimp only) | (refine ow_go ?_ (fun x hx => by cases hx <;> (rw [hsz]; decide)) (fun K1 hK1 => ?_); (first | exact trivial | exact rfl); refine evS ?_; (try simp only [f4, f5, f40]); refine hK1 _ ?_; clear hK1 K1) | (refine ow_skip rfl rfl ?_ (fun x hx => by cases hx <;> (rw [hsz]; decide)) ?_; (focus (intro hne; cases hne; done)); simp only [St.set])))
                refine aw_condS rfl (fun z => ?_) (fun z => ?_)
                · refine walkS ?_
                  refine ⟨(2, (m : Nat), 0, ((p + q.size.toNat : Nat) : Int), []), ?_, ?_⟩
                  · exact lcI_mk (N := 2) hfin (.inl rfl) (by simp) (by omega) none_it
                  · exact wkS
                · (first | exact absurd trivial z | exact absurd rfl z | (cases z; done) | omega | exact absurd z (by decide) | (simp at z; done))
              · have f40 : decide ((40 : Int) < (m : Int)) = false := by simp; omega
                have g5 := (G.k5 n5).1
                obtain ⟨x, hx1, hx2⟩ := kid1_nat G (by omega)
                rw [lcKids_5s n5 hm, show (kid1 r).toNat = x by omega] at hfin
                (repeat (first | refine aw_seq ?_ | refine aw_region ?_ | refine aw_block ?_ | (refine aw_exit ?_; (try simp (decide := true) only [reduceIte])) | (refine aw_skip ?_; try dsimp only) | (refine aw_any (by kernel_rfl) (by kernel_rfl) (by simp only [hsz]; kernel_rfl) ?_) | (refine ow_nil ?_; try dsimp only) | (refine ol_go ?_ (fun K1 hK1 => ?_); (first | exact trivial | exact rfl); refine evS ?_; (try simp only [f4, f5, f7, f40]); refine hK1 _ _ ?_; clear hK1 K1) | (refine ol_skip rfl rfl ?_ ?_; (focus (intro hne; cases hne; done)); simp only [St.set]) | (refine ol_nil ⟨by kernel_rfl, ?_⟩; try dsimp only) | (refine ow_go ?_ (fun x hx => by cases hx <;> (rw [hsz]; decide)) (fun K1 hK1 => ?_); (first | exact trivial | exact rfl); refine evS ?_; (try simp only [f4, f5, f7, f40]); refine hK1 _ ?_; clear hK1 K1) | (refine ow_skip rfl rfl ?_ (fun x hx => by cases hx <;> (rw [hsz]; decide)) ?_; (focus (intro hne; cases hne; done)); simp only [St.set])))
                refine aw_condS rfl (fun z => ?_) (fun z => ?_)
                · (first | exact absurd trivial z | exact absurd rfl z | (cases z; done) | omega | exact absurd z (by decide) | (simp at z; done))
                · refine walkS ?_
                  refine ⟨(2, (m : Nat), (m : Nat), ((p + q.size.toNat : Nat) : Int), List.replicate m x), ?_, ?_⟩
                  · have := lcI_mk (r := r) (num := m) (N := 2) hfin (.inr (by omega)) (by simp; omega) (by omega) (rep_it (fun i => (itemK_5 (i := i) (n := m) n5).trans hx1) ⟨by omega, by omega⟩)
                    rwa [List.length_replicate] at this
                  · exact wkS
            · exact absurd n5 m5
        · exact absurd n5 n5b
      · refine walkS ?_
        refine aw_condS rfl (fun n7 => ?_) (fun n7 => ?_)
        · obtain ⟨j, q, ej, hj, hq, hqr⟩ := kid_int (D := D) (i := kid0 r) (by have := (G.k7 n7).2; omega)
          have hkid : r.kids[0]? = some (j : Int) := by rw [kids0 (by have := (G.k7 n7).1; omega), ej]
          cases hi : intAt q b p with
          | none =>
            have hfin := lc_none (f := f) hrd (by omega) (by rw [hqr]; exact hi)
            (repeat (first | refine walkS ?_ | (refine callPre ?_; (first | refine callN_funS rfl ((l11Integer_c hD hM hb hj hq p hp).eqv (r1 := .d (.tup [iD 0, iD p, bD false])) (by rw [intR, intRes_none hi]; rfl)) ?_)) | (refine callPreL ?_; (first | refine callL_funS rfl ((l11Integer_c hD hM hb hj hq p hp).eqv (r1 := .d (.tup [iD 0, iD p, bD false])) (by rw [intR, intRes_none hi]; rfl)) ?_))))
            refine aw_condS rfl (fun hc => ?_) (fun hc => ?_)
            · refine walkS ?_
              (refine aw_ret ?_; (simp only [Fin, Try.results58]; refine finS ?_); exact ⟨_, _, .inl ⟨rfl, rfl⟩, List.nodup_nil, by rw [hfin]; rfl⟩)
            · (first | exact absurd trivial hc | exact absurd rfl hc | (cases hc; done) | omega | exact absurd hc (by decide) | (simp at hc; done))
          | some m =>
            obtain ⟨hi1, hi2⟩ := intAt_in hi hp
            have hfin := lc_int (f := f) hrd (by omega) (m := m) (by rw [hqr]; exact hi)
            rw [hqr] at hfin
            (repeat (first | refine walkS ?_ | (refine callPre ?_; (first | refine callN_funS rfl ((l11Integer_c hD hM hb hj hq p hp).eqv (r1 := .d (.tup [iD (m : Nat), iD ((p + q.size.toNat : Nat) : Int), bD true])) (by rw [intR, intRes_some hi])) ?_)) | (refine callPreL ?_; (first | refine callL_funS rfl ((l11Integer_c hD hM hb hj hq p hp).eqv (r1 := .d (.tup [iD (m : Nat), iD ((p + q.size.toNat : Nat) : Int), bD true])) (by rw [intR, intRes_some hi])) ?_))))
            refine aw_condS rfl (fun hc => ?_) (fun hc => ?_)
            · (first | exact absurd trivial hc | exact absurd rfl hc | (cases hc; done) | omega | exact absurd hc (by decide) | (simp at hc; done))
            have f4 : (r.kind == 4) = false := by simpa using n4
            have f5 : (r.kind == 5) = false := by simpa using n5
            have f7 : (r.kind == 7) = true := by simpa using n7
            have g7 := (G.k7 n7).1
            refine walkS ?_
            refine aw_condS rfl (fun m5 => ?_) (fun m5 => ?_)
            · exact absurd m5 n5
            cases ht : tagIx r.tags m with
            | none =>
              rw [lcKids_7t n7 ht] at hfin
              (repeat (first | refine aw_seq ?_ | refine aw_region ?_ | refine aw_block ?_ | (refine aw_exit ?_; (try simp (decide := true) only [reduceIte])) | (refine aw_skip ?_; try dsimp only) | (refine aw_any (by kernel_rfl) (by kernel_rfl) (by simp only [hsz]; kernel_rfl) ?_) | (refine ow_nil ?_; try dsimp only) | (refine ol_go ?_ (fun K1 hK1 => ?_); (first | exact trivial | exact rfl); refine evS ?_; (try simp only [f4, f5, f7, hneg]); refine hK1 _ _ ?_; clear hK1 K1) | (refine ol_skip rfl rfl ?_ ?_; (focus (intro hne; cases hne; done)); simp only [St.set]) | (refine ol_nil ⟨by kernel_rfl, ?_⟩; try dsimp only) | (refine ow_go ?_ (fun x hx => by cases hx <;> (rw [hsz]; decide)) (fun K1 hK1 => ?_); (first | exact trivial | exact rfl); refine evS ?_; (try simp only [f4, f5, f7, hneg]); refine hK1 _ ?_; clear hK1 K1) | (refine ow_skip rfl rfl ?_ (fun x hx => by cases hx <;> (rw [hsz]; decide)) ?_; (focus (intro hne; cases hne; done)); simp only [St.set]) | (refine callPre ?_; (first | refine callN_funS rfl ((l9Item_c hrb hM (m : Nat) 0 (by omega) (by omega) (by omega)).eqv (r1 := .d (iD (-1))) (by rw [itemK_7n n7 ht])) ?_)) | (refine callPreL ?_; (first | refine callL_funS rfl ((l9Item_c hrb hM (m : Nat) 0 (by omega) (by omega) (by omega)).eqv (r1 := .d (iD (-1))) (by rw [itemK_7n n7 ht])) ?_))))
              refine aw_condS rfl (fun z => ?_) (fun z => ?_)
              · refine walkS ?_
                refine ⟨(2, (m : Nat), 0, ((p + q.size.toNat : Nat) : Int), []), ?_, ?_⟩
                · exact lcI_mk (N := 2) hfin (.inl rfl) (by simp) (by omega) none_it
                · exact wkS
              · (first | exact absurd trivial z | exact absurd rfl z | (cases z; done) | omega | exact absurd z (by decide) | (simp at z; done))
            | some k =>
              have hkl := tagIx_lt ht
              obtain ⟨x, hx⟩ : ∃ x : Nat, r.kids[k + 1]'(by omega) = (x : Int) := ⟨(r.kids[k + 1]'(by omega)).toNat, by have := (G.kid (k + 1) (by omega)).1; omega⟩
              have hxn : x < n := by have := (G.kid (k + 1) (by omega)).2; omega
              have hxd : (r.kids.getD (k + 1) 0).toNat = x := by rw [List.getD_eq_getElem?_getD, List.getElem?_eq_getElem (by omega), Option.getD_some, hx]; omega
              have fx : decide ((x : Int) < 0) = false := by simp
              rw [lcKids_7s n7 ht, hxd] at hfin
              (repeat (first | refine aw_seq ?_ | refine aw_region ?_ | refine aw_block ?_ | (refine aw_exit ?_; (try simp (decide := true) only [reduceIte])) | (refine aw_skip ?_; try dsimp only) | (refine aw_any (by kernel_rfl) (by kernel_rfl) (by simp only [hsz]; kernel_rfl) ?_) | (refine ow_nil ?_; try dsimp only) | (refine ol_go ?_ (fun K1 hK1 => ?_); (first | exact trivial | exact rfl); refine evS ?_; (try simp only [f4, f5, f7, fx]); refine hK1 _ _ ?_; clear hK1 K1) | (refine ol_skip rfl rfl ?_ ?_; (focus (intro hne; cases hne; done)); simp only [St.set]) | (refine ol_nil ⟨by kernel_rfl, ?_⟩; try dsimp only) | (refine ow_go ?_ (fun x hx => by cases hx <;> (rw [hsz]; decide)) (fun K1 hK1 => ?_); (first | exact trivial | exact rfl); refine evS ?_; (try simp only [f4, f5, f7, fx]); refine hK1 _ ?_; clear hK1 K1) | (refine ow_skip rfl rfl ?_ (fun x hx => by cases hx <;> (rw [hsz]; decide)) ?_; (focus (intro hne; cases hne; done)); simp only [St.set]) | (refine callPre ?_; (first | refine callN_funS rfl ((l9Item_c hrb hM (m : Nat) 0 (by omega) (by omega) (by omega)).eqv (r1 := .d (iD (x : Nat))) (by rw [itemK_7 n7 ht (by omega), hx])) ?_)) | (refine callPreL ?_; (first | refine callL_funS rfl ((l9Item_c hrb hM (m : Nat) 0 (by omega) (by omega) (by omega)).eqv (r1 := .d (iD (x : Nat))) (by rw [itemK_7 n7 ht (by omega), hx])) ?_))))
              refine aw_condS rfl (fun z => ?_) (fun z => ?_)
              · (first | exact absurd trivial z | exact absurd rfl z | (cases z; done) | omega | exact absurd z (by decide) | (simp at z; done))
              · refine walkS ?_
                refine ⟨(2, (m : Nat), 1, ((p + q.size.toNat : Nat) : Int), [x]), ?_, ?_⟩
                · exact lcI_mk (N := 2) hfin (.inr (by omega)) (by simp) (by omega) (one_it ((itemK_7 n7 ht (by omega)).trans hx) ⟨by omega, by omega⟩)
                · exact wkS
        have hfin := lc_else (b := b) (f := f) (p := p) hrd (by omega)
        refine walkS ?_
        refine aw_condS rfl (fun n6 => ?_) (fun n6 => ?_)
        · rw [lcKids0_6 n6, if_neg (by omega)] at hfin
          refine walkS ?_
          refine ⟨(1, 0, (r.kids.length : Nat), (p : Nat), r.kids.map Int.toNat), ?_, ?_⟩
          · have := lcI_mk (r := r) (num := 0) (N := 1) hfin (.inr (by omega)) (by simp; omega) (by omega) (seq_ks G n6 hn hnl)
            rwa [List.length_map] at this
          · exact wkS
        refine walkS ?_
        refine aw_condS rfl (fun n9 => ?_) (fun n9 => ?_)
        · have g9 := G.k9 n9
          obtain ⟨x, hx1, hx2⟩ := kid_nat G (by omega)
          rw [lcKids0_9 n9, if_neg (by omega), show (kid0 r).toNat = x by omega] at hfin
          refine walkS ?_
          refine ⟨(1, 0, 1, (p : Nat), [x]), ?_, ?_⟩
          · exact lcI_mk (N := 1) hfin (.inr (by omega)) (by simp) (by omega) (one_it ((itemK_8 (.inr n9)).trans hx1) ⟨by omega, by omega⟩)
          · exact wkS
        refine walkS ?_
        refine aw_condS rfl (fun n8 => ?_) (fun n8 => ?_)
        · have g8 := G.k8 n8
          obtain ⟨x, hx1, hx2⟩ := kid_nat G (by omega)
          rw [if_pos n8] at hfin
          by_cases hpl : p < b.length
          · have fl : decide ((p : Int) < (b.length : Int)) = true := by simp; omega
            (repeat (first | refine aw_seq ?_ | refine aw_region ?_ | refine aw_block ?_ | (refine aw_exit ?_; (try simp (decide := true) only [reduceIte])) | (refine aw_skip ?_; try dsimp only) | (refine aw_any (by kernel_rfl) (by kernel_rfl) (by simp only [hsz]; kernel_rfl) ?_) | (refine ow_nil ?_; try dsimp only) | (refine ol_go ?_ (fun K1 hK1 => ?_); (first | exact trivial | exact rfl); refine evS ?_; (try simp only [fl]); refine hK1 _ _ ?_; clear hK1 K1) | (refine ol_skip rfl rfl ?_ ?_; (focus (intro hne; cases hne; done)); simp only [St.set]) | (refine ol_nil ⟨by kernel_rfl, ?_⟩; try dsimp only) | (refine ow_go ?_ (fun x hx => by cases hx <;> (rw [hsz]; decide)) (fun K1 hK1 => ?_); (first | exact trivial | exact rfl); refine evS ?_; (try simp only [fl]); refine hK1 _ ?_; clear hK1 K1) | (refine ow_skip rfl rfl ?_ (fun x hx => by cases hx <;> (rw [hsz]; decide)) ?_; (focus (intro hne; cases hne; done)); simp only [St.set])))
            refine aw_condS rfl (fun h1 => ?_) (fun h1 => ?_)
            · rw [lcKids0_8y n8 (by rw [List.getElem?_eq_getElem hpl]; congr 1; exact u8one (by omega)), show (kid0 r).toNat = x by omega] at hfin
              refine walkS ?_
              refine ⟨(1, 0, 1, ((p : Int) + 1), [x]), ?_, ?_⟩
              · exact lcI_mk (N := 1) hfin (.inr (by omega)) (by simp) (by omega) (one_it ((itemK_8 (.inl n8)).trans hx1) ⟨by omega, by omega⟩)
              · exact wkS
            · rw [lcKids0_8n n8 (by rw [List.getElem?_eq_getElem hpl]; intro e; have := Option.some.inj e; rw [this] at h1; exact h1 rfl)] at hfin
              refine walkS ?_
              refine ⟨(1, 0, 0, ((p : Int) + 1), []), ?_, ?_⟩
              · exact lcI_mk (N := 1) hfin (.inl rfl) (by simp) (by omega) none_it
              · exact wkS
          · have fl : decide ((p : Int) < (b.length : Int)) = false := by simp; omega
            rw [lcKids0_8n n8 (by rw [List.getElem?_eq_none (by omega)]; simp)] at hfin
            (repeat (first | refine aw_seq ?_ | refine aw_region ?_ | refine aw_block ?_ | (refine aw_exit ?_; (try simp (decide := true) only [reduceIte])) | (refine aw_skip ?_; try dsimp only) | (refine aw_any (by kernel_rfl) (by kernel_rfl) (by simp only [hsz]; kernel_rfl) ?_) | (refine ow_nil ?_; try dsimp only) | (refine ol_go ?_ (fun K1 hK1 => ?_); (first | exact trivial | exact rfl); refine evS ?_; (try simp only [fl]); refine hK1 _ _ ?_; clear hK1 K1) | (refine ol_skip rfl rfl ?_ ?_; (focus (intro hne; cases hne; done)); simp only [St.set]) | (refine ol_nil ⟨by kernel_rfl, ?_⟩; try dsimp only) | (refine ow_go ?_ (fun x hx => by cases hx <;> (rw [hsz]; decide)) (fun K1 hK1 => ?_); (first | exact trivial | exact rfl); refine evS ?_; (try simp only [fl]); refine hK1 _ ?_; clear hK1 K1) | (refine ow_skip rfl rfl ?_ (fun x hx => by cases hx <;> (rw [hsz]; decide)) ?_; (focus (intro hne; cases hne; done)); simp only [St.set])))
            refine aw_condS rfl (fun h1 => ?_) (fun h1 => ?_)
            · (first | exact absurd trivial h1 | exact absurd rfl h1 | (cases h1; done) | omega | exact absurd h1 (by decide) | (simp at h1; done))
            · refine walkS ?_
              refine ⟨(1, 0, 0, ((p : Int) + 1), []), ?_, ?_⟩
              · exact lcI_mk (N := 1) hfin (.inl rfl) (by simp) (by omega) none_it
              · exact wkS
        · rw [lcKids0_n ⟨n6, n9, n8⟩, if_neg n8] at hfin
          refine walkS ?_
          refine ⟨(1, 0, 0, (p : Nat), []), ?_, ?_⟩
          · exact lcI_mk (N := 1) hfin (.inl rfl) (by simp) (by omega) none_it
          · exact wkS
  · obtain ⟨n0, num, c, pos, ks⟩ := x
    simp only at hx
    obtain ⟨⟨N, q, rfl, rfl, hq, hlc⟩, rfl, hit, hlen, hsm⟩ := hx
    have eN : ((N : Nat) : Int) = IntKind.i64.wrap (N : Nat) := (wrap64 hsm.1 hsm.2).symm
    simp (decide := true) only [St.head, List.map_cons, List.map_nil, lk, rmv, List.cons_append, List.nil_append, List.append_nil, reduceIte, Nat.reduceAdd]
    refine walkS ?_
    rw [eN]
    refine aw_loopS [1, 2, 3, 4, 8, 9, 10, 11, 13, 14] (fun _ _ => []) (fun _ y => [(19, .d (iD (y.1 : Nat))), (12, .d (iD (IntKind.i64.wrap (y.2.1 : Nat)))), (15, .d (iD (y.2.2 : Nat)))]) [] (fun _ _ => []) [] (fun _ _ => []) (fun y : Nat × Nat × Nat => y.1 ≤ ks.length ∧ (ks.drop y.1 = [] ∨ y.2.2 ≤ b.length) ∧ lcItems (lc D b f) ks q N = lcItems (lc D b f) (ks.drop y.1) y.2.2 y.2.1) (fun y => ks.length - y.1) ((0, N, q)) hks (fun _ => rfl) ⟨Nat.zero_le _, hq, rfl⟩ wkS ?_; intro x hx; simp (decide := true) only [St.head, List.map_cons, List.map_nil, lk, rmv, List.cons_append, List.nil_append, List.append_nil, reduceIte, Nat.reduceAdd]
    obtain ⟨k, N', q'⟩ := x
    simp only at hx ⊢
    obtain ⟨hx1, hx2, hx3⟩ := hx
    refine walkS ?_
    refine aw_condS rfl (fun hk => ?_) (fun hk => ?_)
    · obtain ⟨it1, it2, it3⟩ := hit k (by omega)
      have hd : ks.drop k = ks[k]'(by omega) :: ks.drop (k + 1) := List.drop_eq_getElem_cons (by omega)
      have hq' : q' ≤ b.length := by
        rcases hx2 with h | h
        · rw [hd] at h; cases h
        · exact h
      rw [hd] at hx3
      obtain ⟨s1, s2, s3⟩ := lc_spec (D := D) f (ks[k]'(by omega)) q' hq'
      have hin := rd_in D b f (ks[k]'(by omega)) q' hq'
      (repeat (first | refine aw_seq ?_ | refine aw_region ?_ | refine aw_block ?_ | (refine aw_exit ?_; (try simp (decide := true) only [reduceIte])) | (refine aw_skip ?_; try dsimp only) | (refine aw_any (by kernel_rfl) (by kernel_rfl) (by simp only [hsz]; kernel_rfl) ?_) | (refine ow_nil ?_; try dsimp only) | (refine ol_go ?_ (fun K1 hK1 => ?_); (first | exact trivial | exact rfl); refine evS ?_; (try simp only [wrapw, wrapr, ← Int.natCast_add]); refine hK1 _ _ ?_; clear hK1 K1) | (refine ol_skip rfl rfl ?_ ?_; (focus (intro hne; cases hne; done)); simp only [St.set]) | (refine ol_nil ⟨by kernel_rfl, ?_⟩; try dsimp only) | (refine ow_go ?_ (fun x hx => by cases hx <;> (rw [hsz]; decide)) (fun K1 hK1 => ?_); (first | exact trivial | exact rfl); refine evS ?_; (try simp only [wrapw, wrapr, ← Int.natCast_add]); refine hK1 _ ?_; clear hK1 K1) | (refine ow_skip rfl rfl ?_ (fun x hx => by cases hx <;> (rw [hsz]; decide)) ?_; (focus (intro hne; cases hne; done)); simp only [St.set]) | (refine callPre ?_; (first | refine callN_funS rfl ((l9Item_c hrb hM num k H5 H7 H8).eqv (r1 := .d (iD ((ks[k]'(by omega) : Nat) : Int))) (by rw [it1])) ?_ | refine callN_funS rfl (H _ q' it2 it3 hq') ?_)) | (refine callPreL ?_; (first | refine callL_funS rfl ((l9Item_c hrb hM num k H5 H7 H8).eqv (r1 := .d (iD ((ks[k]'(by omega) : Nat) : Int))) (by rw [it1])) ?_ | refine callL_funS rfl (H _ q' it2 it3 hq') ?_))))
      refine aw_condS rfl (fun hne => ?_) (fun hne => ?_)
      · refine walkS ?_
        (refine aw_ret ?_; (simp only [Fin, Try.results58]; refine finS ?_); exact ⟨_, _, .inl ⟨rfl, rfl⟩, List.nodup_nil, by rw [hlc, hx3, lcItems_bad hne, lcFin_f]⟩)
      · have hok : (lc D b f (ks[k]'(by omega)) q').2.2 = true := by simpa using hne
        refine walkS ?_
        refine ⟨(k + 1, N' + (lc D b f (ks[k]'(by omega)) q').1, (lc D b f (ks[k]'(by omega)) q').2.1), ⟨by simp only; omega, .inr (by simp only; rw [s3 hok]; exact hin.2), by simp only; rw [hx3, lcItems_ok hok]⟩, by simp only; omega, ?_⟩
        exact wkS
    · rw [List.drop_eq_nil_of_le (by omega), lcItems] at hx3
      (repeat (first | refine walkS ?_ | (refine callPre ?_; (first | refine callN_funS rfl (HR) ?_)) | (refine callPreL ?_; (first | refine callL_funS rfl (HR) ?_))))
      (refine aw_ret ?_; (simp only [Fin, Try.results58]; refine finS ?_); exact ⟨_, _, .inl ⟨rfl, rfl⟩, List.nodup_nil, by rw [hlc, hx3, lcFin_t, eB]⟩)
theorem l14Count_all (hD : DB M D) (hM : M ≤ 1048576) (hb : b.length ≤ 1048576) (hV : descP D) : ∀ f, LcOK D b f
  | 0 => fun n p h => by omega
  | f + 1 => l14Count_step hD hM hb hV (l14Count_all hD hM hb hV f)
end
end Go.Proofs.Ytcpboonjaceneaa.Eng
