/-
  The laws' helpers: registries.
-/
import Derived.Test.YtoegmaebdihnaaaGreatDoorKL
import Derived.Test.YtoegmaebdihnaaaGreatDoorKM2
set_option linter.unusedSimpArgs false
set_option linter.unusedVariables false
namespace Go.Proofs.YtoegmaebdihnaaaGreatDoor.Eng
open Go Go.RowKit

abbrev encDss (l : List (List RuleD)) : D := .sl 1 (l.map fun D => [encDs D])
def encG (l : List (List RuleD)) : D := .agg [encDss l]
/-- No more than M descriptions, in each nothing longer than M. -/
structure GB (M : Nat) (l : List (List RuleD)) : Prop where
  len : l.length ≤ M
  el : ∀ D ∈ l, DB M D
def encDcI (p : Nat → Prop) (D : List RuleD) : List Eng.D := [.iv p (encDs D)]
theorem encDcI_on (p : Nat → Prop) (D : List RuleD) : OnSL p (encDcI p D) [encDs D] := .cons .iv .nil
theorem encDcI_anti (D : List RuleD) : ∀ m n, m ≤ n → ∀ (C : CellR) u, RepD C (.agg [.iv (fun b => n ≤ b) (encDs D)]) u → RepD C (.agg [.iv (fun b => m ≤ b) (encDs D)]) u :=
  anti_agg (f := fun n => [.iv (fun b => n ≤ b) (encDs D)]) fun m n hmn C us k => repL_semi hmn (fun _ k => k) k

private theorem tyF : ((((((bytesT Tryz.prog 25 = true ∧ (tyElem Tryz.prog 104 = some 9 ∧ tyElem Tryz.prog 22 = some 106)) ∧ (tyElem Tryz.prog 25 = some 5 ∧ (tyElem Tryz.prog 28 = some 107 ∧ tyElem Tryz.prog 50 = some 24))) ∧ ((tyElem Tryz.prog 54 = some 3 ∧ (tyElem Tryz.prog 56 = some 30 ∧ tyField Tryz.prog 106 0 = some (0, 9))) ∧ (tyField Tryz.prog 106 1 = some (1, 3) ∧ (tyField Tryz.prog 106 2 = some (2, 3) ∧ tyField Tryz.prog 106 3 = some (3, 4))))) ∧ (((tyField Tryz.prog 106 4 = some (4, 25) ∧ (tyField Tryz.prog 106 5 = some (5, 104) ∧ tyField Tryz.prog 106 6 = some (6, 54))) ∧ (tyField Tryz.prog 106 7 = some (7, 54) ∧ (tyField Tryz.prog 107 0 = some (0, 9) ∧ tyField Tryz.prog 107 1 = some (1, 3)))) ∧ ((tyField Tryz.prog 107 2 = some (2, 3) ∧ (tyField Tryz.prog 107 3 = some (3, 4) ∧ tyField Tryz.prog 107 4 = some (4, 25))) ∧ (tyField Tryz.prog 107 5 = some (5, 104) ∧ (tyField Tryz.prog 107 6 = some (6, 54) ∧ tyField Tryz.prog 107 7 = some (7, 54)))))) ∧ ((((tyField Tryz.prog 24 0 = some (0, 22) ∧ (tyField Tryz.prog 30 0 = some (0, 28) ∧ tyField Tryz.prog 52 0 = some (0, 50))) ∧ (tyField Tryz.prog 58 0 = some (0, 56) ∧ (tyK Tryz.prog 104 = some (false, 1) ∧ tyK Tryz.prog 106 = some (true, 8)))) ∧ ((tyK Tryz.prog 107 = some (true, 8) ∧ (tyK Tryz.prog 22 = some (false, 1) ∧ tyK Tryz.prog 24 = some (true, 1))) ∧ (tyK Tryz.prog 25 = some (false, 1) ∧ (tyK Tryz.prog 28 = some (false, 1) ∧ tyK Tryz.prog 3 = some (false, 1))))) ∧ (((tyK Tryz.prog 30 = some (true, 1) ∧ (tyK Tryz.prog 4 = some (false, 1) ∧ tyK Tryz.prog 5 = some (false, 1))) ∧ (tyK Tryz.prog 50 = some (false, 1) ∧ (tyK Tryz.prog 52 = some (true, 1) ∧ tyK Tryz.prog 54 = some (false, 1)))) ∧ ((tyK Tryz.prog 56 = some (false, 1) ∧ (tyK Tryz.prog 58 = some (true, 1) ∧ tyK Tryz.prog 9 = some (false, 1))) ∧ (tyPlaces Tryz.prog 106 = some [(0, 1), (1, 1), (2, 1), (3, 1), (4, 1), (5, 1), (6, 1), (7, 1)] ∧ (tyPlaces Tryz.prog 107 = some [(0, 1), (1, 1), (2, 1), (3, 1), (4, 1), (5, 1), (6, 1), (7, 1)] ∧ tyPlaces Tryz.prog 24 = some [(0, 1)])))))) ∧ (((((tyPlaces Tryz.prog 30 = some [(0, 1)] ∧ (tyPlaces Tryz.prog 52 = some [(0, 1)] ∧ tyPlaces Tryz.prog 58 = some [(0, 1)])) ∧ (tyRow Tryz.prog 104 = some 1 ∧ (tyRow Tryz.prog 106 = some 8 ∧ tyRow Tryz.prog 107 = some 8))) ∧ ((tyRow Tryz.prog 22 = some 1 ∧ (tyRow Tryz.prog 24 = some 1 ∧ tyRow Tryz.prog 25 = some 1)) ∧ (tyRow Tryz.prog 28 = some 1 ∧ (tyRow Tryz.prog 3 = some 1 ∧ tyRow Tryz.prog 30 = some 1)))) ∧ (((tyRow Tryz.prog 4 = some 1 ∧ (tyRow Tryz.prog 5 = some 1 ∧ tyRow Tryz.prog 50 = some 1)) ∧ (tyRow Tryz.prog 52 = some 1 ∧ (tyRow Tryz.prog 54 = some 1 ∧ tyRow Tryz.prog 56 = some 1))) ∧ ((tyRow Tryz.prog 58 = some 1 ∧ (tyRow Tryz.prog 9 = some 1 ∧ Tryz.prog.underlying 104 = some (TypeDesc.slice 9))) ∧ (Tryz.prog.underlying 22 = some (TypeDesc.slice 106) ∧ (Tryz.prog.underlying 25 = some (TypeDesc.slice 5) ∧ Tryz.prog.underlying 28 = some (TypeDesc.slice 107)))))) ∧ ((((Tryz.prog.underlying 3 = some (TypeDesc.int IntKind.i64) ∧ (Tryz.prog.underlying 4 = some (TypeDesc.bool) ∧ Tryz.prog.underlying 5 = some (TypeDesc.int IntKind.u8))) ∧ (Tryz.prog.underlying 50 = some (TypeDesc.slice 24) ∧ (Tryz.prog.underlying 54 = some (TypeDesc.slice 3) ∧ Tryz.prog.underlying 56 = some (TypeDesc.slice 30)))) ∧ ((Tryz.prog.underlying 9 = some (TypeDesc.string) ∧ (tyZero Tryz.prog 104 = some [Value.slice none 0 0] ∧ tyZero Tryz.prog 106 = some [Value.string ByteArray.empty, Value.int IntKind.i64 0, Value.int IntKind.i64 0, Value.bool false, Value.slice none 0 0, Value.slice none 0 0, Value.slice none 0 0, Value.slice none 0 0])) ∧ (tyZero Tryz.prog 107 = some [Value.string ByteArray.empty, Value.int IntKind.i64 0, Value.int IntKind.i64 0, Value.bool false, Value.slice none 0 0, Value.slice none 0 0, Value.slice none 0 0, Value.slice none 0 0] ∧ (tyZero Tryz.prog 22 = some [Value.slice none 0 0] ∧ tyZero Tryz.prog 24 = some [Value.slice none 0 0])))) ∧ (((tyZero Tryz.prog 25 = some [Value.slice none 0 0] ∧ (tyZero Tryz.prog 28 = some [Value.slice none 0 0] ∧ tyZero Tryz.prog 3 = some [Value.int IntKind.i64 0])) ∧ (tyZero Tryz.prog 30 = some [Value.slice none 0 0] ∧ (tyZero Tryz.prog 4 = some [Value.bool false] ∧ tyZero Tryz.prog 5 = some [Value.int IntKind.u8 0]))) ∧ ((tyZero Tryz.prog 50 = some [Value.slice none 0 0] ∧ (tyZero Tryz.prog 52 = some [Value.slice none 0 0] ∧ tyZero Tryz.prog 54 = some [Value.slice none 0 0])) ∧ (tyZero Tryz.prog 56 = some [Value.slice none 0 0] ∧ (tyZero Tryz.prog 58 = some [Value.slice none 0 0] ∧ tyZero Tryz.prog 9 = some [Value.string ByteArray.empty]))))))) := ⟨⟨⟨⟨⟨⟨tb25, ⟨te104, te22⟩⟩, ⟨te25, ⟨te28, te50⟩⟩⟩, ⟨⟨te54, ⟨te56, tf106_0⟩⟩, ⟨tf106_1, ⟨tf106_2, tf106_3⟩⟩⟩⟩, ⟨⟨⟨tf106_4, ⟨tf106_5, tf106_6⟩⟩, ⟨tf106_7, ⟨tf107_0, tf107_1⟩⟩⟩, ⟨⟨tf107_2, ⟨tf107_3, tf107_4⟩⟩, ⟨tf107_5, ⟨tf107_6, tf107_7⟩⟩⟩⟩⟩, ⟨⟨⟨⟨tf24_0, ⟨tf30_0, tf52_0⟩⟩, ⟨tf58_0, ⟨tk104, tk106⟩⟩⟩, ⟨⟨tk107, ⟨tk22, tk24⟩⟩, ⟨tk25, ⟨tk28, tk3⟩⟩⟩⟩, ⟨⟨⟨tk30, ⟨tk4, tk5⟩⟩, ⟨tk50, ⟨tk52, tk54⟩⟩⟩, ⟨⟨tk56, ⟨tk58, tk9⟩⟩, ⟨tp106, ⟨tp107, tp24⟩⟩⟩⟩⟩⟩, ⟨⟨⟨⟨⟨tp30, ⟨tp52, tp58⟩⟩, ⟨tr104, ⟨tr106, tr107⟩⟩⟩, ⟨⟨tr22, ⟨tr24, tr25⟩⟩, ⟨tr28, ⟨tr3, tr30⟩⟩⟩⟩, ⟨⟨⟨tr4, ⟨tr5, tr50⟩⟩, ⟨tr52, ⟨tr54, tr56⟩⟩⟩, ⟨⟨tr58, ⟨tr9, tu104⟩⟩, ⟨tu22, ⟨tu25, tu28⟩⟩⟩⟩⟩, ⟨⟨⟨⟨tu3, ⟨tu4, tu5⟩⟩, ⟨tu50, ⟨tu54, tu56⟩⟩⟩, ⟨⟨tu9, ⟨tz104, tz106⟩⟩, ⟨tz107, ⟨tz22, tz24⟩⟩⟩⟩, ⟨⟨⟨tz25, ⟨tz28, tz3⟩⟩, ⟨tz30, ⟨tz4, tz5⟩⟩⟩, ⟨⟨tz50, ⟨tz52, tz54⟩⟩, ⟨tz56, ⟨tz58, tz9⟩⟩⟩⟩⟩⟩⟩
set_option maxRecDepth 100000 in
set_option maxHeartbeats 1000000 in
theorem toDescriptionS_i {l : List (List RuleD)} (hl : GB 1048576 l) : ACI Tryz.prog 79 [.d (encDss l)] (encDss l) := by
  have hl1 := hl.len
  refine calls_bodyI Tryz.func79 rfl Tryz.call79 Tryz.ntmps79 (by simp) (by simp [ArgsOk]) fun en hsz hcok hX hks => ?_; simp only [St.init, frOf, Rz.addSL, Rz.addS, Rz.toAL, Rz.toA, Rz.nk, List.zipIdx_cons, List.zipIdx_nil, List.map_cons, List.map_nil, Nat.zero_add, Nat.reduceAdd]
  have h0 : List.map A.d (List.replicate l.length [D.v (Value.slice none 0 0)]).flatten = arrC (encDcI (fun b => en.w.heap.size ≤ b)) [D.v (Value.slice none 0 0)] l 0 := arrC_0.symm
  (repeat (first | refine walkS ?_ | (refine ow_make ?_ (fun x hx => by cases hx <;> (rw [hsz]; decide)) rfl rfl ?_ te56 tr30 tz30 ?_; (first | exact trivial | exact rfl); omega; simp only [St.set, List.map_cons, List.map_nil, Nat.reduceAdd])))
  rw [h0]
  refine aw_loopS [0, 2, 3] (fun _ _ => []) (fun _ k => [(4, .d (iD (k : Nat)))]) [16] (fun _ k => [(16, some (arrC (encDcI (fun b => en.w.heap.size ≤ b)) [D.v (Value.slice none 0 0)] l k))]) [] (fun _ _ => []) (fun k => k ≤ l.length) (fun k => l.length - k) (0) hks (fun _ => rfl) (Nat.zero_le _) wkS ?_; intro x hx; simp (decide := true) only [St.head, List.map_cons, List.map_nil, lk, rmv, List.cons_append, List.nil_append, List.append_nil, reduceIte, Nat.reduceAdd]
  (repeat (first | refine walkS ?_ | (refine ow_make ?_ (fun x hx => by cases hx <;> (rw [hsz]; decide)) rfl rfl ?_ te56 tr30 tz30 ?_; (first | exact trivial | exact rfl); omega; simp only [St.set, List.map_cons, List.map_nil, Nat.reduceAdd])))
  refine aw_condS rfl (fun hk => ?_) (fun hk => ?_)
  · have hA := arrC_len (f := encDcI (fun b => en.w.heap.size ≤ b)) (zero := [D.v (Value.slice none 0 0)]) (l := l) (k := x) (z := 1) (fun _ _ => rfl) rfl hx
    have hB : splice (arrC (encDcI (fun b => en.w.heap.size ≤ b)) [D.v (Value.slice none 0 0)] l x) [A.d (.iv (fun b => en.w.heap.size ≤ b) (encDs (l[x]'(by omega))))] (x * 1) = arrC (encDcI (fun b => en.w.heap.size ≤ b)) [D.v (Value.slice none 0 0)] l (x + 1) := arrC_step (f := encDcI (fun b => en.w.heap.size ≤ b)) (z := 1) (fun _ _ => rfl) rfl (show x < l.length by omega)
    have hxl := hl.el (l[x]'(by omega)) (List.getElem_mem _)
    have hanti := encDcI_anti (l[x]'(by omega))
    (repeat (first | refine aw_seq ?_ | refine aw_region ?_ | refine aw_block ?_ | (refine aw_exit ?_; (try simp (decide := true) only [reduceIte])) | (refine aw_skip ?_; try dsimp only) | (refine aw_any (by kernel_rfl) (by kernel_rfl) (by simp only [hsz]; kernel_rfl) ?_) | (refine ow_nil ?_; try dsimp only) | (refine ol_go ?_ (fun K1 hK1 => ?_); (first | exact trivial | exact rfl); refine evS ?_; (try rw [hB]); refine hK1 _ _ ?_; clear hK1 K1) | (refine ol_skip rfl rfl ?_ ?_; (focus (intro hne; cases hne; done)); simp only [St.set]) | (refine ol_nil ⟨by kernel_rfl, ?_⟩; try dsimp only) | (refine ow_go ?_ (fun x hx => by cases hx <;> (rw [hsz]; decide)) (fun K1 hK1 => ?_); (first | exact trivial | exact rfl); refine evS ?_; (try rw [hB]); refine hK1 _ ?_; clear hK1 K1) | (refine ow_skip rfl rfl ?_ (fun x hx => by cases hx <;> (rw [hsz]; decide)) ?_; (focus (intro hne; cases hne; done)); simp only [St.set]) | (refine ow_make ?_ (fun x hx => by cases hx <;> (rw [hsz]; decide)) rfl rfl ?_ te56 tr30 tz30 ?_; (first | exact trivial | exact rfl); omega; simp only [St.set, List.map_cons, List.map_nil, Nat.reduceAdd]) | (refine ow_callFA ?_ (fun x hx => by cases hx <;> (rw [hsz]; decide)) rfl (toDescription_n hxl (Nat.le_refl _)) ?_; (first | exact trivial | exact rfl); simp only [St.set, List.map_cons, List.map_nil])))
    refine ⟨x + 1, by omega, by omega, ?_⟩
    exact wkS
  · have hx' : x = l.length := by omega
    subst hx'
    (repeat (first | refine walkS ?_ | (refine ow_make ?_ (fun x hx => by cases hx <;> (rw [hsz]; decide)) rfl rfl ?_ te56 tr30 tz30 ?_; (first | exact trivial | exact rfl); omega; simp only [St.set, List.map_cons, List.map_nil, Nat.reduceAdd])))
    refine aw_freezeY (.iv (fun b => en.w.heap.size ≤ b) (.sl 1 (l.map fun D => [encDs D]))) 2 16 1 l.length (l.map (encDcI (fun b => en.w.heap.size ≤ b))) rfl (by rw [← arrC_all (zero := [D.v (Value.slice none 0 0)])]; rfl) (by simp) (by simp [encDcI]) hks (by decide) (freeze_new hX fun a => encDcI_on _ a) ?_
    (refine aw_ret ?_; (simp only [Fin, Tryz.results79]; refine finS ?_); exact ⟨_, _, .inl ⟨rfl, rfl⟩, List.nodup_nil, rfl⟩)
set_option maxRecDepth 100000 in
set_option maxHeartbeats 1000000 in
theorem toRegistry_n {l : List (List RuleD)} (hl : GB 1048576 l) : ACN Tryz.prog 36 [.d (encG l)] (fun n => .agg [.iv (fun b => n ≤ b) (encDss l)]) := by
  unfold encG
  refine calls_bodyI Tryz.func36 rfl Tryz.call36 Tryz.ntmps36 (by simp) (by simp [ArgsOk]) fun en hsz hcok hX hks => ?_; simp only [St.init, frOf, Rz.addSL, Rz.addS, Rz.toAL, Rz.toA, Rz.nk, List.zipIdx_cons, List.zipIdx_nil, List.map_cons, List.map_nil, Nat.zero_add, Nat.reduceAdd]
  (repeat (first | refine walkS ?_ | (refine ow_callFA ?_ (fun x hx => by cases hx <;> (rw [hsz]; decide)) rfl (toDescriptionS_i hl) ?_; (first | exact trivial | exact rfl); simp only [St.set, List.map_cons, List.map_nil])))
  (refine aw_ret ?_; (simp only [Fin, Tryz.results36]; refine finS ?_); exact ⟨_, _, .inl ⟨rfl, rfl⟩, List.nodup_nil, rfl⟩)
theorem toRegistry_c {l : List (List RuleD)} (hl : GB 1048576 l) : AC Tryz.prog 36 [.d (encG l)] none (fun r' _ => r' = .d (encG l)) := (toRegistry_n hl).sem fun n C u k => RepD.mono (fun _ _ _ hc => hc.1) _ _ (on_agg1 C u k)

def subG : Int → List (List RuleD) → Int
  | x, [] => x
  | x, r :: rs => if lftDs x r < 0 then -1 else subG (lftDs x r) rs
def lftG (x : Int) (l : List (List RuleD)) : Int := if x - l.length < 0 then -1 else subG (x - l.length) l
theorem subG_ge : ∀ {l : List (List RuleD)} {x : Int} {M : Nat}, 0 ≤ x → x ≤ M → 0 ≤ subG x l → ∀ r ∈ l, DB M r
  | [], x, M, _, _, _, s, hs => by cases hs
  | t :: r, x, M, h, hM, k, s, hs => by
    unfold subG at k
    have hb := lftDs_le (x := x) (D := t) h
    split at k
    · omega
    · rcases List.mem_cons.1 hs with rfl | hs
      · exact lftDs_ge (x := x) (by omega) (by omega) (by omega)
      · exact subG_ge (l := r) (x := lftDs x t) (by omega) (by omega) k s hs
theorem lftG_ge {x : Int} {l : List (List RuleD)} {M : Nat} (h : 0 ≤ x) (hM : x ≤ M) (k : 0 ≤ lftG x l) : GB M l := by
  unfold lftG at k
  split at k
  · omega
  · exact ⟨by omega, fun r hr => subG_ge (by omega) (by omega) k r hr⟩
set_option maxRecDepth 100000 in
set_option maxHeartbeats 1000000 in
theorem szDescriptionS_c {l : List (List RuleD)} (hl : GB 9223372036854775807 l) (x0 : Int) (hx0 : 0 ≤ x0 ∧ x0 ≤ 1048576) : AC Tryz.prog 78 [.d (encDss l), .d (iD x0)] none (fun r' _ => r' = .d (iD (lftG x0 l))) := by
  have hl1 := hl.len
  refine calls_body Tryz.func78 rfl Tryz.call78 Tryz.ntmps78 (by simp) (by simp [ArgsOk]) (by simp [Rz.nkL, Rz.nk]) fun en hsz hks hk0 => ?_; simp only [St.init, frOf, Rz.addSL, Rz.addS, Rz.toAL, Rz.toA, Rz.nk, List.zipIdx_cons, List.zipIdx_nil, List.map_cons, List.map_nil, Nat.zero_add, Nat.reduceAdd]
  refine walkS ?_
  refine aw_condS rfl (fun h0 => ?_) (fun h0 => ?_)
  · refine walkS ?_
    (refine aw_ret ?_; (simp only [Fin, Tryz.results78]; refine finS ?_); exact ⟨_, _, .inl ⟨rfl, rfl⟩, List.nodup_nil, by rw [lftG, if_pos h0]⟩)
  · refine walkS ?_
    refine aw_loopS [0, 4] (fun _ _ => []) (fun _ y => [(5, .d (iD (y.1 : Nat))), (1, .d (iD y.2))]) [] (fun _ _ => []) [] (fun _ _ => []) (fun y : Nat × Int => y.1 ≤ l.length ∧ (0 ≤ y.2 ∧ y.2 ≤ 1048576) ∧ lftG x0 l = subG y.2 (l.drop y.1)) (fun y => l.length - y.1) ((0, x0 - l.length)) hks (fun _ => rfl) ⟨Nat.zero_le _, by simp only; omega, by rw [lftG, if_neg h0]; rfl⟩ wkS ?_; intro x hx; simp (decide := true) only [St.head, List.map_cons, List.map_nil, lk, rmv, List.cons_append, List.nil_append, List.append_nil, reduceIte, Nat.reduceAdd]
    obtain ⟨k, y⟩ := x
    simp only at hx ⊢
    obtain ⟨hx1, hx2, hx3⟩ := hx
    refine walkS ?_
    refine aw_condS rfl (fun hk => ?_) (fun hk => ?_)
    · have hd : l.drop k = l[k]'(by omega) :: l.drop (k + 1) := List.drop_eq_getElem_cons (by omega)
      have hrx := hl.el (l[k]'(by omega)) (List.getElem_mem _)
      have hb := lftDs_le (x := y) (D := l[k]'(by omega)) hx2.1
      rw [hd, subG] at hx3
      (repeat (first | refine walkS ?_ | (refine callPre ?_; (first | refine callN_funS rfl (szDescription_c hrx y hx2) ?_)) | (refine callPreL ?_; (first | refine callL_funS rfl (szDescription_c hrx y hx2) ?_))))
      refine aw_condS rfl (fun hn => ?_) (fun hn => ?_)
      · rw [if_pos hn] at hx3
        refine walkS ?_
        (refine aw_ret ?_; (simp only [Fin, Tryz.results78]; refine finS ?_); exact ⟨_, _, .inl ⟨rfl, rfl⟩, List.nodup_nil, by rw [hx3]⟩)
      · rw [if_neg hn] at hx3
        refine walkS ?_
        refine ⟨(k + 1, lftDs y (l[k]'(by omega))), ⟨by simp only; omega, by simp only; omega, hx3⟩, by simp only; omega, ?_⟩
        exact wkS
    · rw [List.drop_eq_nil_of_le (by omega), subG] at hx3
      refine walkS ?_
      (refine aw_ret ?_; (simp only [Fin, Tryz.results78]; refine finS ?_); exact ⟨_, _, .inl ⟨rfl, rfl⟩, List.nodup_nil, by rw [hx3]⟩)
theorem subG_le : ∀ {l : List (List RuleD)} {x : Int}, 0 ≤ x → -1 ≤ subG x l ∧ subG x l ≤ x
  | [], x, h => by unfold subG; omega
  | r :: rs, x, h => by
    unfold subG
    have := lftDs_le (x := x) (D := r) h
    split
    · omega
    · have := subG_le (l := rs) (x := lftDs x r) (by omega)
      omega
theorem lftG_le {l : List (List RuleD)} {x : Int} (h : 0 ≤ x) : -1 ≤ lftG x l ∧ lftG x l ≤ x := by
  unfold lftG
  split
  · omega
  · have := subG_le (l := l) (x := x - l.length) (by omega)
    omega
set_option maxRecDepth 100000 in
theorem szRegistry_c {l : List (List RuleD)} (hl : GB 9223372036854775807 l) (x0 : Int) (hx0 : 0 ≤ x0 ∧ x0 ≤ 1048576) : AC Tryz.prog 34 [.d (encG l), .d (iD x0)] none (fun r' _ => r' = .d (iD (lftG x0 l))) := by
  have hb := lftG_le (l := l) hx0.1
  unfold encG
  refine calls_body Tryz.func34 rfl Tryz.call34 Tryz.ntmps34 (by simp) (by simp [ArgsOk]) (by simp [Rz.nkL, Rz.nk]) fun en hsz hks hk0 => ?_; simp only [St.init, frOf, Rz.addSL, Rz.addS, Rz.toAL, Rz.toA, Rz.nk, List.zipIdx_cons, List.zipIdx_nil, List.map_cons, List.map_nil, Nat.zero_add, Nat.reduceAdd]
  (repeat (first | refine walkS ?_ | (refine callPre ?_; (first | refine callN_funS rfl (szDescriptionS_c hl x0 hx0) ?_)) | (refine callPreL ?_; (first | refine callL_funS rfl (szDescriptionS_c hl x0 hx0) ?_))))
  refine aw_condS rfl (fun h => ?_) (fun h => ?_)
  · have : lftG x0 l = -1 := by omega
    refine walkS ?_
    (refine aw_ret ?_; (simp only [Fin, Tryz.results34]; refine finS ?_); exact ⟨_, _, .inl ⟨rfl, rfl⟩, List.nodup_nil, by rw [this]⟩)
  · refine walkS ?_
    (refine aw_ret ?_; (simp only [Fin, Tryz.results34]; refine finS ?_); exact ⟨_, _, .inl ⟨rfl, rfl⟩, List.nodup_nil, rfl⟩)
set_option maxRecDepth 100000 in
set_option maxHeartbeats 1000000 in
theorem eqDescriptionS_c {l : List (List RuleD)} (hl : GB 1048576 l) : AC Tryz.prog 80 [.d (encDss l), .d (encDss l)] none (fun r' _ => r' = .d (bD true)) := by
  have hl1 := hl.len
  refine calls_body Tryz.func80 rfl Tryz.call80 Tryz.ntmps80 (by simp) (by simp [ArgsOk]) (by simp [Rz.nkL, Rz.nk]) fun en hsz hks hk0 => ?_; simp only [St.init, frOf, Rz.addSL, Rz.addS, Rz.toAL, Rz.toA, Rz.nk, List.zipIdx_cons, List.zipIdx_nil, List.map_cons, List.map_nil, Nat.zero_add, Nat.reduceAdd]
  refine walkS ?_
  refine aw_condS rfl (fun hc => ?_) (fun hc => ?_)
  · (first | exact absurd trivial hc | exact absurd rfl hc | (cases hc; done) | omega | exact absurd hc (by decide) | (simp at hc; done))
  · refine walkS ?_
    refine aw_loopS [0, 1, 4] (fun _ _ => []) (fun _ k => [(5, .d (iD (k : Nat)))]) [] (fun _ _ => []) [] (fun _ _ => []) (fun k : Nat => k ≤ l.length) (fun k => l.length - k) (0) hks (fun _ => rfl) (Nat.zero_le _) wkS ?_; intro x hx; simp (decide := true) only [St.head, List.map_cons, List.map_nil, lk, rmv, List.cons_append, List.nil_append, List.append_nil, reduceIte, Nat.reduceAdd]
    refine walkS ?_
    refine aw_condS rfl (fun hk => ?_) (fun hk => ?_)
    · have hrx := hl.el (l[x]'(by omega)) (List.getElem_mem _)
      (repeat (first | refine walkS ?_ | (refine callPre ?_; (first | refine callN_funS rfl (eqDescription_c hrx (Nat.le_refl _)) ?_)) | (refine callPreL ?_; (first | refine callL_funS rfl (eqDescription_c hrx (Nat.le_refl _)) ?_))))
      refine aw_condS rfl (fun hc => ?_) (fun hc => ?_)
      · (first | exact absurd trivial hc | exact absurd rfl hc | (cases hc; done) | omega | exact absurd hc (by decide) | (simp at hc; done))
      · refine walkS ?_
        refine ⟨x + 1, by omega, by omega, ?_⟩
        exact wkS
    · refine walkS ?_
      (refine aw_ret ?_; (simp only [Fin, Tryz.results80]; refine finS ?_); exact ⟨_, _, .inl ⟨rfl, rfl⟩, List.nodup_nil, rfl⟩)
set_option maxRecDepth 100000 in
theorem eqRegistry_c {l : List (List RuleD)} (hl : GB 1048576 l) : AC Tryz.prog 39 [.d (encG l), .d (encG l)] none (fun r' _ => r' = .d (bD true)) := by
  unfold encG
  refine calls_body Tryz.func39 rfl Tryz.call39 Tryz.ntmps39 (by simp) (by simp [ArgsOk]) (by simp [Rz.nkL, Rz.nk]) fun en hsz hks hk0 => ?_; simp only [St.init, frOf, Rz.addSL, Rz.addS, Rz.toAL, Rz.toA, Rz.nk, List.zipIdx_cons, List.zipIdx_nil, List.map_cons, List.map_nil, Nat.zero_add, Nat.reduceAdd]
  (repeat (first | refine walkS ?_ | (refine callPre ?_; (first | refine callN_funS rfl (eqDescriptionS_c hl) ?_)) | (refine callPreL ?_; (first | refine callL_funS rfl (eqDescriptionS_c hl) ?_))))
  refine aw_condS rfl (fun hc => ?_) (fun hc => ?_)
  · (first | exact absurd trivial hc | exact absurd rfl hc | (cases hc; done) | omega | exact absurd hc (by decide) | (simp at hc; done))
  · refine walkS ?_
    (refine aw_ret ?_; (simp only [Fin, Tryz.results39]; refine finS ?_); exact ⟨_, _, .inl ⟨rfl, rfl⟩, List.nodup_nil, rfl⟩)

def cntG : List (List RuleD) → Nat
  | [] => 0
  | D :: l => cntRs D + cntG l
theorem cntG_append (l : List (List RuleD)) (D : List RuleD) : cntG (l ++ [D]) = cntG l + cntRs D := by
  induction l with
  | nil => simp [cntG]
  | cons x l ih => simp only [List.cons_append, cntG, ih]; omega
theorem cntG_take {l : List (List RuleD)} {j : Nat} (h : j < l.length) : cntG (l.take (j + 1)) = cntG (l.take j) + cntRs (l[j]'h) := by
  rw [List.take_succ_eq_append_getElem h, cntG_append]
theorem cntG_le {l : List (List RuleD)} (j : Nat) : cntG (l.take j) ≤ cntG l := by
  induction l generalizing j with
  | nil => simp
  | cons r l ih =>
    cases j with
    | zero => simp [cntG]
    | succ j => simp only [List.take_succ_cons, cntG]; have := ih j; omega
theorem descs_open {C : CellR} {l : List (List RuleD)} {u : Value} (h : RepD C (encDss l) u) : ∃ a cap, u = .slice a l.length cap ∧ l.length ≤ maxLen ∧ (l = [] ∨ ∃ b o, a = some ⟨b, o, none⟩ ∧ ∀ j (hj : j < l.length), ∃ a n c, C b (o + j * 1 + 0) (.slice a n c) ∧ RepD C (encDs l[j]) (.slice a n c)) := by
  unfold RepD at h
  obtain ⟨a, cap, h1, h2, h3, h4⟩ := h
  simp only [List.length_map] at h1 h2
  refine ⟨a, cap, h1, by omega, h4.imp (fun h => by simpa using h) fun ⟨b, o, ha, he⟩ => ⟨b, o, ha, fun j hj => ?_⟩⟩
  obtain ⟨_, hc⟩ := he.get j [encDs l[j]] (by simp [hj])
  obtain ⟨u, hu, hr⟩ := hc.get 0 (encDs l[j]) rfl
  have hr' := hr
  unfold encDs RepD at hr
  obtain ⟨a, cap, rfl, _⟩ := hr
  exact ⟨_, _, _, hu, hr'⟩
set_option maxRecDepth 100000 in
set_option maxHeartbeats 1000000 in
theorem markDs_ck {l : List (List RuleD)} {k : Nat} (hk : k + cntG l ≤ 4611686018427387904) : ACK Tryz.prog 81 (encDss l) (k : Nat) ((k + cntG l : Nat) : Int) := fun C u hr => by
  obtain ⟨a, cap, rfl, hm, h⟩ := descs_open hr
  unfold maxLen at hm
  refine calls_bodyM Tryz.func81 rfl Tryz.call81 Tryz.ntmps81 (by decide) fun en hsz hks hZ hA hX => ?_; simp only [St.init, frOf, Rz.addSL, Rz.addS, Rz.toAL, Rz.toA, Rz.nk, List.zipIdx_cons, List.zipIdx_nil, List.map_cons, List.map_nil, Nat.zero_add, Nat.reduceAdd]
  (repeat (first | refine walkS ?_ | (refine ow_xlen ?_ (fun x hx => by cases hx <;> (rw [hsz]; decide)) rfl rfl (by first | exact te25 | exact te28 | exact te54 | exact te56 | exact te104) ?_; (first | exact trivial | exact rfl); simp only [St.set, Int.toNat_natCast, List.map_cons, List.map_nil]) | (refine ow_xidx ?_ (fun x hx => by cases hx <;> (rw [hsz]; decide)) rfl rfl rfl (by first | exact te25 | exact te28 | exact te54 | exact te56 | exact te104) (by first | exact tk3 | exact tk4 | exact tk5 | exact tk9 | exact tk25 | exact tk28 | exact tk30 | exact tk54 | exact tk56 | exact tk104 | exact tk107) (by omega) (by omega) ?_; (first | exact trivial | exact rfl); simp only [St.set, Int.toNat_natCast, List.map_cons, List.map_nil]) | (refine ow_xfld ?_ (fun x hx => by cases hx <;> (rw [hsz]; decide)) rfl rfl (by first | exact tf30_0 | exact tf107_0 | exact tf107_1 | exact tf107_2 | exact tf107_3 | exact tf107_4 | exact tf107_5 | exact tf107_6 | exact tf107_7) (by first | exact tk3 | exact tk4 | exact tk5 | exact tk9 | exact tk25 | exact tk28 | exact tk30 | exact tk54 | exact tk56 | exact tk104 | exact tk107) (by decide) ?_; (first | exact trivial | exact rfl); simp only [St.set, Int.toNat_natCast, List.map_cons, List.map_nil])))
  refine aw_loopS [0, 4] (fun _ _ => []) (fun _ j => [(1, .d (iD ((k + cntG (l.take j) : Nat) : Int))), (5, .d (iD (j : Nat)))]) [] (fun _ _ => []) [] (fun _ _ => []) (fun j => j ≤ l.length) (fun j => l.length - j) (0) hks (fun _ => rfl) (Nat.zero_le _) wkS ?_; intro x hx; simp (decide := true) only [St.head, List.map_cons, List.map_nil, lk, rmv, List.cons_append, List.nil_append, List.append_nil, reduceIte, Nat.reduceAdd]
  (repeat (first | refine walkS ?_ | (refine ow_xlen ?_ (fun x hx => by cases hx <;> (rw [hsz]; decide)) rfl rfl (by first | exact te25 | exact te28 | exact te54 | exact te56 | exact te104) ?_; (first | exact trivial | exact rfl); simp only [St.set, Int.toNat_natCast, List.map_cons, List.map_nil]) | (refine ow_xidx ?_ (fun x hx => by cases hx <;> (rw [hsz]; decide)) rfl rfl rfl (by first | exact te25 | exact te28 | exact te54 | exact te56 | exact te104) (by first | exact tk3 | exact tk4 | exact tk5 | exact tk9 | exact tk25 | exact tk28 | exact tk30 | exact tk54 | exact tk56 | exact tk104 | exact tk107) (by omega) (by omega) ?_; (first | exact trivial | exact rfl); simp only [St.set, Int.toNat_natCast, List.map_cons, List.map_nil]) | (refine ow_xfld ?_ (fun x hx => by cases hx <;> (rw [hsz]; decide)) rfl rfl (by first | exact tf30_0 | exact tf107_0 | exact tf107_1 | exact tf107_2 | exact tf107_3 | exact tf107_4 | exact tf107_5 | exact tf107_6 | exact tf107_7) (by first | exact tk3 | exact tk4 | exact tk5 | exact tk9 | exact tk25 | exact tk28 | exact tk30 | exact tk54 | exact tk56 | exact tk104 | exact tk107) (by decide) ?_; (first | exact trivial | exact rfl); simp only [St.set, Int.toNat_natCast, List.map_cons, List.map_nil])))
  refine aw_condS rfl (fun hc => ?_) (fun hc => ?_)
  · rcases h with rfl | ⟨b, o, rfl, h⟩
    · simp at hc
      omega
    · have hx' : x < l.length := by omega
      obtain ⟨a0, n0, p0, c0, r0⟩ := h x hx'
      have ht := cntG_take hx'
      have hle := cntG_le (l := l) (x + 1)
      have k0 := markRs_ck (k := k + cntG (l.take x)) (D := l[x]) (by omega) C _ r0
      have hfin : ((k + cntG (l.take x) + cntRs l[x] : Nat) : Int) = ((k + cntG (l.take (x + 1)) : Nat) : Int) := by rw [ht]; omega
      rw [hfin] at k0
      (repeat (first | refine walkS ?_ | (refine ow_xlen ?_ (fun x hx => by cases hx <;> (rw [hsz]; decide)) rfl rfl (by first | exact te25 | exact te28 | exact te54 | exact te56 | exact te104) ?_; (first | exact trivial | exact rfl); simp only [St.set, Int.toNat_natCast, List.map_cons, List.map_nil]) | (refine ow_xidx ?_ (fun x hx => by cases hx <;> (rw [hsz]; decide)) rfl rfl rfl (by first | exact te25 | exact te28 | exact te54 | exact te56 | exact te104) (by first | exact tk3 | exact tk4 | exact tk5 | exact tk9 | exact tk25 | exact tk28 | exact tk30 | exact tk54 | exact tk56 | exact tk104 | exact tk107) (by omega) (by omega) ?_; (first | exact trivial | exact rfl); simp only [St.set, Int.toNat_natCast, List.map_cons, List.map_nil]) | (refine ow_xfld ?_ (fun x hx => by cases hx <;> (rw [hsz]; decide)) rfl rfl (by first | exact tf30_0 | exact tf107_0 | exact tf107_1 | exact tf107_2 | exact tf107_3 | exact tf107_4 | exact tf107_5 | exact tf107_6 | exact tf107_7) (by first | exact tk3 | exact tk4 | exact tk5 | exact tk9 | exact tk25 | exact tk28 | exact tk30 | exact tk54 | exact tk56 | exact tk104 | exact tk107) (by decide) ?_; (first | exact trivial | exact rfl); simp only [St.set, Int.toNat_natCast, List.map_cons, List.map_nil]) | (refine ow_xload ?_ (fun x hx => by cases hx <;> (rw [hsz]; decide)) rfl rfl (by first | exact tk3 | exact tk4 | exact tk5 | exact tk9 | exact tk25 | exact tk28 | exact tk30 | exact tk54 | exact tk56 | exact tk104 | exact tk107) hA (by first | exact c0) rfl ?_; (first | exact trivial | exact rfl); simp only [St.set, Int.toNat_natCast, List.map_cons, List.map_nil]) | (refine ow_xstore ?_ rfl rfl rfl rfl (by first | exact tk3 | exact tk4 | exact tk5 | exact tk9 | exact tk25 | exact tk28 | exact tk30 | exact tk54 | exact tk56 | exact tk104 | exact tk107) rfl hZ hA hX (by first | exact c0) rfl ?_; (first | exact trivial | exact rfl)) | (refine ow_xcall ?_ (fun x hx => by cases hx <;> (rw [hsz]; decide)) rfl rfl rfl (k0) hZ hA hX ?_; (first | exact trivial | exact rfl); simp only [St.set, Int.toNat_natCast, List.map_cons, List.map_nil])))
      refine ⟨x + 1, by omega, by omega, ?_⟩
      exact wkS
  · obtain rfl : x = l.length := by have : x ≤ l.length := hx; omega
    (repeat (first | refine walkS ?_ | (refine ow_xlen ?_ (fun x hx => by cases hx <;> (rw [hsz]; decide)) rfl rfl (by first | exact te25 | exact te28 | exact te54 | exact te56 | exact te104) ?_; (first | exact trivial | exact rfl); simp only [St.set, Int.toNat_natCast, List.map_cons, List.map_nil]) | (refine ow_xidx ?_ (fun x hx => by cases hx <;> (rw [hsz]; decide)) rfl rfl rfl (by first | exact te25 | exact te28 | exact te54 | exact te56 | exact te104) (by first | exact tk3 | exact tk4 | exact tk5 | exact tk9 | exact tk25 | exact tk28 | exact tk30 | exact tk54 | exact tk56 | exact tk104 | exact tk107) (by omega) (by omega) ?_; (first | exact trivial | exact rfl); simp only [St.set, Int.toNat_natCast, List.map_cons, List.map_nil]) | (refine ow_xfld ?_ (fun x hx => by cases hx <;> (rw [hsz]; decide)) rfl rfl (by first | exact tf30_0 | exact tf107_0 | exact tf107_1 | exact tf107_2 | exact tf107_3 | exact tf107_4 | exact tf107_5 | exact tf107_6 | exact tf107_7) (by first | exact tk3 | exact tk4 | exact tk5 | exact tk9 | exact tk25 | exact tk28 | exact tk30 | exact tk54 | exact tk56 | exact tk104 | exact tk107) (by decide) ?_; (first | exact trivial | exact rfl); simp only [St.set, Int.toNat_natCast, List.map_cons, List.map_nil])))
    (refine aw_ret ?_; (simp only [Fin, Tryz.results81]; refine finS ?_); exact ⟨_, _, .inl ⟨rfl, rfl⟩, List.nodup_nil, (by rw [List.take_length])⟩)
set_option maxRecDepth 100000 in
set_option maxHeartbeats 1000000 in
theorem markG_ck {l : List (List RuleD)} {k : Nat} (hk : k + cntG l ≤ 4611686018427387904) : ACK Tryz.prog 40 (encG l) (k : Nat) ((k + cntG l : Nat) : Int) := fun C u hr => by
  unfold encG at hr
  unfold RepD at hr
  obtain ⟨us, rfl, h1, _⟩ := hr
  unfold RepL at h1
  obtain ⟨u, us', rfl, h1, h2⟩ := h1
  unfold RepL at h2
  subst h2
  have hc := markDs_ck hk C _ h1
  have h1' : ∀ x ∈ [u], x.oneCell' = true := by
    obtain ⟨a, cap, rfl, _⟩ := descs_open h1
    intro x hx
    rw [List.mem_singleton] at hx
    subst hx
    rfl
  refine calls_bodyM Tryz.func40 rfl Tryz.call40 Tryz.ntmps40 (by decide) fun en hsz hks hZ hA hX => ?_; simp only [St.init, frOf, Rz.addSL, Rz.addS, Rz.toAL, Rz.toA, Rz.nk, List.zipIdx_cons, List.zipIdx_nil, List.map_cons, List.map_nil, Nat.zero_add, Nat.reduceAdd]
  refine aw_say 0 (.agg [.v u]) rfl (say_agg h1') ?_
  (repeat (first | refine walkS ?_ | (refine ow_xlen ?_ (fun x hx => by cases hx <;> (rw [hsz]; decide)) rfl rfl (by first | exact te25 | exact te28 | exact te54 | exact te56 | exact te104) ?_; (first | exact trivial | exact rfl); simp only [St.set, Int.toNat_natCast, List.map_cons, List.map_nil]) | (refine ow_xidx ?_ (fun x hx => by cases hx <;> (rw [hsz]; decide)) rfl rfl rfl (by first | exact te25 | exact te28 | exact te54 | exact te56 | exact te104) (by first | exact tk3 | exact tk4 | exact tk5 | exact tk9 | exact tk25 | exact tk28 | exact tk30 | exact tk54 | exact tk56 | exact tk58 | exact tk104 | exact tk107) (by omega) (by omega) ?_; (first | exact trivial | exact rfl); simp only [St.set, Int.toNat_natCast, List.map_cons, List.map_nil]) | (refine ow_xfld ?_ (fun x hx => by cases hx <;> (rw [hsz]; decide)) rfl rfl (by first | exact tf30_0 | exact tf58_0 | exact tf107_0 | exact tf107_1 | exact tf107_2 | exact tf107_3 | exact tf107_4 | exact tf107_5 | exact tf107_6 | exact tf107_7) (by first | exact tk3 | exact tk4 | exact tk5 | exact tk9 | exact tk25 | exact tk28 | exact tk30 | exact tk54 | exact tk56 | exact tk58 | exact tk104 | exact tk107) (by decide) ?_; (first | exact trivial | exact rfl); simp only [St.set, Int.toNat_natCast, List.map_cons, List.map_nil]) | (refine ow_xcall ?_ (fun x hx => by cases hx <;> (rw [hsz]; decide)) rfl rfl rfl (hc) hZ hA hX ?_; (first | exact trivial | exact rfl); simp only [St.set, Int.toNat_natCast, List.map_cons, List.map_nil])))
  (refine aw_ret ?_; (simp only [Fin, Tryz.results40]; refine finS ?_); exact ⟨_, _, .inl ⟨rfl, rfl⟩, List.nodup_nil, rfl⟩)
theorem markG_1 {l : List (List RuleD)} (hk : 1 + cntG l ≤ 4611686018427387904) : ACM Tryz.prog 40 (encG l) 1 (1 + (cntG l : Int)) none := by
  have h := ACK.acm Tryz.call40 (markG_ck (l := l) (k := 1) hk)
  rw [show ((1 + cntG l : Nat) : Int) = 1 + (cntG l : Int) by omega] at h
  exact h
end Go.Proofs.YtoegmaebdihnaaaGreatDoor.Eng
