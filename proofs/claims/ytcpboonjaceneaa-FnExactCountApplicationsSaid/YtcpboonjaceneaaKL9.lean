/-
  The laws' helpers: lists of bytes.
-/
import Derived.Test.YtcpboonjaceneaaKL
set_option linter.unusedSimpArgs false
set_option linter.unusedVariables false
namespace Go.Proofs.Ytcpboonjaceneaa.Eng
open Go Go.RowKit

abbrev encBs (l : List (List UInt8)) : D := .sl 1 (l.map fun b => [encB b])
/-- No more than M lists, each of no more than M bytes. -/
structure BsB (M : Nat) (l : List (List UInt8)) : Prop where
  len : l.length ≤ M
  el : ∀ b ∈ l, b.length ≤ M

private theorem tyF : ((((tyElem Try.prog 22 = some 5 ∧ tyElem Try.prog 46 = some 22) ∧ (tyK Try.prog 22 = some (false, 1) ∧ (tyK Try.prog 3 = some (false, 1) ∧ tyK Try.prog 4 = some (false, 1)))) ∧ ((tyK Try.prog 46 = some (false, 1) ∧ (tyK Try.prog 5 = some (false, 1) ∧ tyRow Try.prog 22 = some 1)) ∧ (tyRow Try.prog 3 = some 1 ∧ (tyRow Try.prog 4 = some 1 ∧ tyRow Try.prog 46 = some 1)))) ∧ (((tyRow Try.prog 5 = some 1 ∧ Try.prog.underlying 22 = some (TypeDesc.slice 5)) ∧ (Try.prog.underlying 3 = some (TypeDesc.int IntKind.i64) ∧ (Try.prog.underlying 4 = some (TypeDesc.bool) ∧ Try.prog.underlying 46 = some (TypeDesc.slice 22)))) ∧ ((Try.prog.underlying 5 = some (TypeDesc.int IntKind.u8) ∧ (tyZero Try.prog 22 = some [Value.slice none 0 0] ∧ tyZero Try.prog 3 = some [Value.int IntKind.i64 0])) ∧ (tyZero Try.prog 4 = some [Value.bool false] ∧ (tyZero Try.prog 46 = some [Value.slice none 0 0] ∧ tyZero Try.prog 5 = some [Value.int IntKind.u8 0]))))) := ⟨⟨⟨⟨te22, te46⟩, ⟨tk22, ⟨tk3, tk4⟩⟩⟩, ⟨⟨tk46, ⟨tk5, tr22⟩⟩, ⟨tr3, ⟨tr4, tr46⟩⟩⟩⟩, ⟨⟨⟨tr5, tu22⟩, ⟨tu3, ⟨tu4, tu46⟩⟩⟩, ⟨⟨tu5, ⟨tz22, tz3⟩⟩, ⟨tz4, ⟨tz46, tz5⟩⟩⟩⟩⟩
set_option maxRecDepth 100000 in
set_option maxHeartbeats 1000000 in
theorem toByteSS_c {l : List (List UInt8)} (hl : BsB 1048576 l) : AC Try.prog 34 [.d (encBs l)] none (fun r' _ => r' = .d (encBs l)) := by
  have hl1 := hl.len
  have h0 : List.map A.d (List.replicate l.length [D.v (Value.slice none 0 0)]).flatten = arrC (fun b : List UInt8 => [encB b]) [D.v (Value.slice none 0 0)] l 0 := arrC_0.symm
  refine calls_body Try.func34 rfl Try.call34 Try.ntmps34 (by simp) (by simp [ArgsOk]) (by simp [Rz.nkL, Rz.nk]) fun en hsz hks hk0 => ?_; simp only [St.init, frOf, Rz.addSL, Rz.addS, Rz.toAL, Rz.toA, Rz.nk, List.zipIdx_cons, List.zipIdx_nil, List.map_cons, List.map_nil, Nat.zero_add, Nat.reduceAdd]
  (repeat (first | refine walkS ?_ | (refine ow_make ?_ (fun x hx => by cases hx <;> (rw [hsz]; decide)) rfl rfl ?_ te46 tr22 tz22 ?_; (first | exact trivial | exact rfl); omega; simp only [St.set, List.map_cons, List.map_nil, Nat.reduceAdd])))
  rw [h0]
  refine aw_loopS [0, 2, 3] (fun _ _ => []) (fun _ k => [(4, .d (iD (k : Nat)))]) [16] (fun _ k => [(16, some (arrC (fun b : List UInt8 => [encB b]) [D.v (Value.slice none 0 0)] l k))]) [] (fun _ _ => []) (fun k => k ≤ l.length) (fun k => l.length - k) (0) hks (fun _ => rfl) (Nat.zero_le _) wkS ?_; intro x hx; simp (decide := true) only [St.head, List.map_cons, List.map_nil, lk, rmv, List.cons_append, List.nil_append, List.append_nil, reduceIte, Nat.reduceAdd]
  (repeat (first | refine walkS ?_ | (refine ow_make ?_ (fun x hx => by cases hx <;> (rw [hsz]; decide)) rfl rfl ?_ te46 tr22 tz22 ?_; (first | exact trivial | exact rfl); omega; simp only [St.set, List.map_cons, List.map_nil, Nat.reduceAdd])))
  refine aw_condS rfl (fun hk => ?_) (fun hk => ?_)
  · have hA := arrC_len (f := fun b : List UInt8 => [encB b]) (zero := [D.v (Value.slice none 0 0)]) (l := l) (k := x) (z := 1) (fun _ _ => rfl) rfl hx
    have hB : splice (arrC (fun b : List UInt8 => [encB b]) [D.v (Value.slice none 0 0)] l x) [A.d (encB (l[x]'(by omega)))] (x * 1) = arrC (fun b : List UInt8 => [encB b]) [D.v (Value.slice none 0 0)] l (x + 1) := arrC_step (f := fun b : List UInt8 => [encB b]) (z := 1) (fun _ _ => rfl) rfl (show x < l.length by omega)
    have hxl := hl.el (l[x]'(by omega)) (List.getElem_mem _)
    (repeat (first | refine aw_seq ?_ | refine aw_region ?_ | refine aw_block ?_ | (refine aw_exit ?_; (try simp (decide := true) only [reduceIte])) | (refine aw_skip ?_; try dsimp only) | (refine aw_any (by kernel_rfl) (by kernel_rfl) (by simp only [hsz]; kernel_rfl) ?_) | (refine ow_nil ?_; try dsimp only) | (refine ol_go ?_ (fun K1 hK1 => ?_); (first | exact trivial | exact rfl); refine evS ?_; (try rw [hB]); refine hK1 _ _ ?_; clear hK1 K1) | (refine ol_skip rfl rfl ?_ ?_; (focus (intro hne; cases hne; done)); simp only [St.set]) | (refine ol_nil ⟨by kernel_rfl, ?_⟩; try dsimp only) | (refine ow_go ?_ (fun x hx => by cases hx <;> (rw [hsz]; decide)) (fun K1 hK1 => ?_); (first | exact trivial | exact rfl); refine evS ?_; (try rw [hB]); refine hK1 _ ?_; clear hK1 K1) | (refine ow_skip rfl rfl ?_ (fun x hx => by cases hx <;> (rw [hsz]; decide)) ?_; (focus (intro hne; cases hne; done)); simp only [St.set]) | (refine ow_make ?_ (fun x hx => by cases hx <;> (rw [hsz]; decide)) rfl rfl ?_ te46 tr22 tz22 ?_; (first | exact trivial | exact rfl); omega; simp only [St.set, List.map_cons, List.map_nil, Nat.reduceAdd]) | (refine callPre ?_; (first | refine callN_funS rfl (toByteS_c hxl) ?_)) | (refine callPreL ?_; (first | refine callL_funS rfl (toByteS_c hxl) ?_))))
    refine ⟨x + 1, by omega, by omega, ?_⟩
    exact wkS
  · have hx' : x = l.length := by omega
    subst hx'
    (repeat (first | refine walkS ?_ | (refine ow_make ?_ (fun x hx => by cases hx <;> (rw [hsz]; decide)) rfl rfl ?_ te46 tr22 tz22 ?_; (first | exact trivial | exact rfl); omega; simp only [St.set, List.map_cons, List.map_nil, Nat.reduceAdd])))
    refine aw_freeze 2 16 1 l.length (l.map fun b => [encB b]) rfl (by rw [← arrC_all]; rfl) (by simp) (by simp) hks (by decide) ?_
    (refine aw_ret ?_; (simp only [Fin, Try.results34]; refine finS ?_); exact ⟨_, _, .inl ⟨rfl, rfl⟩, List.nodup_nil, rfl⟩)

def subB : Int → List (List UInt8) → Int
  | x, [] => x
  | x, r :: rs => if lft x r.length < 0 then -1 else subB (lft x r.length) rs
def lftBs (x : Int) (l : List (List UInt8)) : Int := if x - l.length < 0 then -1 else subB (x - l.length) l
theorem subB_ge : ∀ {l : List (List UInt8)} {x : Int} {M : Nat}, 0 ≤ x → x ≤ M → 0 ≤ subB x l → ∀ r ∈ l, r.length ≤ M
  | [], x, M, _, _, _, s, hs => by cases hs
  | t :: r, x, M, h, hM, k, s, hs => by
    unfold subB at k
    have hb := lft_le (x := x) (n := t.length) h
    split at k
    · omega
    · have := lft_ge (x := x) (n := t.length) (by omega)
      rcases List.mem_cons.1 hs with rfl | hs
      · omega
      · exact subB_ge (l := r) (by omega) (by omega) k s hs
theorem lftBs_ge {x : Int} {l : List (List UInt8)} {M : Nat} (h : 0 ≤ x) (hM : x ≤ M) (k : 0 ≤ lftBs x l) : BsB M l := by
  unfold lftBs at k
  split at k
  · omega
  · exact ⟨by omega, fun r hr => subB_ge (by omega) (by omega) k r hr⟩
set_option maxRecDepth 100000 in
set_option maxHeartbeats 1000000 in
theorem szByteSS_c {l : List (List UInt8)} (hl : BsB 9223372036854775807 l) (x0 : Int) (hx0 : 0 ≤ x0 ∧ x0 ≤ 1048576) : AC Try.prog 32 [.d (encBs l), .d (iD x0)] none (fun r' _ => r' = .d (iD (lftBs x0 l))) := by
  have hl1 := hl.len
  refine calls_body Try.func32 rfl Try.call32 Try.ntmps32 (by simp) (by simp [ArgsOk]) (by simp [Rz.nkL, Rz.nk]) fun en hsz hks hk0 => ?_; simp only [St.init, frOf, Rz.addSL, Rz.addS, Rz.toAL, Rz.toA, Rz.nk, List.zipIdx_cons, List.zipIdx_nil, List.map_cons, List.map_nil, Nat.zero_add, Nat.reduceAdd]
  refine walkS ?_
  refine aw_condS rfl (fun h0 => ?_) (fun h0 => ?_)
  · refine walkS ?_
    (refine aw_ret ?_; (simp only [Fin, Try.results32]; refine finS ?_); exact ⟨_, _, .inl ⟨rfl, rfl⟩, List.nodup_nil, by rw [lftBs, if_pos h0]⟩)
  · refine walkS ?_
    refine aw_loopS [0, 4] (fun _ _ => []) (fun _ y => [(5, .d (iD (y.1 : Nat))), (1, .d (iD y.2))]) [] (fun _ _ => []) [] (fun _ _ => []) (fun y : Nat × Int => y.1 ≤ l.length ∧ (0 ≤ y.2 ∧ y.2 ≤ 1048576) ∧ lftBs x0 l = subB y.2 (l.drop y.1)) (fun y => l.length - y.1) ((0, x0 - l.length)) hks (fun _ => rfl) ⟨Nat.zero_le _, by simp only; omega, by rw [lftBs, if_neg h0]; rfl⟩ wkS ?_; intro x hx; simp (decide := true) only [St.head, List.map_cons, List.map_nil, lk, rmv, List.cons_append, List.nil_append, List.append_nil, reduceIte, Nat.reduceAdd]
    obtain ⟨k, y⟩ := x
    simp only at hx ⊢
    obtain ⟨hx1, hx2, hx3⟩ := hx
    refine walkS ?_
    refine aw_condS rfl (fun hk => ?_) (fun hk => ?_)
    · have hd : l.drop k = l[k]'(by omega) :: l.drop (k + 1) := List.drop_eq_getElem_cons (by omega)
      have hrx := hl.el (l[k]'(by omega)) (List.getElem_mem _)
      have hb := lft_le (x := y) (n := (l[k]'(by omega)).length) hx2.1
      rw [hd, subB] at hx3
      (repeat (first | refine walkS ?_ | (refine callPre ?_; (first | refine callN_funS rfl (szByteS_c hrx y hx2) ?_)) | (refine callPreL ?_; (first | refine callL_funS rfl (szByteS_c hrx y hx2) ?_))))
      refine aw_condS rfl (fun hn => ?_) (fun hn => ?_)
      · rw [if_pos hn] at hx3
        refine walkS ?_
        (refine aw_ret ?_; (simp only [Fin, Try.results32]; refine finS ?_); exact ⟨_, _, .inl ⟨rfl, rfl⟩, List.nodup_nil, by rw [hx3]⟩)
      · rw [if_neg hn] at hx3
        refine walkS ?_
        refine ⟨(k + 1, lft y (l[k]'(by omega)).length), ⟨by simp only; omega, by simp only; omega, hx3⟩, by simp only; omega, ?_⟩
        exact wkS
    · rw [List.drop_eq_nil_of_le (by omega), subB] at hx3
      refine walkS ?_
      (refine aw_ret ?_; (simp only [Fin, Try.results32]; refine finS ?_); exact ⟨_, _, .inl ⟨rfl, rfl⟩, List.nodup_nil, by rw [hx3]⟩)

set_option maxRecDepth 100000 in
set_option maxHeartbeats 1000000 in
theorem eqByteSS_c {l : List (List UInt8)} (hl : BsB 1048576 l) : AC Try.prog 36 [.d (encBs l), .d (encBs l)] none (fun r' _ => r' = .d (bD true)) := by
  have hl1 := hl.len
  refine calls_body Try.func36 rfl Try.call36 Try.ntmps36 (by simp) (by simp [ArgsOk]) (by simp [Rz.nkL, Rz.nk]) fun en hsz hks hk0 => ?_; simp only [St.init, frOf, Rz.addSL, Rz.addS, Rz.toAL, Rz.toA, Rz.nk, List.zipIdx_cons, List.zipIdx_nil, List.map_cons, List.map_nil, Nat.zero_add, Nat.reduceAdd]
  refine walkS ?_
  refine aw_condS rfl (fun hc => ?_) (fun hc => ?_)
  · (first | exact absurd trivial hc | exact absurd rfl hc | (cases hc; done) | omega | exact absurd hc (by decide) | (simp at hc; done))
  · refine walkS ?_
    refine aw_loopS [0, 1, 4] (fun _ _ => []) (fun _ k => [(5, .d (iD (k : Nat)))]) [] (fun _ _ => []) [] (fun _ _ => []) (fun k : Nat => k ≤ l.length) (fun k => l.length - k) (0) hks (fun _ => rfl) (Nat.zero_le _) wkS ?_; intro x hx; simp (decide := true) only [St.head, List.map_cons, List.map_nil, lk, rmv, List.cons_append, List.nil_append, List.append_nil, reduceIte, Nat.reduceAdd]
    refine walkS ?_
    refine aw_condS rfl (fun hk => ?_) (fun hk => ?_)
    · have hrx := hl.el (l[x]'(by omega)) (List.getElem_mem _)
      (repeat (first | refine walkS ?_ | (refine callPre ?_; (first | refine callN_funS rfl (eqByteS_c hrx) ?_)) | (refine callPreL ?_; (first | refine callL_funS rfl (eqByteS_c hrx) ?_))))
      refine aw_condS rfl (fun hc => ?_) (fun hc => ?_)
      · (first | exact absurd trivial hc | exact absurd rfl hc | (cases hc; done) | omega | exact absurd hc (by decide) | (simp at hc; done))
      · refine walkS ?_
        refine ⟨x + 1, by omega, by omega, ?_⟩
        exact wkS
    · refine walkS ?_
      (refine aw_ret ?_; (simp only [Fin, Try.results36]; refine finS ?_); exact ⟨_, _, .inl ⟨rfl, rfl⟩, List.nodup_nil, rfl⟩)
end Go.Proofs.Ytcpboonjaceneaa.Eng
