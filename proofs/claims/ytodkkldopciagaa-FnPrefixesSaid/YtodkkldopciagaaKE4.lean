/-
 The engine, part 26: where ways meet again.

 The engine, part 27: variables that are handed over as data behind a pointer.

 The engine, part 29: calls that are walked in place.
-/
import Derived.Test.YtodkkldopciagaaKE3
set_option linter.unusedSimpArgs false
set_option linter.unusedVariables false
set_option linter.defProp false
set_option maxRecDepth 100000
set_option maxHeartbeats 4000000
namespace Go.Proofs.Ytodkkldopciagaa.Eng
open Go Go.RowKit
section
variable {P : Program} {en : En} {K : Exit → St → Prop} {s : St}
end
end Go.Proofs.Ytodkkldopciagaa.Eng
namespace Go.Proofs.Ytodkkldopciagaa.Eng
open Go Go.RowKit
section
variable {P : Program} {en : En} {s : St}
end
end Go.Proofs.Ytodkkldopciagaa.Eng
namespace Go.Proofs.Ytodkkldopciagaa.Eng
open Go Go.RowKit
def FinI (P : Program) (fn : Func) (fr : List (Nat × A)) (d : Option Nat) (K : St → Prop) (e : Exit) (s' : St) : Prop :=
 (e = .normal ∨ e = .ret) ∧ resL P s' fn.results.toList fun l => K ({ s' with fr := fr }.set d (resOf l))

def inlEn (en : En) (w : World) (G : Gh) (s : St) (n : Nat) : En := { w := w, C := G.C, X := Mine G s.mem, E := G.E, cp := G.cp, ks := fun k => k < s.nx, sz := n, Z := en.Z, Amb := en.Amb, stab := en.stab }
section
variable {P : Program} {en : En} {s : St}
theorem inl_start {a : Act} {w : World} {G : Gh} (hG : Sim en s.f s.mem a w G) (n : Nat) {args : List A} {vs : List Value} (hr : RepAL G args vs) (hl : A.ltL s.mem.us args) (hn : args.length ≤ n) :
  Sim (inlEn en w G s n) ({ s with fr := frOf args } : St).f ({ s with fr := frOf args } : St).mem { tmps := (⟨vs⟩ : Array Value) ++ Array.replicate (n - vs.length) undef, defers := [] } w G := by
 have hf : ({ s with fr := frOf args } : St).f = fun t => args.getD t .top := by
  funext t
  show lk .top (frOf args) t = _
  unfold frOf
  rw [lk_frOf]
  simp
 refine ⟨hG.ok, fun t => ?_, fun t => ?_, ?_, rfl, BelowX.refl _ _ _, fun _ _ _ h => h, fun _ _ _ h _ _ => h, fun b hb => .inr hb, fun _ _ => rfl, fun _ _ => rfl, fun k hk => hk, hG.am, hG.az⟩
 ·rw [hf]; exact hr.getD _ t
 ·rw [hf]
  show (args.getD t .top).lt s.mem.us
  rw [List.getD_eq_getElem?_getD]
  cases hq : args[t]? with
  | none => unfold A.lt; trivial
  | some x => exact ltL_get hl t x hq
 ·have := hr.get.1
  show _ = n
  simp only [Array.size_append, List.size_toArray, Array.size_replicate]
  omega
theorem inl_end {a a' : Act} {w w' : World} {G G' : Gh} {n : Nat} (hG : Sim en s.f s.mem a w G) {s' : St} (hG' : Sim (inlEn en w G s n) s'.f s'.mem a' w' G') {d : Option Nat} (hd : ∀ x, d = some x → x < en.sz) {v : A} {u : Value} (hv : RepA G' v u) (hvl : v.lt s'.mem.us) :
  Sim en ({ s' with fr := s.fr }.set d v).f ({ s' with fr := s.fr }.set d v).mem (a.put d u) w' G' := by
 have hle : G.Le s.mem.us G' := ⟨hG'.e0, hG'.p0, hG'.c0⟩
 have hus : ∀ k, s.mem.us k → s'.mem.us k := hG'.ks
 rw [St.set_f, St.set_mem]
 refine ⟨hG'.ok, fun t => ?_, fun t => ?_, ?_, ?_, ?_, fun b o u hc => hG'.c0 b o u (hG.c0 b o u hc), fun b o u hc hb hx => ?_, fun b hb => ?_, fun k hk => (hG'.e0 k (hG.ks k hk)).trans (hG.e0 k hk), fun k hk => (hG'.p0 k (hG.ks k hk)).trans (hG.p0 k hk), fun k hk => hus k (hG.ks k hk), hG'.am, hG'.az⟩
 ·have old : RepA G' (s.f t) (a.tmps.getD t undef) := RepA.mono hle _ _ (hG.kf t) (hG.rep t)
  cases d with
  | none => exact old
  | some x =>
   have hx := hd x rfl
   rw [← hG.sz] at hx
   show RepA G' (upd s.f x v t) _
   by_cases ht : t = x
   ·subst ht
    simpa [Act.put, hx] using hv
   ·have : (a.put (some x) u).tmps.getD t undef = a.tmps.getD t undef := by
     have hxt : ¬ x = t := fun e => ht e.symm
     simp [Act.put, Array.getElem?_setIfInBounds, hxt]
    rw [this, upd_ne _ _ ht]
    exact old
 ·have old : (s.f t).lt s'.mem.us := A.lt.mono hus _ (hG.kf t)
  cases d with
  | none => exact old
  | some x =>
   show (upd s.f x v t).lt _
   by_cases ht : t = x
   ·subst ht; rw [upd_same]; exact hvl
   ·rw [upd_ne _ _ ht]; exact old
 ·cases d <;> simp [Act.put, hG.sz]
 ·cases d <;> simp [Act.put, hG.df]
 ·refine ⟨hG'.fw.os.trans hG.fw.os, hG'.fw.tape.trans hG.fw.tape, hG'.fw.output.trans hG.fw.output, Nat.le_trans hG.fw.size hG'.fw.size, fun k hk hx => ?_⟩
  refine (hG'.fw.block k (Nat.lt_of_lt_of_le hk hG.fw.size) fun hm => ?_).trans (hG.fw.block k hk hx)
  rcases hG.lv k hm with h1 | h1
  ·omega
  ·exact hx h1
 ·have hlt : b < w.heap.size := Nat.lt_of_lt_of_le hb hG.fw.size
  refine hG.c1 b o u (hG'.c1 b o u hc hlt fun hm => ?_) hb hx
  rcases hG.lv b hm with h1 | h1
  ·omega
  ·exact hx h1
 ·rcases hG'.lv b hb with h1 | h1
  ·exact .inl (Nat.le_trans hG.fw.size h1)
  ·exact hG.lv b h1
theorem RepAL_lt {fr : Nat → A} {n : Nat → Prop} (h : ∀ t, (fr t).lt n) : ∀ xs : List Operand, A.ltL n (xs.map (ev fr))
 | [] => by simp only [List.map_nil]; unfold A.ltL; trivial
 | x :: xs => by
  simp only [List.map_cons]
  unfold A.ltL
  exact ⟨ev_lt h x, RepAL_lt h xs⟩
theorem tup_lt {n : Nat → Prop} : ∀ {l : List A}, A.ltL n l → (resOf l).lt n
 | [], h => mkTup_lt h
 | [x], h => by unfold A.ltL at h; exact h.1
 | x :: y :: l, h => mkTup_lt h

theorem partA_lt {k : Option (Bool × Nat)} {n : Nat → Prop} : ∀ {cs : List A} {K : A → Prop}, A.ltL n cs → partA k cs K → partA k cs fun v => K v ∧ v.lt n := fun {cs K} hl h => by
 unfold partA at h ⊢
 split at h
 ·exact ⟨h.1, h.2, mkAgg_lt (ltL_take _ hl)⟩
 ·split at h
  ·rename_i c r
   unfold A.ltL at hl
   exact ⟨h, hl.1⟩
  ·exact h.elim
 ·exact h.elim
theorem loadV_lt {bx : Nat → Option (List A)} {ty : TypeId} {x : A} {K : A → Prop} {n : Nat → Prop} (hx : x.lt n) (hb : ∀ k cs, bx k = some cs → A.ltL n cs) (h : loadV P bx ty x K) : loadV P bx ty x fun v => K v ∧ v.lt n := by
 unfold loadV at h ⊢
 split at h
 ·split at h
  ·rename_i cs hcs
   skip
   exact partA_lt (ltL_drop _ (hb _ _ hcs)) h
  ·exact h.elim
 ·exact partA_lt (ltL_map _) h
 ·exact h.elim
theorem loadV_mono {bx : Nat → Option (List A)} {ty : TypeId} {x : A} {K K' : A → Prop} (hK : ∀ v, K v → K' v) (h : loadV P bx ty x K) : loadV P bx ty x K' := by
 have part : ∀ {k : Option (Bool × Nat)} {cs : List A}, partA k cs K → partA k cs K' := fun {k cs} h => by
  unfold partA at h ⊢
  split at h
  ·exact ⟨h.1, hK _ h.2⟩
  ·split at h
   ·exact hK _ h
   ·exact h.elim
  ·exact h.elim
 unfold loadV at h ⊢
 split at h
 ·split at h
  ·rename_i cs hcs
   skip
   exact part h
  ·exact h.elim
 ·exact part h
 ·exact h.elim
theorem resL_mono {s : St} : ∀ {rs : List ResultVar} {K K' : List A → Prop}, resL P s rs K → (∀ l, K l → K' l) → resL P s rs K'
 | [], K, K', h, hK => by unfold resL at h ⊢; exact hK _ h
 | .tmp a :: r, K, K', h, hK => by unfold resL at h ⊢; exact resL_mono h fun l hl => hK _ hl
 | .cell a ty :: r, K, K', h, hK => by unfold resL at h ⊢; exact loadV_mono (fun v hv => resL_mono hv fun l hl => hK _ hl) h
theorem resL_lt {s : St} {n : Nat → Prop} (hf : ∀ t, (s.f t).lt n) (hb : ∀ k cs, lk none s.bx k = some cs → A.ltL n cs) : ∀ (rs : List ResultVar) {K : List A → Prop}, resL P s rs K → resL P s rs fun l => K l ∧ A.ltL n l
 | [], K, h => by
  unfold resL at h ⊢
  exact ⟨h, by unfold A.ltL; trivial⟩
 | .tmp a :: r, K, h => by
  unfold resL at h ⊢
  refine resL_mono (resL_lt hf hb r h) fun l hl => ⟨hl.1, ?_⟩
  unfold A.ltL
  exact ⟨hf a, hl.2⟩
 | .cell a ty :: r, K, h => by
  unfold resL at h ⊢
  refine loadV_mono (fun v hv => ?_) (loadV_lt (hf a) hb h)
  refine resL_mono (resL_lt hf hb r hv.1) fun l hl => ⟨hl.1, ?_⟩
  unfold A.ltL
  exact ⟨hv.2, hl.2⟩

end
end Go.Proofs.Ytodkkldopciagaa.Eng
