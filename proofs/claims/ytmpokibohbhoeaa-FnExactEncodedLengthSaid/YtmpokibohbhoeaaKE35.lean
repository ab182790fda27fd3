/-
  The engine, part 35: calls that work on a variable that holds data and a row of its own.
-/
import Derived.Test.YtmpokibohbhoeaaKE34
set_option linter.unusedSimpArgs false
set_option linter.unusedVariables false
namespace Go.Proofs.Ytmpokibohbhoeaa.Eng
open Go Go.RowKit

theorem toZL_p {m : Mem} {x0 : D} {j : Nat} {e : TypeId} {z : Nat} {es : List (List D)} (h : m.al j = some (es.length, e, z)) : ToZL m [.d x0, .own j e z es] [.d x0, .own e z es] [j] := by
  unfold ToZL
  refine ⟨_, _, [], [j], rfl, rfl, by unfold ToZ; exact ⟨rfl, rfl⟩, ?_⟩
  unfold ToZL
  refine ⟨_, _, [j], [], rfl, rfl, by unfold ToZ; exact ⟨rfl, rfl, h⟩, ?_⟩
  unfold ToZL
  exact ⟨rfl, rfl⟩
section
variable {P : Program} {en : En} {ops : Array Oper} {o : Oper} {l : List Oper} {K : St → Prop} {s : St}
theorem ow_call1p {f : FuncId} {xs : Array Operand} {ats : Array TypeId} {k j : Nat} {e : TypeId} {z : Nat} {ys : List A} {x0 x0' x : D} {es es' : List (List D)} {t : Nat} (hg : Wanted s ops o) (hd : ∀ x, o.dst = some x → x < en.sz) (ht : o.dst = some t) (ho : o.op = .call { callee := .value (.func f), args := xs, argTypes := ats })
    (hc : AC P f ys (some [.d x0, .own e z es]) fun r b => r = .d x ∧ b = some [.d x0', .own e z es'])
    (h1 : argsOf (some k) (xs.toList.map (ev s.f)) = some ys) (h2 : lk none s.bx k = some [.d x0, .own j e z es]) (h3 : lk none s.al j = some (es.length, e, z)) (hkj : k ≠ j)
    (h : OWs P en ops l K ({ s with bx := (k, some [.d x0', .own s.nx e z es']) :: (k, none) :: s.bx, al := (s.nx, some (es'.length, e, z)) :: (j, none) :: s.al, nx := s.nx + 16 }.set (some t) (.d x))) : OWs P en ops (o :: l) K s := by
  rw [← ht] at h
  refine ow_call1 hg hd ho ⟨k, ys, _, _, [j], _, h1, h2, toZL_p h3, fun i hi => ?_, by simpa using hkj, hc, fun r zs' ⟨e1, e2⟩ => ?_⟩
  · have := List.mem_singleton.1 hi
    subst this
    rw [h3]
    rfl
  · have e2 := Option.some.inj e2
    subst e1 e2
    exact ⟨by simp [Rz.nkL, Rz.nk], h⟩
/-- .. by a function that is a value. -/
theorem ow_call1pV {f : FuncId} {c : Operand} {fs cl : List A} {xs : Array Operand} {ats : Array TypeId} {k j : Nat} {e : TypeId} {z : Nat} {ys : List A} {x0 x0' x : D} {es es' : List (List D)} {t : Nat} (hg : Wanted s ops o) (hd : ∀ x, o.dst = some x → x < en.sz) (ht : o.dst = some t) (ho : o.op = .call { callee := .value c, args := xs, argTypes := ats }) (hcl : clA (ev s.f c) = some (f, fs, cl))
    (hc : AC P f ys (some [.d x0, .own e z es]) fun r b => r = .d x ∧ b = some [.d x0', .own e z es'])
    (h1 : argsOf (some k) (fs ++ xs.toList.map (ev s.f) ++ cl) = some ys) (h2 : lk none s.bx k = some [.d x0, .own j e z es]) (h3 : lk none s.al j = some (es.length, e, z)) (hkj : k ≠ j)
    (h : OWs P en ops l K ({ s with bx := (k, some [.d x0', .own s.nx e z es']) :: (k, none) :: s.bx, al := (s.nx, some (es'.length, e, z)) :: (j, none) :: s.al, nx := s.nx + 16 }.set (some t) (.d x))) : OWs P en ops (o :: l) K s := by
  rw [← ht] at h
  refine ow_call1V hg hd ho hcl ⟨k, ys, _, _, [j], _, h1, h2, toZL_p h3, fun i hi => ?_, by simpa using hkj, hc, fun r zs' ⟨e1, e2⟩ => ?_⟩
  · have := List.mem_singleton.1 hi
    subst this
    rw [h3]
    rfl
  · have e2 := Option.some.inj e2
    subst e1 e2
    exact ⟨by simp [Rz.nkL, Rz.nk], h⟩
end
/-- A variable whose row is still nil. -/
theorem AC.nilrow {P : Program} {f : FuncId} {args : List A} {x0 : D} {e : TypeId} {z : Nat} {Q : Rz → Option (List Rz) → Prop} (h : AC P f args (some [.d x0, .own e z []]) Q) : AC P f args (some [.d x0, .d (.v (.slice none 0 0))]) Q :=
  ⟨h.1, fun w C β F0 vs h1 h2 h3 h4 => by
    refine h.2 w C β F0 vs h1 h2 ?_ h4
    unfold BoxO at h3 ⊢
    obtain ⟨us, ty, k1, k2, k3⟩ := h3
    refine ⟨us, ty, k1, ?_, k3⟩
    unfold RepZL at k2 ⊢
    obtain ⟨u, us', F1, F2, e1, e2, g1, g2⟩ := k2
    refine ⟨u, us', F1, F2, e1, e2, g1, ?_⟩
    unfold RepZL at g2 ⊢
    obtain ⟨u', us2, F3, F4, e3, e4, g3, g4⟩ := g2
    refine ⟨u', us2, F3, F4, e3, e4, ?_, g4⟩
    unfold RepZ at g3 ⊢
    obtain ⟨rfl, g3⟩ := g3
    rw [repD_v'] at g3
    exact .inl ⟨rfl, g3, rfl⟩⟩
section
variable {P : Program} {en : En} {ops : Array Oper} {o : Oper} {l : List Oper} {K : St → Prop} {s : St}
theorem ow_call1n {f : FuncId} {xs : Array Operand} {ats : Array TypeId} {k : Nat} {e : TypeId} {z : Nat} {ys : List A} {x0 x0' x : D} {es' : List (List D)} {t : Nat} (hg : Wanted s ops o) (hd : ∀ x, o.dst = some x → x < en.sz) (ht : o.dst = some t) (ho : o.op = .call { callee := .value (.func f), args := xs, argTypes := ats })
    (hc : AC P f ys (some [.d x0, .own e z []]) fun r b => r = .d x ∧ b = some [.d x0', .own e z es'])
    (h1 : argsOf (some k) (xs.toList.map (ev s.f)) = some ys) (h2 : lk none s.bx k = some [.d x0, .d (.v (.slice none 0 0))])
    (h : OWs P en ops l K ({ s with bx := (k, some [.d x0', .own s.nx e z es']) :: (k, none) :: s.bx, al := (s.nx, some (es'.length, e, z)) :: s.al, nx := s.nx + 16 }.set (some t) (.d x))) : OWs P en ops (o :: l) K s := by
  rw [← ht] at h
  refine ow_call1 hg hd ho ⟨k, ys, _, _, [], _, h1, h2, toZL_d s.mem [x0, .v (.slice none 0 0)], fun i hi => (by cases hi), by simp, hc.nilrow, fun r zs' ⟨e1, e2⟩ => ?_⟩
  have e2 := Option.some.inj e2
  subst e1 e2
  exact ⟨by simp [Rz.nkL, Rz.nk], h⟩
end
/-- A row of its own, read as data. -/
theorem AC.ownd {P : Program} {f : FuncId} {args : List A} {e : TypeId} {z : Nat} {es : List (List D)} (h : AC P f args none fun r _ => r = .own e z es) : AC P f args none fun r _ => r = .d (.sl z es) :=
  ⟨h.1, fun w C β F0 vs h1 h2 h3 h4 => (h.2 w C β F0 vs h1 h2 h3 h4).mono fun x w' ⟨v, r, bx', C', F, F', he', hq, hb, g1, g2, g3, g4, g5, g6, g7, g8⟩ => by
    subst hq
    cases bx' with
    | some x => simp at hb
    | none =>
      unfold BoxO at g6
      subst g6
      refine ⟨v, .d (.sl z es), none, C', [], [], he', rfl, rfl, g1, g2, g3, g4, ?_, rfl, by simp [XO], fun b' hb' => by cases hb'⟩
      unfold RepZ
      refine ⟨rfl, ?_⟩
      unfold RepZ at g5
      have hw : wkD (.sl z es) (.own 0 e z es) := by unfold wkD; exact .inr ⟨_, _, _, rfl, dleLL_refl _⟩
      rcases g5 with ⟨rfl, rfl, _⟩ | ⟨b, cp, _, k1, _⟩
      · exact wkD_rep (G := ⟨fun _ => none, fun _ => 0, C'⟩) hw (by unfold RepA RepOwn; exact .inl ⟨rfl, rfl, rfl⟩)
      · exact wkD_rep (G := ⟨fun _ => some b, fun _ => cp, C'⟩) hw (by unfold RepA; exact k1)⟩
end Go.Proofs.Ytmpokibohbhoeaa.Eng
