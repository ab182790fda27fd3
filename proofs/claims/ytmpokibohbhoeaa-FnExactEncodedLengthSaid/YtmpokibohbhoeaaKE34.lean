/-
  The engine, part 34: rows that are made empty, with room.
-/
import Derived.Test.YtmpokibohbhoeaaKE33
set_option linter.unusedSimpArgs false
set_option linter.unusedVariables false
namespace Go.Proofs.Ytmpokibohbhoeaa.Eng
open Go Go.RowKit

theorem repD_v' {C : CellR} {x u : Value} : RepD C (.v x) u ↔ u = x := by rw [RepD]

theorem toZ_arr {m : Mem} {k z n : Nat} {ds : List D} (h : m.bx k = some (ds.map .d)) : ToZ m (.arr k z n) (.arr z n ds) [k] := by unfold ToZ; exact ⟨ds, h, rfl, rfl⟩
section
variable {P : Program} {o : Oper} {ρ : Operand → A} {m : Mem} {κ : Nat}
theorem does_make0 {t e : TypeId} {x0 x : Operand} {z : Nat} {kd kd' : IntKind} {n : Nat} (h : o.op = .makeSlice t x0 x) (ht : tyElem P t = some e) (hr : tyRow P e = some z) (hx0 : ρ x0 = .d (.v (.int kd 0))) (hx : ρ x = .d (.v (.int kd' n))) (hn : n ≤ 1073741824) (hf : m.fresh κ) :
    Does P o ρ m (.own κ e z []) (m.row κ 0 e z) := fun G w a hok hra hl Kc Q hK => by
  obtain ⟨i, zv, h1, h2, h3, h4, h5, h6⟩ := tyRow_spec hr
  have hxv := hra x
  rw [hx] at hxv
  unfold RepA at hxv
  rw [repD_v'] at hxv
  have hxv0 := hra x0
  rw [hx0] at hxv0
  unfold RepA at hxv0
  rw [repD_v'] at hxv0
  have hb : (i.bytes : Int) * (n : Int) ≤ 281474976710656 := by
    have : i.bytes * n ≤ 4096 * 1073741824 := Nat.mul_le_mul h6 hn
    have h7 : ((i.bytes * n : Nat) : Int) ≤ 281474976710656 := by omega
    rwa [Int.natCast_mul] at h7
  have hrun := run_make (P := P) w t e i zv (tyElem_run ht) h1 h2 kd kd' 0 n (Int.le_refl _) (by omega) hb (by omega)
  obtain ⟨G', e1, e2, e3⟩ := newRowOk (G := G) (w := w) (κ := κ) (w' := w.alloc (.cells (madeCells zv.cells ((n : Int).toNat * i.size)) e)) (es := []) (us := []) (e := e) (z := z) (cur := madeCells zv.cells ((n : Int).toNat * i.size)) (cp := n) hok hf (fun _ h => by cases h) (by simp [RepL]) (fun _ h => by cases h) rfl ⟨rfl, rfl, rfl⟩ (by simp) (by rw [size_madeCells, h3, Int.toNat_natCast]) (Nat.zero_le _) (by unfold maxLen; omega)
  refine wp_of_value (u := .slice (some ⟨w.heap.size, 0, none⟩) 0 n) ?_ (hK _ _ G' e1 e2 e3 (lt_own (.inr ⟨Nat.le_refl _, by omega⟩)))
  unfold execOp
  rw [h]
  simp only [hxv, hxv0, hrun, Sem.run_bind, Result.andThen_ok, Sem.run_pure, Int.toNat_natCast]
  rfl
end
section
variable {P : Program} {en : En} {ops : Array Oper} {o : Oper} {l : List Oper} {K : St → Prop} {s : St}
theorem ow_make0 {t e : TypeId} {x0 x : Operand} {z : Nat} {kd kd' : IntKind} {n : Nat} (hg : Wanted s ops o) (hd : ∀ x, o.dst = some x → x < en.sz) (h : o.op = .makeSlice t x0 x) (hx0 : ev s.f x0 = .d (.v (.int kd 0))) (hx : ev s.f x = .d (.v (.int kd' n))) (hn : n ≤ 1073741824) (ht : tyElem P t = some e) (hr : tyRow P e = some z)
    (hK : OWs P en ops l K ({ s with al := (s.nx, some (0, e, z)) :: s.al, nx := s.nx + 16 }.set o.dst (.own s.nx e z []))) : OWs P en ops (o :: l) K s := by
  refine ow_does hg hd (does_make0 h ht hr hx0 hx hn (mem_fresh s)) { s with al := (s.nx, some (0, e, z)) :: s.al, nx := s.nx + 16 } ?_ rfl hK
  rw [St.mem_bump (s := s) (h := rfl), lk_cons]
  rfl
end
/-- A fresh row that is only read from now on. -/
theorem AC.frz {P : Program} {f : FuncId} {args : List A} {z n : Nat} {ds : List D} {es : List (List D)} (h : AC P f args none fun r _ => r = .arr z n ds) (he : es.flatten = ds) (hz : ∀ e ∈ es, e.length = z) (hn : es.length = n) : AC P f args none fun r _ => r = .d (.sl z es) :=
  ⟨h.1, fun w C β F0 vs h1 h2 h3 h4 => (h.2 w C β F0 vs h1 h2 h3 h4).mono fun e w' ⟨v, r, bx', C', F, F', he', hq, hb, g1, g2, g3, g4, g5, g6, g7, g8⟩ => by
    subst hq
    cases bx' with
    | some x => simp at hb
    | none =>
      unfold RepZ at g5
      obtain ⟨b, cap, rfl, rfl, hc1, hc2, us, ty, k1, k2, k3, k4⟩ := g5
      unfold BoxO at g6
      subst g6
      have hbn : w.heap.size ≤ b := by
        rcases g8 b (by simp) with h | h
        · exact h
        · simp [XO] at h
      have hnl : ¬ Lst b := fun hl => by
        obtain ⟨u, hu⟩ := lst_cell h1.gl hl
        have := cell_lt (h1.cell _ _ _ hu).1
        omega
      have hle : ∀ b' o u, C' b' o u → (C' b' o u ∨ (b' = b ∧ us[o]? = some u)) := fun _ _ _ h => .inl h
      refine ⟨_, .d (.sl z es), none, fun b' o u => C' b' o u ∨ (b' = b ∧ us[o]? = some u), [], [], he', rfl, rfl, fun b' o u h => .inl (g1 _ _ _ h), ⟨fun b' o u hc => ?_, fun b' o u hc hl => ?_, g2.gl.mono hle⟩, g3, fun b' o u hc => ?_, ?_, rfl, by simp [XO], fun b' hb' => by cases hb'⟩
      · rcases hc with hc | ⟨rfl, hu⟩
        · exact g2.cell _ _ _ hc
        · exact ⟨by simp [World.cell?, k1, hu], k3 u (List.mem_of_getElem? hu)⟩
      · rcases hc with hc | ⟨rfl, _⟩
        · exact g2.nf _ _ _ hc hl
        · exact frz_of_cells k1
      · rcases hc with hc | ⟨rfl, _⟩
        · exact g4 _ _ _ hc
        · exact .inr (.inl hbn)
      · unfold RepZ
        refine ⟨rfl, ?_⟩
        unfold RepD
        refine ⟨_, cap, by rw [hn], by rw [hn]; exact hc1, hc2, .inr ⟨b, 0, rfl, ?_⟩⟩
        subst he
        exact RepEs.ofList hz (RepL.mono hle _ _ k2) fun i u hu => .inr ⟨rfl, by simpa using hu⟩⟩
end Go.Proofs.Ytmpokibohbhoeaa.Eng
