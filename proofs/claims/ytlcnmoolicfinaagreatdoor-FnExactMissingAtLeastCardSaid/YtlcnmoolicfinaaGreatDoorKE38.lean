/-
  The engine, part 38: slice expressions with three indexes.
-/
import Derived.Test.YtlcnmoolicfinaaGreatDoorKE31
import Derived.Test.YtlcnmoolicfinaaGreatDoorKE37
set_option linter.unusedSimpArgs false
set_option linter.unusedVariables false
set_option linter.defProp false
set_option maxRecDepth 100000
set_option maxHeartbeats 4000000
namespace Go.Proofs.YtlcnmoolicfinaaGreatDoor.Eng
open Go Go.RowKit

theorem bounds_run3 {P : Program} {ρ : Operand → A} {a : Act} {G : Gh} {lo : Option Operand} {len cap : Nat} {l h m : Int} {vh vm : Operand} {kh km : IntKind} (hlc : len ≤ cap) (hl : bndA 0 (lo.map ρ) = some l) (hh : a.eval vh = .int kh h) (hm : a.eval vm = .int km m) (h0 : 0 ≤ l) (h1 : l ≤ h) (h2 : h ≤ m) (h3 : m ≤ len)
    (hr : ∀ x, RepA G (ρ x) (a.eval x)) (w : World) : (Instr.sliceBounds true len cap (lo.map a.eval) (some (a.eval vh)) (some (a.eval vm))).run P w = .ok (l.toNat, h.toNat, m.toNat) w := by
  have c1 := bndA_rep hl hr
  have a1 : m ≤ (cap : Int) := by omega
  have a2 : (0 : Int) ≤ h := by omega
  have a3 : (0 : Int) ≤ m := by omega
  have a4 : l ≤ (h.toNat : Int) := by omega
  have a5 : h ≤ (m.toNat : Int) := by omega
  rcases c1 with ⟨rfl, rfl⟩ | ⟨y1, k1, rfl, e1⟩ <;>
    simp [Instr.sliceBounds, Instr.sliceBound, asIntOf, *]
  all_goals first | (intro hq; omega) | (rw [if_pos (by omega), if_pos (by omega)])
theorem aw_condT {P : Program} {en : En} {K : Exit → St → Prop} {s : St} {c : Operand} {x y : Code} (hc : ev s.f c = .d (.v (.bool true))) (h : AWs P en x K s) : AWs P en (.cond c x y) K s := aw_cond hc (fun _ => h) (fun h => by cases h)
theorem aw_condF {P : Program} {en : En} {K : Exit → St → Prop} {s : St} {c : Operand} {x y : Code} (hc : ev s.f c = .d (.v (.bool false))) (h : AWs P en y K s) : AWs P en (.cond c x y) K s := aw_cond hc (fun h => by cases h) (fun _ => h)
section
variable {P : Program} {en : En} {ops : Array Oper} {o : Oper} {l : List Oper} {K : St → Prop} {s : St}
theorem ow_slice3 {x hi mx : Operand} {lo : Option Operand} {t e : TypeId} {z : Nat} {g : Bool} {es : List (List D)} {lv hv mv : Int} {kh km : IntKind} (hg : Wanted s ops o) (hd : ∀ x, o.dst = some x → x < en.sz) (ho : o.op = .slice t x lo (some hi) (some mx))
    (he : elemsOf (ev s.f x) = some (z, es)) (ht : tyElem P t = some e) (hk : tyK P e = some (g, z)) (hl : bndA 0 (lo.map (ev s.f)) = some lv) (hh : ev s.f hi = .d (.v (.int kh hv))) (hm : ev s.f mx = .d (.v (.int km mv))) (b : 0 ≤ lv ∧ lv ≤ hv ∧ hv ≤ mv ∧ mv ≤ es.length)
    (hK : OWs P en ops l K (s.set o.dst (.d (.sl z ((es.drop lv.toNat).take (hv.toNat - lv.toNat)))))) : OWs P en ops (o :: l) K s := fun a w hs Q hQ => by
  obtain ⟨G, hG⟩ := hs
  obtain ⟨b0, b1, b2, b3⟩ := b
  have hr := ev_rep hG.ok.cok.gl hG.rep
  have hhv := sim_v hG hh
  have hmv := sim_v hG hm
  obtain ⟨ad, cap, g1, g2, g3, g4⟩ := elemsOf_rep he (hr x)
  have hb := bounds_run3 (P := P) (cap := cap) g2 hl hhv hmv b0 b1 b2 b3 hr w
  obtain ⟨r1, r2⟩ := tyK_run hk w
  refine wpList_step fun K' hK' => ?_
  rw [if_pos (wanted_run hg hG.rep)]
  refine wp_of_value (w' := w) (u := .slice (if mv.toNat = lv.toNat then ad else ad.map (·.add (lv.toNat * z))) (hv.toNat - lv.toNat) (mv.toNat - lv.toNat)) ?_ (hK' _ _ (hK _ _ ⟨G, ?_⟩ Q hQ))
  · unfold execOp
    rw [ho]
    simp only [Instr.sliceAt, Instr.slice, g1, Sem.run_bind, run_underlying (tyElem_run ht), Result.andThen_ok, Option.map_some, hb, Sem.run_pure, r1]
  · have := hG.step Evo.refl hG.ok (d := o.dst) (v := .d (.sl z ((es.drop lv.toNat).take (hv.toNat - lv.toNat)))) (u := .slice (if mv.toNat = lv.toNat then ad else ad.map (·.add (lv.toNat * z))) (hv.toNat - lv.toNat) (mv.toNat - lv.toNat)) hd ?_ (by unfold A.lt; trivial)
    · rw [St.set_f, St.set_mem]
      exact this
    · unfold RepA RepD
      have hlen : ((es.drop lv.toNat).take (hv.toNat - lv.toNat)).length = hv.toNat - lv.toNat := by simp; omega
      refine ⟨_, _, by rw [hlen], by omega, by omega, ?_⟩
      rcases g4 with g4 | ⟨b, oo, rfl, hes⟩
      · left; subst g4; simp
      · by_cases hc : mv.toNat = lv.toNat
        · left
          apply List.eq_nil_of_length_eq_zero
          omega
        · right
          rw [if_neg hc]
          exact ⟨b, oo + lv.toNat * z, by simp [addr_add], RepEs.take _ (RepEs.drop _ hes)⟩
theorem ow_indexA {x i : Operand} {t e : TypeId} {m : Nat} {cs : List D} {k : IntKind} {n : Int} {c : D} (hg : Wanted s ops o) (hd : ∀ x, o.dst = some x → x < en.sz) (ho : o.op = .index t x i) (hx : ev s.f x = .d (.agg cs)) (hi : ev s.f i = .d (.v (.int k n)))
    (ht : tyArr P t = some (e, m)) (hz : tyK P e = some (false, 1)) (h0 : 0 ≤ n) (h1 : n < m) (hc : cs[n.toNat]? = some c) (hK : OWs P en ops l K (s.set o.dst (.d c))) : OWs P en ops (o :: l) K s := fun a w hs Q hQ => by
  obtain ⟨G, hG⟩ := hs
  have hr := ev_rep hG.ok.cok.gl hG.rep
  have hnv := sim_v hG hi
  have hx' := hr x
  rw [hx] at hx'
  obtain ⟨us, hu, hus, h1'⟩ := cellsOfA_rep (cs := cs.map .d) rfl hx'
  have hpa : partA (tyK P e) ((cs.map A.d).drop n.toNat) (· = .d c) := by
    rw [hz, partA_at (c := .d c) (by rw [List.getElem?_map, hc]; rfl)]
  obtain ⟨v, rfl, hp, _, _⟩ := part_rep hpa
  obtain ⟨u, hrun, hrep⟩ := hp G w us hus h1'
  obtain ⟨r1, r2⟩ := tyK_run hz w
  refine wpList_step fun K' hK' => ?_
  rw [if_pos (wanted_run hg hG.rep)]
  refine wp_of_value (w' := w) (u := u) ?_ (hK' _ _ (hK _ _ ⟨G, ?_⟩ Q hQ))
  · unfold execOp
    rw [ho]
    simp only [Instr.index, hu, hnv, asIntOf, Sem.run_bind, Sem.run_pure, Result.andThen_ok, run_underlying (tyArr_run ht), h0, h1, and_self, if_true, r1, Nat.mul_one, hrun]
  · have := hG.step Evo.refl hG.ok (d := o.dst) (v := .d c) (u := u) hd hrep (by unfold A.lt; trivial)
    rw [St.set_f, St.set_mem]
    exact this
end
end Go.Proofs.YtlcnmoolicfinaaGreatDoor.Eng
