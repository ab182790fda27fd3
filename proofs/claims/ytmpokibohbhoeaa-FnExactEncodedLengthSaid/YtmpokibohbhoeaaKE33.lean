/-
  The engine, part 33: calls of functions that are values, with a variable of ours.
-/
import Derived.Test.YtmpokibohbhoeaaKE32
set_option linter.unusedSimpArgs false
set_option linter.unusedVariables false
namespace Go.Proofs.Ytmpokibohbhoeaa.Eng
open Go Go.RowKit

theorem does_call1C {P : Program} {o : Oper} {ρ : Operand → A} {m : Mem} {κ k : Nat} {f : FuncId} {c : Operand} {fs cl : List A} {xs : Array Operand} {ats : Array TypeId} {ys cs : List A} {zs : List Rz} {ks : List Nat} {Q : Rz → Option (List Rz) → Prop} (h : o.op = .call { callee := .value c, args := xs, argTypes := ats }) (hcl : clA (ρ c) = some (f, fs, cl))
    (ha : argsOf (some k) (fs ++ xs.toList.map ρ ++ cl) = some ys) (hb : m.bx k = some cs) (hz : ToZL m cs zs ks) (hza : ∀ j ∈ ks, (m.al j).isSome = true) (hn : (k :: ks).Nodup) (hc : AC P f ys (some zs) Q) (hf : m.fresh κ) (hq : ∀ r zs', Q r (some zs') → Rz.nkL zs' + r.nk ≤ 16) :
    DoesR P o ρ m fun v m' => ∃ r zs', Q r (some zs') ∧ v = r.toA (κ + Rz.nkL zs') ∧ m' = m.back κ k ks zs' r := fun G w a hok hr hlt Kc Q' hK => by
  obtain ⟨β, hE, ⟨vs0, ty0, h1, h2, h3, h4⟩, h5⟩ := hok.box k cs hb
  obtain ⟨hzl, hzlive⟩ := toZL_rep hok _ hz h2
  have hklive : m.live k := .inl (by rw [hb]; rfl)
  have hkk : ∀ j ∈ k :: ks, m.live j := fun j hj => (List.mem_cons.1 hj).elim (fun e => e ▸ hklive) (hzlive j)
  have hnd0 := keys_nodup hok hn hkk
  rw [List.filterMap_cons, hE] at hnd0
  obtain ⟨us0, vs00, hv0, hus0, hvs0⟩ := clA_rep hcl (hr c)
  refine wp_callC h hv0 hc.1 ((hc.2 w G.C β (ks.filterMap G.E) _ hok.cok (argsOf_rep ha (fun j hj => by have := Option.some.inj hj; subst this; exact ⟨rfl, hE⟩) ((hus0.append (RepAL_map hr xs.toList)).append hvs0)) ⟨vs0, ty0, h1, hzl, h3, h4⟩ hnd0).mono fun e w' hpost => ?_)
  obtain ⟨v, r, bx', C', F, F', he, hQ, hbs, hC, hC', hfw, hcn, hrz, hbo, hnd, hloc⟩ := hpost
  cases bx' with
  | none => simp at hbs
  | some zs' =>
    obtain ⟨vs1, ty1, g1, g2, g3, g4⟩ := hbo
    have hnk := hq r zs' hQ
    let m1 : Mem := { bx := upd m.bx k none, al := dropAll m.al ks, us := m.us }
    have halk : m.al k = none := hok.sep k (by rw [hb]; rfl)
    have hlv1 : ∀ j, m1.live j → m.live j ∧ j ≠ k ∧ j ∉ ks := fun j hj => by
      rcases hj with hj | hj
      · by_cases e : j = k
        · subst e; simp [m1] at hj
        · have hj' : (m.bx j).isSome = true := by simpa [m1, upd_ne _ _ e] using hj
          refine ⟨.inl hj', e, fun hjk => ?_⟩
          have hs := hok.sep j hj'
          have := hza j hjk
          rw [hs] at this
          cases this
      · by_cases hjk : j ∈ ks
        · simp [m1, dropAll, hjk] at hj
        · have hj' : (m.al j).isSome = true := by simpa [m1, dropAll, hjk] using hj
          refine ⟨.inr hj', fun e => ?_, hjk⟩
          subst e; rw [halk] at hj'; cases hj'
    have hX : ∀ j b, m1.live j → G.E j = some b → ¬ b ∈ XO (some zs) β (ks.filterMap G.E) := fun j b hj hEj hx => by
      obtain ⟨l1, l2, l3⟩ := hlv1 j hj
      rcases List.mem_cons.1 hx with rfl | hx
      · exact l2 (hok.inj j k _ l1 hklive hEj hE)
      · obtain ⟨j', hj', hE'⟩ := List.mem_filterMap.1 hx
        exact l3 (hok.inj j j' _ l1 (hzlive j' hj') hEj hE' ▸ hj')
    have hok1 : MemOk { G with C := C' } w' m1 := hok.after (X := (· ∈ XO (some zs) β (ks.filterMap G.E))) hC hC' hfw hcn (fun j c hj => by
        by_cases e : j = k
        · subst e; simp [m1] at hj
        · simpa [m1, upd_ne _ _ e] using hj) (fun j x hj => by
        by_cases e : j ∈ ks
        · simp [m1, dropAll, e] at hj
        · simpa [m1, dropAll, e] using hj) rfl hX
    have hmine1 : ∀ b, Mine { G with C := C' } m1 b → b < w.heap.size ∧ ¬ b ∈ XO (some zs) β (ks.filterMap G.E) := fun b ⟨j, hj, hEj⟩ => ⟨Mine.lt hok ⟨j, (hlv1 j hj).1, hEj⟩, hX j b hj hEj⟩
    have hnew : ∀ b, b ∈ F' ++ F → ¬ Mine { G with C := C' } m1 b := fun b hbF hm => by
      have q := hmine1 b hm
      rcases hloc b hbF with h | h
      · omega
      · exact q.2 h
    rw [show XO (some zs') β F' ++ F = β :: (F' ++ F) from rfl, List.nodup_cons] at hnd
    obtain ⟨hβ, hndF⟩ := hnd
    have hndF' := hndF
    rw [List.nodup_append] at hndF
    obtain ⟨G1, a1, a2, a3⟩ := Rz.addedL zs' (κ := κ) hok1 g2 hndF.1 (fun b hb' => hnew b (List.mem_append_left _ hb')) (fun j hj hj' => hf j hj (by omega))
    have hkus : m.us k := hok.lt k hklive
    have hEk1 : G1.E k = some β := by rw [a1.le.E k hkus]; exact hE
    have hb1 := a1.bxo k hkus
    have hnl : ¬ (Rz.addL zs' κ m1).live k := fun hl => by
      rcases hl with hl | hl
      · rw [hb1.1] at hl; simp [m1] at hl
      · rw [hb1.2] at hl; simp [m1, dropAll, halk] at hl
    have hβm : ¬ Mine G1 (Rz.addL zs' κ m1) β := fun hm => by
      rcases a1.mine β hm with h | h
      · exact (hmine1 β h).2 (by simp [XO])
      · exact hβ (List.mem_append_left _ h)
    have hok2 := a1.ok.addBox (κ := k) (b := β) (cs := Rz.toAL zs' κ) hEk1 ⟨vs1, ty1, g1, a2, g3, by rw [a1.C]; exact g4⟩ a3 hnl hβm ((a1.us k).2 (.inl hkus))
    let m2 : Mem := { Rz.addL zs' κ m1 with bx := upd (Rz.addL zs' κ m1).bx k (some (Rz.toAL zs' κ)) }
    have hmine2 : ∀ b, Mine G1 m2 b → Mine { G with C := C' } m1 b ∨ b ∈ F' ∨ b = β := fun b ⟨j, hj, hEj⟩ => by
      by_cases e : j = k
      · subst e
        rw [hEk1] at hEj
        exact .inr (.inr (Option.some.inj hEj).symm)
      · have : Mine G1 (Rz.addL zs' κ m1) b := ⟨j, by
          rcases hj with hj | hj
          · left; simpa [m2, upd_ne _ _ e] using hj
          · exact .inr hj, hEj⟩
        exact (a1.mine b this).imp id .inl
    obtain ⟨G2, b1, b2, b3⟩ := Rz.added r (κ := κ + Rz.nkL zs') (m := m2) hok2 (by rw [a1.C]; exact hrz) hndF.2.1 (fun b hbF hm => by
      rcases hmine2 b hm with h | h | h
      · exact hnew b (List.mem_append_right _ hbF) h
      · exact hndF.2.2 b h b hbF rfl
      · subst h; exact hβ (List.mem_append_right _ hbF)) (fun j hj hj' hu => by
      rcases (a1.us j).1 hu with h | h
      · exact hf j (by omega) (by omega) h
      · omega)
    refine ⟨v, he, hK _ (m.back κ k ks zs' r) v w' G2 ⟨r, zs', hQ, rfl, rfl⟩ ?_ (b1.ok.bump κ) b2 (A.lt.mono (fun _ hk => .inl hk) _ b3)⟩
    have hXm : ∀ b, b ∈ XO (some zs) β (ks.filterMap G.E) → Mine G m b := fun b hb' => by
      rcases List.mem_cons.1 hb' with rfl | hb'
      · exact ⟨k, hklive, hE⟩
      · obtain ⟨j, hj, hEj⟩ := List.mem_filterMap.1 hb'
        exact ⟨j, hzlive j hj, hEj⟩
    have hle2 : ∀ j, m.us j → m2.us j := fun j hj => (a1.us j).2 (.inl hj)
    have hls : ∀ b, b ∈ F' ++ F → w.heap.size ≤ b ∨ Mine G m b := fun b hb' => (hloc b hb').imp id (hXm b)
    refine ⟨⟨fun j hj => (b1.le.E j (hle2 j hj)).trans (a1.le.E j hj), fun j hj => (b1.le.cp j (hle2 j hj)).trans (a1.le.cp j hj), fun b o u hc' => b1.le.C b o u (a1.le.C b o u (hC b o u hc'))⟩, ⟨hfw.os, hfw.tape, hfw.output, hfw.size, fun j hj hx => hfw.block j hj fun hx' => hx (hXm j hx')⟩, fun b o u hc' => ?_, fun b hb' => ?_, fun j hj => .inl ((b1.us j).2 (.inl (hle2 j hj)))⟩
    · rw [b1.C, a1.C] at hc'
      rcases hcn b o u hc' with h | h | h
      · exact .inl h
      · exact .inr (.inl h)
      · exact .inr (.inr (hXm b h))
    · rcases b1.mine b hb' with h | h
      · rcases hmine2 b h with ⟨j, hj, hEj⟩ | h | h
        · exact .inr ⟨j, (hlv1 j hj).1, hEj⟩
        · exact hls b (List.mem_append_left _ h)
        · subst h; exact .inr ⟨k, hklive, hE⟩
      · exact hls b (List.mem_append_right _ h)

section
variable {P : Program} {en : En} {ops : Array Oper} {o : Oper} {l : List Oper} {K : St → Prop} {s : St}
theorem ow_call1V {f : FuncId} {c : Operand} {fs cl : List A} {xs : Array Operand} {ats : Array TypeId} (hg : Wanted s ops o) (hd : ∀ x, o.dst = some x → x < en.sz) (ho : o.op = .call { callee := .value c, args := xs, argTypes := ats }) (hcl : clA (ev s.f c) = some (f, fs, cl)) (h : CallN1 P s f (fs ++ xs.toList.map (ev s.f) ++ cl) o.dst (OWs P en ops l K)) : OWs P en ops (o :: l) K s := by
  obtain ⟨k, ys, cs, zs, ks, Q, h1, h2, h3, h4, h5, h6, h7⟩ := h
  refine ow_step hg hd (does_call1C (κ := s.nx) ho hcl h1 h2 h3 h4 h5 h6 (mem_fresh s) fun r zs' hr => (h7 r zs' hr).1) fun v m' ⟨r, zs', hr, e1, e2⟩ => ?_
  subst e1 e2
  obtain ⟨g1, g2⟩ := h7 r zs' hr
  obtain ⟨q1, q2, _⟩ := St.back_mem s k ks zs' r g1
  exact ⟨s.back k ks zs' r, q1, q2, g2⟩
end
end Go.Proofs.Ytmpokibohbhoeaa.Eng
