/-
  The engine, part 36: copying into a row that is ours.
-/
import Derived.Test.YtlcnmoolicfinaaGreatDoorKE4
import Derived.Laws.IdiomCopy
set_option linter.unusedSimpArgs false
set_option linter.unusedVariables false
set_option linter.defProp false
set_option maxRecDepth 100000
set_option maxHeartbeats 4000000
namespace Go.Proofs.YtlcnmoolicfinaaGreatDoor.Eng
open Go Go.RowKit

theorem put_ok {G : Gh} {w : World} {m : Mem} {k b off : Nat} {cs xs : List A} {vs us : List Value} {ty : TypeId} (hok : MemOk G w m) (hb : m.bx k = some cs) (hE : G.E k = some b) (h1 : w.heap[b]? = some (.cells ⟨vs⟩ ty (0, 0))) (h2 : RepAL G cs vs) (h3 : ∀ x ∈ vs, x.oneCell' = true) (h4 : ∀ j u, ¬ G.C b j u) (h5 : A.ltL m.us cs)
    (hu2 : RepAL G xs us) (hu3 : ∀ x ∈ us, x.oneCell' = true) (hxl : A.ltL m.us xs) (hl : off + xs.length ≤ cs.length) :
    Evo G w m G (w.setRow b (vs.take off ++ us ++ vs.drop (off + us.length)).toArray) (m.put k (splice cs xs off)) ∧ MemOk G (w.setRow b (vs.take off ++ us ++ vs.drop (off + us.length)).toArray) (m.put k (splice cs xs off)) := by
  have hlen := hu2.get.1
  have hlen2 := h2.get.1
  have hmine : Mine G m b := ⟨k, .inl (by rw [hb]; rfl), hE⟩
  have hlive : ∀ j, Mem.live (m.put k (splice cs xs off)) j → m.live j := fun j hj => by
    rcases hj with hj | hj
    · by_cases e : j = k
      · subst e; exact .inl (by rw [hb]; rfl)
      · left; simpa [Mem.put, upd_ne _ _ e] using hj
    · exact .inr hj
  have hother : ∀ j, j ≠ b → (w.setRow b (vs.take off ++ us ++ vs.drop (off + us.length)).toArray).heap[j]? = w.heap[j]? := fun j hj => setRow_other w b j _ hj
  have hnb : ∀ {j b'' : Nat}, m.live j → j ≠ k → G.E j = some b'' → b'' ≠ b := fun hj hne hE'' e => hne (hok.inj _ _ b hj (.inl (by rw [hb]; rfl)) (e ▸ hE'') hE)
  refine ⟨⟨Gh.Le.refl _ _, ⟨rfl, rfl, rfl, by simp, fun j _ hj => hother j fun e => hj (e ▸ hmine)⟩, fun _ _ _ hc => .inl hc, fun b'' ⟨j, hj, hE''⟩ => .inr ⟨j, hlive j hj, hE''⟩, fun _ hk => hk⟩, ?_⟩
  refine ⟨⟨fun b'' o' u hc => ?_, fun b'' o' u hc hb2 => ?_, hok.cok.gl⟩, fun j cs' hj => ?_, fun j n e z hj b'' hE'' => ?_, fun j j' b'' hj hj' hE1 hE2 => hok.inj j j' b'' (hlive j hj) (hlive j' hj') hE1 hE2, fun j hj => hok.lt j (hlive j hj), fun j hj => ?_⟩
  · have hne : b'' ≠ b := fun e => h4 o' u (e ▸ hc)
    have hc' := hok.cell b'' o' u hc
    exact ⟨(World.cell?_of_block (w := w) (a := ⟨b'', o', none⟩) (hother b'' hne)).trans hc'.1, hc'.2⟩
  · have hne : b'' ≠ b := fun e => h4 o' u (e ▸ hc)
    rw [frz_of_block (hother b'' hne)]
    exact hok.cok.nf _ _ _ hc hb2
  · by_cases e : j = k
    · subst e
      simp only [Mem.put, upd_same, Option.some.injEq] at hj
      subst hj
      refine ⟨b, hE, ⟨_, ty, setRow_heap w b _ _ ty _ h1, ?_, ?_, h4⟩, ltL_append (ltL_append (ltL_take _ h5) hxl) (ltL_drop _ h5)⟩
      · unfold splice
        rw [hlen]
        exact RepAL.append (RepAL.append (RepAL.take _ h2) hu2) (RepAL.drop _ h2)
      · intro y hy
        rcases List.mem_append.1 hy with hy | hy
        · rcases List.mem_append.1 hy with hy | hy
          · exact h3 y (List.mem_of_mem_take hy)
          · exact hu3 y hy
        · exact h3 y (List.mem_of_mem_drop hy)
    · have hj0 : m.bx j = some cs' := by simpa [Mem.put, upd_ne _ _ e] using hj
      obtain ⟨b'', g1, ⟨vs', ty', g2, g3, g4, g5⟩, g6⟩ := hok.box j cs' hj0
      have hne := hnb (.inl (by rw [hj0]; rfl)) e g1
      exact ⟨b'', g1, ⟨vs', ty', (hother b'' hne).trans g2, g3, g4, g5⟩, g6⟩
  · obtain ⟨cur, g1, g2, g3, g4⟩ := hok.row j n e z hj b'' hE''
    have hne : b'' ≠ b := fun e' => by
      subst e'
      have : j = k := hok.inj j k b'' (.inr (by rw [show m.al j = some (n, e, z) from hj]; rfl)) (.inl (by rw [hb]; rfl)) hE'' hE
      subst this
      have hs := hok.sep j (by rw [hb]; rfl)
      rw [show m.al j = some (n, e, z) from hj] at hs
      cases hs
    exact ⟨cur, (hother b'' hne).trans g1, g2, g3, g4⟩
  · by_cases e : j = k
    · subst e; exact hok.sep j (by rw [hb]; rfl)
    · exact hok.sep j (by simpa [Mem.put, upd_ne _ _ e] using hj)

theorem does_copy {P : Program} {o : Oper} {ρ : Operand → A} {m : Mem} {dT sT e : TypeId} {x y : Operand} {k n : Nat} {cs : List A} {es : List (List D)} (h : o.op = .call { callee := .builtin .copy, args := #[x, y], argTypes := #[dT, sT] }) (hx : ρ x = .arr k 1 n) (hy : ρ y = .d (.sl 1 es)) (hne : es ≠ [])
    (hb : m.bx k = some cs) (hcs : cs.length = n) (ht : tyElem P dT = some e) (hr : tyRow P e = some 1) : Does P o ρ m (.d (.v (.int .i64 (Nat.min es.length n : Nat)))) (m.put k (splice cs ((es.take (Nat.min es.length n)).flatten.map .d) 0)) := fun G w a hok hra hlt Kc Q hK => by
  obtain ⟨b, hE, ⟨vs, ty, h1, h2, h3, h4⟩, h5⟩ := hok.box k cs hb
  have hlen2 := h2.get.1
  obtain ⟨i, zv, q1, q2, q3, q4, q5, q6⟩ := tyRow_spec hr
  have hxv := hra x
  rw [hx] at hxv
  unfold RepA at hxv
  obtain ⟨b', cap, hE', hxv, hc1, hc2⟩ := hxv
  rw [hE] at hE'
  have := Option.some.inj hE'; subst this
  have hyv := hra y
  rw [hy] at hyv
  unfold RepA RepD at hyv
  obtain ⟨ad, sc, hyv, hs1, hs2, hs3⟩ := hyv
  obtain ⟨bs, os, rfl, hes⟩ := hs3.resolve_left hne
  obtain ⟨us, hu1, hu2, hu3⟩ := hes.list
  have hel := hes.len
  rw [Nat.mul_one] at hu2
  generalize hj : Nat.min es.length n = j at hK
  have hj1 : j ≤ es.length := by rw [← hj]; exact Nat.min_le_left _ _
  have hj2 : j ≤ n := by rw [← hj]; exact Nat.min_le_right _ _
  have hfl : (es.take j).flatten.length = j := by
    rw [flatten_len (z := 1) (fun e he => hel e (List.mem_of_mem_take he)), List.length_take, Nat.mul_one]
    omega
  have hrl : RepL G.C (es.take j).flatten (us.take j) := by
    have := RepL.split (xs := (es.take j).flatten) (ys := (es.drop j).flatten) (us := us) (by rw [← List.flatten_append, List.take_append_drop]; exact hu1)
    rw [hfl] at this
    exact this.1
  have hul : (us.take j).length = j := by rw [List.length_take]; omega
  have hone : ∀ v ∈ us.take j, v.oneCell' = true := fun v hv => by
    obtain ⟨i', hi, rfl⟩ := List.getElem_of_mem (List.mem_of_mem_take hv)
    exact (hok.cell _ _ _ (hu3 i' _ (List.getElem?_eq_getElem hi))).2
  obtain ⟨hev, hmk⟩ := put_ok (off := 0) (xs := (es.take j).flatten.map .d) (us := us.take j) hok hb hE h1 h2 h3 h4 h5 (RepL_map hrl) hone (ltL_map _) (by rw [List.length_map, hfl]; omega)
  have hst := run_storeCells_at (P := P) b 0 ty (us.take j) 0 ⟨vs⟩ w h1 (by simp [List.length_take]; omega) hone
  simp only [Nat.add_zero] at hst
  have hld := run_loadCells_list (P := P) (w := w) ⟨bs, os, none⟩ (us.take j) (fun i' v hv => by
    have hv' : us[i']? = some v := by
      rw [List.getElem?_take] at hv
      split at hv
      · exact hv
      · cases hv
    have := (hok.cell _ _ _ (hu3 i' v hv')).1
    have hadd : (⟨bs, os, none⟩ : Addr).add i' = ⟨bs, os + i', none⟩ := by unfold Addr.add; split <;> simp_all
    rw [hadd]
    exact this)
  rw [hul] at hld
  refine wp_of_value (u := .int .i64 (j : Nat)) ?_ (hK _ _ G hev hmk (by unfold RepA RepD; rfl) (by unfold A.lt; trivial))
  unfold execOp
  rw [h]
  have hrun : (Builtin.copy_ #[dT, sT] o.type #[a.eval x, a.eval y]).run P w = .ok (goInt j) (w.setRow b (vs.take 0 ++ us.take j ++ vs.drop (0 + (us.take j).length)).toArray) := by
    rw [hxv, hyv]
    simp [Builtin.copy_, run_underlying (tyElem_run ht), Builtin.lenOf, Builtin.firstCells, sizeOf, typeInfo, q1, q3, hj, hld]
    simpa using congrArg (fun r => r.andThen fun _ w' => Result.ok (goInt j) w') hst
  simp only [resolve, invoke, builtin, Sem.run_bind, Sem.run_pure, Result.andThen_ok, List.map_toArray, List.map_cons, List.map_nil, hrun]
  rfl
section
variable {P : Program} {en : En} {ops : Array Oper} {o : Oper} {l : List Oper} {K : St → Prop} {s : St}
theorem ow_copy {dT sT e : TypeId} {x y : Operand} {k n : Nat} {cs : List A} {es : List (List D)} (hg : Wanted s ops o) (hd : ∀ x, o.dst = some x → x < en.sz) (h : o.op = .call { callee := .builtin .copy, args := #[x, y], argTypes := #[dT, sT] }) (hx : ev s.f x = .arr k 1 n) (hy : ev s.f y = .d (.sl 1 es)) (hne : es ≠ [])
    (hb : lk none s.bx k = some cs) (hcs : cs.length = n) (ht : tyElem P dT = some e) (hr : tyRow P e = some 1)
    (hK : OWs P en ops l K ({ s with bx := (k, some (splice cs ((es.take (Nat.min es.length n)).flatten.map .d) 0)) :: s.bx }.set o.dst (.d (.v (.int .i64 (Nat.min es.length n : Nat)))))) : OWs P en ops (o :: l) K s :=
  ow_does hg hd (does_copy h hx hy hne hb hcs ht hr) { s with bx := (k, some (splice cs ((es.take (Nat.min es.length n)).flatten.map .d) 0)) :: s.bx } (by unfold St.mem Mem.put; simp only [lk_cons]) rfl hK
theorem simS_freezeY (y : D) (t k z n : Nat) (es : List (List D)) (h1 : s.f t = .arr k z n) (h2 : lk none s.bx k = some (es.flatten.map .d)) (h3 : es.length = n) (h4 : ∀ e ∈ es, e.length = z) (hks : ∀ k, en.ks k → k = 0) (hk0 : k ≠ 0)
    (hy : ∀ (C : CellR) (b cap : Nat), (en.w.heap.size ≤ b ∨ en.X b) → RepEs C z es b 0 → RepD C (.sl z es) (.slice (some ⟨b, 0, none⟩) n cap) → RepD C y (.slice (some ⟨b, 0, none⟩) n cap))
    {a : Act} {w : World} (hs : SimS en s a w) : SimS en { s with fr := (t, .d y) :: s.fr, bx := (k, none) :: s.bx } a w := by
  obtain ⟨G, hG⟩ := hs
  obtain ⟨b, hE, ⟨vs, ty, g1, g2, g3, g4⟩, g5⟩ := hG.ok.box k _ h2
  have hlk : s.mem.live k := .inl (by rw [show s.mem.bx k = some (es.flatten.map .d) from h2]; rfl)
  let G' : Gh := { G with C := fun b' o u => G.C b' o u ∨ (b' = b ∧ vs[o]? = some u) }
  have hle : ∀ p, G.Le p G' := fun p => ⟨fun _ _ => rfl, fun _ _ => rfl, fun _ _ _ hc => .inl hc⟩
  have hm : ({ s with fr := (t, .d y) :: s.fr, bx := (k, none) :: s.bx } : St).mem = { s.mem with bx := upd s.mem.bx k none } := by
    unfold St.mem; simp only [lk_cons]
  have hlive : ∀ j, ({ s.mem with bx := upd s.mem.bx k none } : Mem).live j → s.mem.live j ∧ (j = k → False) := fun j hj => by
    rcases hj with hj | hj
    · by_cases e : j = k
      · subst e; simp at hj
      · exact ⟨.inl (by simpa [upd_ne _ _ e] using hj), e⟩
    · refine ⟨.inr hj, fun e => ?_⟩
      subst e
      have := hG.ok.sep j (by rw [show s.mem.bx j = some (es.flatten.map .d) from h2]; rfl)
      have hj' : (s.mem.al j).isSome = true := hj
      rw [this] at hj'; cases hj'
  have hb' : ∀ j b'', s.mem.live j → j ≠ k → G.E j = some b'' → b'' ≠ b := fun j b'' hj hne hE'' e => hne (hG.ok.inj j k b hj hlk (e ▸ hE'') hE)
  refine ⟨G', ⟨?_, fun t' => ?_, fun t' => ?_, hG.sz, hG.df, hG.fw, fun b o u hc => .inl (hG.c0 b o u hc), fun b' o u hc hlt hx => ?_, fun b' ⟨j, hj, hE'⟩ => ?_, hG.e0, hG.p0, hG.ks, hG.am, fun b' hb' => ⟨(hG.az b' hb').1, fun ⟨j, hj, hE'⟩ => (hG.az b' hb').2.1 ⟨j, (hlive j (by rw [hm] at hj; exact hj)).1, hE'⟩, fun o u hc => hc.elim ((hG.az b' hb').2.2 o u) fun he => (hG.az b' hb').2.1 ⟨k, hlk, by rw [he.1]; exact hE⟩⟩⟩⟩
  · rw [hm]
    refine ⟨⟨fun b' o u hc => ?_, fun b' o u hc hb2 => ?_, hG.ok.cok.gl.mono (hle fun _ => True).C⟩, fun j cs hj => ?_, fun j m e y hj b'' hE'' => ?_, fun j j' b'' hj hj' => hG.ok.inj j j' b'' (hlive j hj).1 (hlive j' hj').1, fun j hj => hG.ok.lt j (hlive j hj).1, fun j hj => ?_⟩
    · rcases hc with hc | ⟨rfl, hv⟩
      · exact hG.ok.cell b' o u hc
      · refine ⟨?_, g3 u (List.mem_of_getElem? hv)⟩
        simp [World.cell?, g1, hv]
    · rcases hc with hc | ⟨rfl, _⟩
      · exact hG.ok.cok.nf b' o u hc hb2
      · exact frz_of_cells g1
    · by_cases e : j = k
      · subst e; simp at hj
      · rw [show ({ s.mem with bx := upd s.mem.bx k none } : Mem).bx j = s.mem.bx j from upd_ne _ _ e] at hj
        obtain ⟨b1, q1, ⟨us, ty', q2, q3, q4, q5⟩, q6⟩ := hG.ok.box j cs hj
        refine ⟨b1, q1, ⟨us, ty', q2, RepAL.mono (hle _) _ _ q6 q3, q4, fun i u hc => ?_⟩, q6⟩
        rcases hc with hc | ⟨rfl, _⟩
        · exact q5 i u hc
        · exact hb' j _ (.inl (by rw [hj]; rfl)) e q1 rfl
    · have hj' : s.mem.al j = some (m, e, y) := hj
      obtain ⟨cur, q1, q2, q3, q4⟩ := hG.ok.row j m e y hj' b'' hE''
      refine ⟨cur, q1, q2, q3, fun i u hi hc => ?_⟩
      rcases hc with hc | ⟨rfl, _⟩
      · exact q4 i u hi hc
      · have hlj : s.mem.live j := .inr (by rw [hj']; rfl)
        have hne : j ≠ k := fun e' => by
          subst e'
          have := hG.ok.sep j (by rw [show s.mem.bx j = some (es.flatten.map .d) from h2]; rfl)
          rw [this] at hj'; cases hj'
        exact hb' j _ hlj hne hE'' rfl
    · by_cases e : j = k
      · subst e; simp at hj
      · exact hG.ok.sep j (by simpa [upd_ne _ _ e] using hj)
  · show RepA G' (lk .top ((t, .d y) :: s.fr) t') _
    rw [lk_cons]
    by_cases e : t' = t
    · subst e
      rw [upd_same]
      have hr := hG.rep t'
      rw [h1] at hr
      unfold RepA at hr ⊢
      obtain ⟨b1, cap, q1, q2, qc, q3⟩ := hr
      rw [hE] at q1
      have := Option.some.inj q1; subst this
      have hes : RepEs G'.C z es b 0 := by
        refine RepEs.ofList h4 (us := vs) (RepL.mono (fun _ _ _ hc => .inl hc) _ _ (RepAL_unmap g2)) fun i u hi => ?_
        right
        exact ⟨rfl, by simpa using hi⟩
      rw [q2]
      refine hy G'.C b cap (hG.lv b ⟨k, hlk, hE⟩) hes ?_
      unfold RepD
      exact ⟨_, cap, by rw [h3], by rw [h3]; exact qc, q3, .inr ⟨b, 0, rfl, hes⟩⟩
    · rw [upd_ne _ _ e]
      exact RepA.mono (hle _) _ _ (hG.kf t') (hG.rep t')
  · show (lk .top ((t, .d y) :: s.fr) t').lt _
    rw [lk_cons]
    by_cases e : t' = t
    · subst e; rw [upd_same]; unfold A.lt; trivial
    · rw [upd_ne _ _ e]; exact hG.kf t'
  · rcases hc with hc | ⟨rfl, _⟩
    · exact hG.c1 b' o u hc hlt hx
    · rcases hG.lv _ ⟨k, hlk, hE⟩ with h5 | h5
      · omega
      · exact absurd h5 hx
  · rw [hm] at hj
    exact hG.lv b' ⟨j, (hlive j hj).1, hE'⟩
theorem ow_freezeA {ops : Array Oper} {l : List Oper} {K : St → Prop} (y : D) (t k z n : Nat) (es : List (List D)) (hy : y = .sl z es) (h1 : s.f t = .arr k z n) (h2 : lk none s.bx k = some (es.flatten.map .d)) (h3 : es.length = n) (h4 : ∀ e ∈ es, e.length = z) (hks : ∀ k, en.ks k → k = 0) (hk0 : k ≠ 0)
    (h : OWs P en ops l K { s with fr := (t, .d y) :: s.fr, bx := (k, none) :: s.bx }) : OWs P en ops l K s := fun a w hs => h a w (simS_freezeY y t k z n es h1 h2 h3 h4 hks hk0 (fun _ _ _ _ _ h => hy ▸ h) hs)
theorem zero_row (n : Nat) : (List.replicate n [D.v (.int .u8 0)]).flatten.map A.d = (((List.replicate n (0 : UInt8)).map fun c => [D.v (.int .u8 c.toNat)]).flatten).map A.d := by
  rw [List.map_replicate]; rfl
end
theorem wkD_own1 (z k : Nat) (e : TypeId) (c : List D) : wkD (.sl z [c]) (.own k e z [c]) = True := eq_true (by unfold wkD; exact .inr ⟨_, _, _, rfl, dleLL_refl _⟩)
theorem wkDS2 {p : Prop} (h : p := by first | exact wkD_self _ | (simp (decide := true) only [wkD_own1, wkD_selfT, wkD_ownB, wkD_ownB0, wkD_ownV0, wkD_nilB, wkD_ownV, wkD_nilV, wkD_agg, wkD_tup, wkDL_nil, wkDL_cons, encVs_append, encVs_one, encVs_nil, encV_mk, V0, dle_agg, dle_tup, dleL_nil, dleL_cons, dle_nil, dle_nilB, wkD_tupd, wkD_aggd, dle_selfT, and_true, true_and, List.map_cons, List.map_nil])) : p := h
theorem wkS2 {p : Prop} (h : p := by (refine ⟨?_, ?_, ?_, ?_⟩ <;> simp (decide := true) only [wkD_own1, encVc_mk, encVs_one, encVs_nil, St.head, wkFr, wkBx, wkB, wkBc, wkAl, wkAlv, wkA, wkO, wkL, wkD_selfT, wkL_d, ltL_dT, sg, keyOf, keyB, keyBc, List.getD_cons_zero, List.getD_cons_succ, encVs_len, lk, St.f, rmv, keysOk, liveKeys, A.lt, A.ltL, List.map_cons, List.map_nil, List.cons_append, List.nil_append, and_true, true_and, and_self, reduceIte, reduceCtorEq, Option.some.injEq, List.length_cons, List.length_nil, List.length_append, Nat.reduceAdd, exists_eq_left', exists_eq_left, natCast0, natCast1, Int.add_sub_cancel, List.flatten_replicate_singleton, List.take_zero, Nat.sub_zero, List.map_replicate, Nat.zero_add, List.append_nil, List.all_nil, List.all_cons, List.map_append, List.length_map, wkL_arrC, arrC_lt, wkD_ownB, wkD_ownB0, wkD_ownV0, wkD_nilB, wkD_ownV, wkD_nilV, wkD_agg, wkD_tup, wkDL_nil, wkDL_cons, encVs_append, encVs_one, encVs_nil, encV_mk, V0, dle_agg, dle_tup, dleL_nil, dleL_cons, dle_nil, dle_nilB, wkD_tupd, wkD_aggd, dle_selfT] <;> (try exact wkD_self _))) : p := h
end Go.Proofs.YtlcnmoolicfinaaGreatDoor.Eng
