/-
  What the laws write over: values.
-/
import Derived.Test.YtmpokibohbhoeaaKM1
import Derived.Test.YtmpokibohbhoeaaKLV1
import Derived.Test.YtmpokibohbhoeaaKP2
import Derived.Test.YtmpokibohbhoeaaKE5
set_option linter.unusedSimpArgs false
set_option linter.unusedVariables false
set_option linter.defProp false
namespace Go.Proofs.Ytmpokibohbhoeaa.Eng
open Go Go.RowKit

/-- The marks that a row of values takes. -/
def cntVs : List V → Nat
  | [] => 0
  | v :: vs => 1 + totV v + cntVs vs
theorem cntVs_eq : ∀ vs : List V, cntVs vs = vs.length + totVs vs
  | [] => by rw [totVs]; rfl
  | v :: vs => by rw [cntVs, totVs, cntVs_eq vs, List.length_cons]; omega
theorem cntVs_append (l : List V) (v : V) : cntVs (l ++ [v]) = cntVs l + (1 + totV v) := by
  induction l with
  | nil => simp [cntVs]
  | cons x l ih => simp only [List.cons_append, cntVs, ih]; omega
theorem cntVs_take {l : List V} {j : Nat} (h : j < l.length) : cntVs (l.take (j + 1)) = cntVs (l.take j) + (1 + totV (l[j]'h)) := by
  rw [List.take_succ_eq_append_getElem h, cntVs_append]
theorem cntVs_le {l : List V} (j : Nat) : cntVs (l.take j) ≤ cntVs l := by
  induction l generalizing j with
  | nil => simp
  | cons r l ih =>
    cases j with
    | zero => simp [cntVs]
    | succ j => simp only [List.take_succ_cons, cntVs]; have := ih j; omega
/-- The cells of value j of a row. -/
theorem values_open {C : CellR} {l : List V} {u : Value} (h : RepD C (encVL l) u) : ∃ a cap, u = .slice a l.length cap ∧ l.length ≤ maxLen ∧ (l = [] ∨ ∃ b o, a = some ⟨b, o, none⟩ ∧ ∀ j (hj : j < l.length),
    ∃ n bs vs, l[j] = V.mk n bs vs ∧ C b (o + j * 3 + 0) (.int .i64 n) ∧ (∃ a n c, C b (o + j * 3 + 1) (.slice a n c) ∧ RepD C (encB bs) (.slice a n c)) ∧ (∃ a n c, C b (o + j * 3 + 2) (.slice a n c) ∧ RepD C (encVL vs) (.slice a n c))) := by
  have h0 : RepD C (.sl 3 (encVs l)) u := h
  clear h
  rw [encVs_eq] at h0
  unfold RepD at h0
  obtain ⟨a, cap, h1, h2, h3, h4⟩ := h0
  simp only [List.length_map] at h1 h2
  refine ⟨a, cap, h1, by omega, h4.imp (fun h => by simpa using h) fun ⟨b, o, ha, he⟩ => ⟨b, o, ha, fun j hj => ?_⟩⟩
  obtain ⟨_, hc⟩ := he.get j (encVc l[j]) (by simp [hj])
  generalize l[j] = v at hc
  obtain ⟨n, bs, vs⟩ := v
  rw [encVc_mk] at hc
  have hs : ∀ (i : Nat) (z : Nat) es, [iD n, encB bs, D.sl 3 (encVs vs)][i]? = some (.sl z es) → ∃ a n c, C b (o + j * 3 + i) (.slice a n c) ∧ RepD C (.sl z es) (.slice a n c) := fun i z es hi => by
    obtain ⟨u, hu, hr⟩ := hc.get i _ hi
    have hr' := hr
    unfold RepD at hr
    obtain ⟨a, cap, rfl, _⟩ := hr
    exact ⟨_, _, _, hu, hr'⟩
  refine ⟨n, bs, vs, rfl, ?_, hs 1 _ _ rfl, hs 2 _ _ rfl⟩
  obtain ⟨u, hu, hr⟩ := hc.get 0 _ rfl
  rw [repD_v] at hr
  subst hr
  exact hu

private def tyF := And.intro (And.intro (And.intro (And.intro tb22 (And.intro te22 te42)) (And.intro tf44_0 (And.intro tf44_1 tf44_2))) (And.intro (And.intro tk22 (And.intro tk3 tk42)) (And.intro (And.intro tk44 tk5) (And.intro tp44 tr22)))) (And.intro (And.intro (And.intro tr3 (And.intro tr42 tr44)) (And.intro tr5 (And.intro tu22 tu3))) (And.intro (And.intro tu42 (And.intro tu5 tz22)) (And.intro (And.intro tz3 tz42) (And.intro tz44 tz5))))
set_option maxRecDepth 100000 in
set_option maxHeartbeats 2000000 in
theorem markVs_of {l : List V} {k : Nat} (hk : k + cntVs l ≤ 4611686018427387904) (H : ∀ n bs vs, V.mk n bs vs ∈ l → ∀ k : Int, 0 ≤ k → k + cntVs vs ≤ 4611686018427387904 → ACK Try.prog 84 (encVL vs) k (k + cntVs vs)) : ACK Try.prog 84 (encVL l) (k : Nat) ((k + cntVs l : Nat) : Int) := fun C u hr => by
  obtain ⟨a, cap, rfl, hm, h⟩ := values_open hr
  unfold maxLen at hm
  refine calls_bodyM Try.func84 rfl Try.call84 Try.ntmps84 (by decide) fun en hsz hks hZ hA hX => ?_; simp only [St.init, frOf, Rz.addSL, Rz.addS, Rz.toAL, Rz.toA, Rz.nk, List.zipIdx_cons, List.zipIdx_nil, List.map_cons, List.map_nil, Nat.zero_add, Nat.reduceAdd]
  (repeat (first | refine walkS ?_ | (refine ow_xlen ?_ (fun x hx => by cases hx <;> (rw [hsz]; decide)) rfl rfl (by first | exact te22 | exact te42) ?_; (first | exact trivial | exact rfl); simp only [St.set, Int.toNat_natCast, List.map_cons, List.map_nil]) | (refine ow_xidx ?_ (fun x hx => by cases hx <;> (rw [hsz]; decide)) rfl rfl rfl (by first | exact te22 | exact te42) (by first | exact tk3 | exact tk5 | exact tk22 | exact tk42 | exact tk44) (by omega) (by omega) ?_; (first | exact trivial | exact rfl); simp only [St.set, Int.toNat_natCast, List.map_cons, List.map_nil]) | (refine ow_xfld ?_ (fun x hx => by cases hx <;> (rw [hsz]; decide)) rfl rfl (by first | exact tf44_0 | exact tf44_1 | exact tf44_2) (by first | exact tk3 | exact tk5 | exact tk22 | exact tk42 | exact tk44) (by decide) ?_; (first | exact trivial | exact rfl); simp only [St.set, Int.toNat_natCast, List.map_cons, List.map_nil])))
  refine aw_loopS [0, 4] (fun _ _ => []) (fun _ j => [(1, .d (iD ((k + cntVs (l.take j) : Nat) : Int))), (5, .d (iD (j : Nat)))]) [] (fun _ _ => []) [] (fun _ _ => []) (fun j => j ≤ l.length) (fun j => l.length - j) (0) hks (fun _ => rfl) (Nat.zero_le _) wkS ?_; intro x hx; simp (decide := true) only [St.head, List.map_cons, List.map_nil, lk, rmv, List.cons_append, List.nil_append, List.append_nil, reduceIte, Nat.reduceAdd]
  (repeat (first | refine walkS ?_ | (refine ow_xlen ?_ (fun x hx => by cases hx <;> (rw [hsz]; decide)) rfl rfl (by first | exact te22 | exact te42) ?_; (first | exact trivial | exact rfl); simp only [St.set, Int.toNat_natCast, List.map_cons, List.map_nil]) | (refine ow_xidx ?_ (fun x hx => by cases hx <;> (rw [hsz]; decide)) rfl rfl rfl (by first | exact te22 | exact te42) (by first | exact tk3 | exact tk5 | exact tk22 | exact tk42 | exact tk44) (by omega) (by omega) ?_; (first | exact trivial | exact rfl); simp only [St.set, Int.toNat_natCast, List.map_cons, List.map_nil]) | (refine ow_xfld ?_ (fun x hx => by cases hx <;> (rw [hsz]; decide)) rfl rfl (by first | exact tf44_0 | exact tf44_1 | exact tf44_2) (by first | exact tk3 | exact tk5 | exact tk22 | exact tk42 | exact tk44) (by decide) ?_; (first | exact trivial | exact rfl); simp only [St.set, Int.toNat_natCast, List.map_cons, List.map_nil])))
  refine aw_condS rfl (fun hc => ?_) (fun hc => ?_)
  · rcases h with rfl | ⟨b, o, rfl, h⟩
    · simp at hc
      omega
    · have hx' : x < l.length := by omega
      obtain ⟨n, bs, vs, hlv, c0, ⟨a1, n1, p1, c1, r1⟩, ⟨a2, n2, p2, c2, r2⟩⟩ := h x hx'
      have ht := cntVs_take hx'
      have hle := cntVs_le (l := l) (x + 1)
      have hmem : l[x] ∈ l := List.getElem_mem hx'
      rw [hlv] at ht hmem
      rw [totV] at ht
      have hce := cntVs_eq vs
      generalize hK : k + cntVs (l.take x) = K
      have k1 := markB_ck (k := (K : Int) + 1) (l := bs) (by omega) (by omega) C _ r1
      have k2 := H n bs vs hmem ((K : Int) + 1 + bs.length) (by omega) (by omega) C _ r2
      have hfin : (K : Int) + 1 + bs.length + cntVs vs = ((k + cntVs (l.take (x + 1)) : Nat) : Int) := by omega
      (repeat (first | refine walkS ?_ | (refine ow_xlen ?_ (fun x hx => by cases hx <;> (rw [hsz]; decide)) rfl rfl (by first | exact te22 | exact te42) ?_; (first | exact trivial | exact rfl); simp only [St.set, Int.toNat_natCast, List.map_cons, List.map_nil]) | (refine ow_xidx ?_ (fun x hx => by cases hx <;> (rw [hsz]; decide)) rfl rfl rfl (by first | exact te22 | exact te42) (by first | exact tk3 | exact tk5 | exact tk22 | exact tk42 | exact tk44) (by omega) (by omega) ?_; (first | exact trivial | exact rfl); simp only [St.set, Int.toNat_natCast, List.map_cons, List.map_nil]) | (refine ow_xfld ?_ (fun x hx => by cases hx <;> (rw [hsz]; decide)) rfl rfl (by first | exact tf44_0 | exact tf44_1 | exact tf44_2) (by first | exact tk3 | exact tk5 | exact tk22 | exact tk42 | exact tk44) (by decide) ?_; (first | exact trivial | exact rfl); simp only [St.set, Int.toNat_natCast, List.map_cons, List.map_nil]) | (refine ow_xload ?_ (fun x hx => by cases hx <;> (rw [hsz]; decide)) rfl rfl (by first | exact tk3 | exact tk5 | exact tk22 | exact tk42 | exact tk44) hA (by first | exact c0 | exact c1 | exact c2) rfl ?_; (first | exact trivial | exact rfl); simp only [St.set, Int.toNat_natCast, List.map_cons, List.map_nil]) | (refine ow_xstore ?_ rfl rfl rfl rfl (by first | exact tk3 | exact tk5 | exact tk22 | exact tk42 | exact tk44) rfl hZ hA hX (by first | exact c0 | exact c1 | exact c2) rfl ?_; (first | exact trivial | exact rfl)) | (refine ow_xcall ?_ (fun x hx => by cases hx <;> (rw [hsz]; decide)) rfl rfl rfl (k1) hZ hA hX ?_; (first | exact trivial | exact rfl); simp only [St.set, Int.toNat_natCast, List.map_cons, List.map_nil]) | (refine ow_xcall ?_ (fun x hx => by cases hx <;> (rw [hsz]; decide)) rfl rfl rfl (k2) hZ hA hX ?_; (first | exact trivial | exact rfl); simp only [St.set, Int.toNat_natCast, List.map_cons, List.map_nil])))
      rw [hfin]
      refine ⟨x + 1, by omega, by omega, ?_⟩
      exact wkS
  · obtain rfl : x = l.length := by have : x ≤ l.length := hx; omega
    (repeat (first | refine walkS ?_ | (refine ow_xlen ?_ (fun x hx => by cases hx <;> (rw [hsz]; decide)) rfl rfl (by first | exact te22 | exact te42) ?_; (first | exact trivial | exact rfl); simp only [St.set, Int.toNat_natCast, List.map_cons, List.map_nil]) | (refine ow_xidx ?_ (fun x hx => by cases hx <;> (rw [hsz]; decide)) rfl rfl rfl (by first | exact te22 | exact te42) (by first | exact tk3 | exact tk5 | exact tk22 | exact tk42 | exact tk44) (by omega) (by omega) ?_; (first | exact trivial | exact rfl); simp only [St.set, Int.toNat_natCast, List.map_cons, List.map_nil]) | (refine ow_xfld ?_ (fun x hx => by cases hx <;> (rw [hsz]; decide)) rfl rfl (by first | exact tf44_0 | exact tf44_1 | exact tf44_2) (by first | exact tk3 | exact tk5 | exact tk22 | exact tk42 | exact tk44) (by decide) ?_; (first | exact trivial | exact rfl); simp only [St.set, Int.toNat_natCast, List.map_cons, List.map_nil])))
    (refine aw_ret ?_; (simp only [Fin, Try.results84]; refine finS ?_); exact ⟨_, _, .inl ⟨rfl, rfl⟩, List.nodup_nil, (by rw [List.take_length])⟩)
theorem markVs_all : ∀ N : Nat, ∀ {l : List V} {k : Int}, SizeOf.sizeOf l ≤ N → 0 ≤ k → k + cntVs l ≤ 4611686018427387904 → ACK Try.prog 84 (encVL l) k (k + cntVs l)
  | 0, [], _, h, _, _ => by simp at h
  | 0, _ :: _, _, h, _, _ => by simp only [List.cons.sizeOf_spec] at h; omega
  | N + 1, l, k, h, h0, hk => by
    obtain ⟨m, rfl⟩ := Int.eq_ofNat_of_zero_le h0
    exact markVs_of (k := m) (by omega) fun n bs vs hm k h1 h2 => markVs_all N (by have := List.sizeOf_lt_of_mem hm; simp only [V.mk.sizeOf_spec] at this; omega) h1 h2
theorem markVs_ck {l : List V} {k : Int} (h0 : 0 ≤ k) (hk : k + cntVs l ≤ 4611686018427387904) : ACK Try.prog 84 (encVL l) k (k + cntVs l) := markVs_all _ (Nat.le_refl _) h0 hk

set_option maxRecDepth 100000 in
set_option maxHeartbeats 2000000 in
theorem markV_n {v : V} {k : Nat} (hk : k + totV v ≤ 4611686018427387904) : ACK Try.prog 43 (encV v) (k : Nat) ((k : Int) + totV v) := fun C u hr => by
  obtain ⟨n, bs, vs⟩ := v
  rw [encV_mk] at hr
  rw [totV] at hk ⊢
  have hce := cntVs_eq vs
  unfold RepD at hr
  obtain ⟨us, rfl, h1, _⟩ := hr
  unfold RepL at h1
  obtain ⟨u0, us', rfl, e0, h1⟩ := h1
  unfold RepL at h1
  obtain ⟨u1, us', rfl, e1, h1⟩ := h1
  unfold RepL at h1
  obtain ⟨u2, us', rfl, e2, h1⟩ := h1
  unfold RepL at h1
  subst h1
  rw [repD_v] at e0
  have hc1 := markB_ck (k := (k : Int)) (l := bs) (by omega) (by omega) C _ e1
  have hc2 := markVs_ck (k := (k : Int) + bs.length) (l := vs) (by omega) (by omega) C _ e2
  have h1' : ∀ x ∈ [u0, u1, u2], x.oneCell' = true := by
    obtain ⟨a, cap, rfl, _⟩ := row_open (f := fun c : UInt8 => Value.int .u8 c.toNat) e1
    obtain ⟨a, cap, rfl, _⟩ := values_open e2
    subst e0
    intro x hx
    simp only [List.mem_cons, List.not_mem_nil, or_false] at hx
    rcases hx with rfl | rfl | rfl <;> rfl
  have hfin : (k : Int) + bs.length + cntVs vs = (k : Int) + ((bs.length + vs.length + totVs vs : Nat) : Int) := by omega
  refine calls_bodyM Try.func43 rfl Try.call43 Try.ntmps43 (by decide) fun en hsz hks hZ hA hX => ?_; simp only [St.init, frOf, Rz.addSL, Rz.addS, Rz.toAL, Rz.toA, Rz.nk, List.zipIdx_cons, List.zipIdx_nil, List.map_cons, List.map_nil, Nat.zero_add, Nat.reduceAdd]
  refine aw_say 0 (.agg [.v u0, .v u1, .v u2]) rfl (say_agg h1') ?_
  (repeat (first | refine walkS ?_ | (refine ow_xlen ?_ (fun x hx => by cases hx <;> (rw [hsz]; decide)) rfl rfl (by first | exact te22 | exact te42) ?_; (first | exact trivial | exact rfl); simp only [St.set, Int.toNat_natCast, List.map_cons, List.map_nil]) | (refine ow_xidx ?_ (fun x hx => by cases hx <;> (rw [hsz]; decide)) rfl rfl rfl (by first | exact te22 | exact te42) (by first | exact tk3 | exact tk5 | exact tk22 | exact tk42 | exact tk44) (by omega) (by omega) ?_; (first | exact trivial | exact rfl); simp only [St.set, Int.toNat_natCast, List.map_cons, List.map_nil]) | (refine ow_xfld ?_ (fun x hx => by cases hx <;> (rw [hsz]; decide)) rfl rfl (by first | exact tf44_0 | exact tf44_1 | exact tf44_2) (by first | exact tk3 | exact tk5 | exact tk22 | exact tk42 | exact tk44) (by decide) ?_; (first | exact trivial | exact rfl); simp only [St.set, Int.toNat_natCast, List.map_cons, List.map_nil]) | (refine ow_xcall ?_ (fun x hx => by cases hx <;> (rw [hsz]; decide)) rfl rfl rfl (hc1) hZ hA hX ?_; (first | exact trivial | exact rfl); simp only [St.set, Int.toNat_natCast, List.map_cons, List.map_nil]) | (refine ow_xcall ?_ (fun x hx => by cases hx <;> (rw [hsz]; decide)) rfl rfl rfl (hc2) hZ hA hX ?_; (first | exact trivial | exact rfl); simp only [St.set, Int.toNat_natCast, List.map_cons, List.map_nil])))
  rw [hfin]
  (refine aw_ret ?_; (simp only [Fin, Try.results43]; refine finS ?_); exact ⟨_, _, .inl ⟨rfl, rfl⟩, List.nodup_nil, rfl⟩)
theorem markV_m {v : V} {k : Int} (h0 : 0 ≤ k) (hk : k + totV v ≤ 4611686018427387904) : ACM Try.prog 43 (encV v) k (k + totV v) none := by
  obtain ⟨m, rfl⟩ := Int.eq_ofNat_of_zero_le h0
  exact ACK.acm Try.call43 (markV_n (by omega))
/-- A value in new blocks. -/
theorem on_aggV {p : Nat → Prop} {n : Int} {x y : D} (C : CellR) (u : Value) (k : RepD C (.agg [iD n, .iv p x, .iv p y]) u) : RepD (C.on p) (.agg [iD n, x, y]) u :=
  repD_iv.1 (agg_new (p := p) (.cons .v (.cons .iv (.cons .iv .nil))) C u k)
theorem on_agg3 {p q : Nat → Prop} {n : Int} {x y : D} (C : CellR) (u : Value) (k : RepD C (.agg [.iv q (iD n), .iv p x, .iv p y]) u) : RepD (C.on p) (.agg [iD n, x, y]) u := by
  refine on_aggV C u ?_
  unfold RepD at k ⊢
  obtain ⟨us, h1, h2, h3⟩ := k
  refine ⟨us, h1, ?_, h3⟩
  unfold RepL at h2 ⊢
  obtain ⟨u0, us', e0, e1, e2⟩ := h2
  refine ⟨u0, us', e0, ?_, e2⟩
  rw [repD_iv, repD_v] at e1
  rw [repD_v]
  exact e1
theorem repL_iv {C : CellR} {p : Nat → Prop} {x : D} {xs ys : List D} {us : List Value} (h : ∀ us, RepL C xs us → RepL C ys us) (k : RepL C (.iv p x :: xs) us) : RepL C (x :: ys) us := by
  unfold RepL at k ⊢
  obtain ⟨u, us', h1, h2, h3⟩ := k
  exact ⟨u, us', h1, RepD.mono (fun _ _ _ hc => hc.1) _ _ (repD_iv.1 h2), h _ h3⟩
theorem IvL.aggL {cs ds : List D} (hh : ∀ (C : CellR) us, RepL C cs us → RepL C ds us) {xs ys : List A} (h : IvL xs ys) : IvL (.d (.agg cs) :: xs) (.d (.agg ds) :: ys) := fun C bx β us k => by
  unfold RepAL at k ⊢
  obtain ⟨u, us', h1, h2, h3⟩ := k
  refine ⟨u, us', h1, ?_, h _ _ _ _ h3⟩
  unfold RepA at h2 ⊢
  unfold RepD at h2 ⊢
  obtain ⟨vs, e1, e2, e3⟩ := h2
  exact ⟨vs, e1, hh _ _ e2, e3⟩
theorem IvL.agg3 {p q r : Nat → Prop} {x y z : D} {xs ys : List A} (h : IvL xs ys) : IvL (.d (.agg [.iv p x, .iv q y, .iv r z]) :: xs) (.d (.agg [x, y, z]) :: ys) := IvL.aggL (fun _ _ k => repL_iv (fun _ k => repL_iv (fun _ k => repL_iv (fun _ k => k) k) k) k) h
theorem IvL.aggV {p q : Nat → Prop} {n : Int} {x y : D} {xs ys : List A} (h : IvL xs ys) : IvL (.d (.agg [iD n, .iv p x, .iv q y]) :: xs) (.d (.agg [iD n, x, y]) :: ys) := IvL.aggL (fun _ _ k => repL_semv (fun _ k => repL_iv (fun _ k => repL_iv (fun _ k => k) k) k) k) h
theorem AC.ivV {P : Program} {f : FuncId} {xs ys : List A} {bx : Option (List Rz)} {Q : Rz → Option (List Rz) → Prop} (h : AC P f ys bx Q) (k : IvL xs ys := by repeat (first | exact IvL.nil | refine IvL.iv ?_ | refine IvL.agg1 ?_ | refine IvL.aggV ?_ | refine IvL.agg3 ?_ | refine IvL.same ?_)) : AC P f xs bx Q := h.iv k
/-- Results that are read as data: a row of its own, and what is known beside it. -/
theorem AC.ownd2 {P : Program} {f : FuncId} {args : List A} {e : TypeId} {z : Nat} {es : List (List D)} {y : D} (h : AC P f args none fun r _ => r = .tup [.own e z es, .d y]) : AC P f args none fun r _ => r = .d (.tup [.sl z es, y]) :=
  ⟨h.1, fun w C β F0 vs h1 h2 h3 h4 => (h.2 w C β F0 vs h1 h2 h3 h4).mono fun x w' ⟨v, r, bx', C', F, F', he', hq, hb, g1, g2, g3, g4, g5, g6, g7, g8⟩ => by
    subst hq
    cases bx' with
    | some x => simp at hb
    | none =>
      unfold BoxO at g6
      subst g6
      refine ⟨v, .d (.tup [.sl z es, y]), none, C', [], [], he', rfl, rfl, g1, g2, g3, g4, ?_, rfl, by simp [XO], fun b' hb' => by cases hb'⟩
      unfold RepZ at g5 ⊢
      obtain ⟨us, rfl, g5⟩ := g5
      refine ⟨rfl, ?_⟩
      unfold RepZL at g5
      obtain ⟨u, us', F1, F2, rfl, rfl, k1, k2⟩ := g5
      unfold RepZL at k2
      obtain ⟨u2, us2, F3, F4, rfl, rfl, k2, k3⟩ := k2
      unfold RepZL at k3
      obtain ⟨rfl, rfl⟩ := k3
      unfold RepZ at k2
      unfold RepD
      refine ⟨_, rfl, ?_⟩
      unfold RepL
      refine ⟨u, _, rfl, ?_, ?_⟩
      · have hw : wkD (.sl z es) (.own 0 e z es) := by unfold wkD; exact .inr ⟨_, _, _, rfl, dleLL_refl _⟩
        unfold RepZ at k1
        rcases k1 with ⟨rfl, rfl, _⟩ | ⟨b, cp, _, k1, _⟩
        · exact wkD_rep (G := ⟨fun _ => none, fun _ => 0, C'⟩) hw (by unfold RepA RepOwn; exact .inl ⟨rfl, rfl, rfl⟩)
        · exact wkD_rep (G := ⟨fun _ => some b, fun _ => cp, C'⟩) hw (by unfold RepA; exact k1)
      · unfold RepL
        refine ⟨u2, _, rfl, k2.2, ?_⟩
        unfold RepL
        rfl⟩
theorem toValue_d {n : Int} {bs : List UInt8} {vs : List V} (hv : VB 1048576 (.mk n bs vs)) : ACD Try.prog 22 [.d (.agg [iD n, encB bs, .sl 3 (encVs vs)])] (fun m => .agg [iD n, .iv (fun b => m ≤ b) (encB bs), .iv (fun b => m ≤ b) (.sl 3 (encVs vs))]) := by
  have h := (toValue_n hv).acd
  rw [encV_mk] at h
  exact h
end Go.Proofs.Ytmpokibohbhoeaa.Eng
