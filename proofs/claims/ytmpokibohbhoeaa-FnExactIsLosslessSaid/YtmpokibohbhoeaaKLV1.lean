/-
  The laws' helpers: values.
-/
import Derived.Test.YtmpokibohbhoeaaKL
import Derived.Test.YtmpokibohbhoeaaKP2
set_option linter.unusedSimpArgs false
set_option linter.unusedVariables false
set_option linter.defProp false
set_option maxRecDepth 100000
set_option maxHeartbeats 4000000
namespace Go.Proofs.Ytmpokibohbhoeaa.Eng
open Go Go.RowKit

abbrev encVL (vs : List V) : D := .sl 3 (encVs vs)
def encVcI (p : Nat → Prop) : V → List D
  | .mk n bs vs => [iD n, .iv p (encB bs), .iv p (encVL vs)]
theorem encVcI_on (p : Nat → Prop) : ∀ v : V, OnSL p (encVcI p v) (encVc v)
  | .mk _ _ _ => .cons .v (.cons .iv (.cons .iv .nil))
theorem encVcI_len (p : Nat → Prop) : ∀ v : V, (encVcI p v).length = 3
  | .mk _ _ _ => rfl
theorem encVcI_anti : ∀ v : V, ∀ m n, m ≤ n → ∀ (C : CellR) u, RepD C (.agg (encVcI (fun b => n ≤ b) v)) u → RepD C (.agg (encVcI (fun b => m ≤ b) v)) u
  | .mk _ _ _ => anti_agg fun m n hmn C us k => repL_semv (fun _ k => repL_semi hmn (fun _ k => repL_semi hmn (fun _ k => k) k) k) k
theorem cells1_VI (p : Nat → Prop) (v : V) : cells1 (.d (.agg (encVcI p v))) = some ((encVcI p v).map .d) := rfl

private def tyF := And.intro (And.intro (And.intro (And.intro (And.intro tb22 te22) (And.intro te35 (And.intro te42 tf37_0))) (And.intro (And.intro tf37_1 tf37_2) (And.intro tf44_0 (And.intro tf44_1 tf44_2)))) (And.intro (And.intro (And.intro tk22 tk3) (And.intro tk35 (And.intro tk37 tk42))) (And.intro (And.intro tk44 tk5) (And.intro tp37 (And.intro tp44 tr22))))) (And.intro (And.intro (And.intro (And.intro tr3 tr35) (And.intro tr37 (And.intro tr42 tr44))) (And.intro (And.intro tr5 tu22) (And.intro tu3 (And.intro tu35 tu42)))) (And.intro (And.intro (And.intro tu5 tz22) (And.intro tz3 (And.intro tz35 tz37))) (And.intro (And.intro tz42 tz44) (And.intro tz5 (And.intro cells1_VI encVcI_len)))))
theorem toValueS_of {l : List V} (hl : l.length ≤ 1048576) (H : ∀ v ∈ l, ACN Try.prog 22 [.d (encV v)] (fun n => .agg (encVcI (fun b => n ≤ b) v))) : ACI Try.prog 65 [.d (encVL l)] (encVL l) := by
  have hel := encVs_len l
  unfold encVL
  rw [encVs_eq]
  refine calls_bodyI Try.func65 rfl Try.call65 Try.ntmps65 (by simp) (by simp [ArgsOk]) fun en hsz hcok hX hks => ?_; refine enS ?_
  obtain ⟨Z, hZl, h0⟩ : ∃ Z : List D, Z.length = 3 ∧ List.map A.d (List.replicate l.length [D.v (Value.int IntKind.i64 0), D.v (Value.slice none 0 0), D.v (Value.slice none 0 0)]).flatten = arrC (encVcI (fun b => en.w.heap.size ≤ b)) Z l 0 := ⟨[D.v (Value.int IntKind.i64 0), D.v (Value.slice none 0 0), D.v (Value.slice none 0 0)], rfl, arrC_0.symm⟩
  (repeat (first | refine walkS ?_ | (refine ow_make ?_ (fun x hx => by cases hx <;> (rw [hsz]; decide)) rfl rfl ?_ te42 tr44 tz44 ?_; (first | exact trivial | exact rfl); omega; simp only [St.set, List.map_cons, List.map_nil, Nat.reduceAdd])))
  rw [h0]
  refine aw_loopS [0, 2, 3] (fun _ _ => []) (fun _ k => [(4, .d (iD (k : Nat)))]) [16] (fun _ k => [(16, some (arrC (encVcI (fun b => en.w.heap.size ≤ b)) Z l k))]) [] (fun _ _ => []) (fun k => k ≤ l.length) (fun k => l.length - k) (0) hks (fun _ => rfl) (Nat.zero_le _) wkS ?_; intro x hx; refine headS ?_
  (repeat (first | refine walkS ?_ | (refine ow_make ?_ (fun x hx => by cases hx <;> (rw [hsz]; decide)) rfl rfl ?_ te42 tr44 tz44 ?_; (first | exact trivial | exact rfl); omega; simp only [St.set, List.map_cons, List.map_nil, Nat.reduceAdd])))
  refine aw_condS rfl (fun hk => ?_) (fun hk => ?_)
  · have hz3 : ∀ x ∈ l, (encVcI (fun b => en.w.heap.size ≤ b) x).length = 3 := fun x _ => encVcI_len _ x
    have hA := arrC_len (f := encVcI (fun b => en.w.heap.size ≤ b)) (zero := Z) (l := l) (k := x) (z := 3) hz3 hZl hx
    have hB : splice (arrC (encVcI (fun b => en.w.heap.size ≤ b)) Z l x) ((encVcI (fun b => en.w.heap.size ≤ b) (l[x]'(by omega))).map .d) (x * 3) = arrC (encVcI (fun b => en.w.heap.size ≤ b)) Z l (x + 1) := arrC_step (f := encVcI (fun b => en.w.heap.size ≤ b)) (zero := Z) (z := 3) hz3 hZl (show x < l.length by omega)
    have hrx := H (l[x]'(by omega)) (List.getElem_mem _)
    have hanti := encVcI_anti (l[x]'(by omega))
    (repeat (first | refine ctlS ?_ | (refine ol_go ?_ (fun K1 hK1 => ?_); (first | exact trivial | exact rfl); refine evS ?_; (try rw [hB]); refine hK1 _ _ ?_; clear hK1 K1) | (refine ow_go ?_ (fun x hx => by cases hx <;> (rw [hsz]; decide)) (fun K1 hK1 => ?_); (first | exact trivial | exact rfl); refine evS ?_; (try rw [hB]); refine hK1 _ ?_; clear hK1 K1) | refine skipS ?_ | (refine ow_make ?_ (fun x hx => by cases hx <;> (rw [hsz]; decide)) rfl rfl ?_ te42 tr44 tz44 ?_; (first | exact trivial | exact rfl); omega; simp only [St.set, List.map_cons, List.map_nil, Nat.reduceAdd]) | (refine ow_callFA ?_ (fun x hx => by cases hx <;> (rw [hsz]; decide)) rfl (hrx) ?_; (first | exact trivial | exact rfl); simp only [St.set, List.map_cons, List.map_nil])))
    refine ⟨x + 1, by omega, by omega, ?_⟩
    exact wkS
  · have hx' : x = l.length := by omega
    subst hx'
    (repeat (first | refine walkS ?_ | (refine ow_make ?_ (fun x hx => by cases hx <;> (rw [hsz]; decide)) rfl rfl ?_ te42 tr44 tz44 ?_; (first | exact trivial | exact rfl); omega; simp only [St.set, List.map_cons, List.map_nil, Nat.reduceAdd])))
    refine aw_freezeY (.iv (fun b => en.w.heap.size ≤ b) (.sl 3 (l.map encVc))) 2 16 3 l.length (l.map (encVcI (fun b => en.w.heap.size ≤ b))) rfl (by rw [← arrC_all (zero := Z)]; rfl) (by simp) (by simp [encVcI_len]) hks (by decide) (freeze_new hX fun a => encVcI_on _ a) ?_
    (refine aw_ret ?_; (simp only [Fin, Try.results65]; refine finS ?_); exact ⟨_, _, .inl ⟨rfl, rfl⟩, List.nodup_nil, rfl⟩)
theorem toValue_of {n : Int} {bs : List UInt8} {vs : List V} (hb : bs.length ≤ 1048576) (hv : vs.length ≤ 1048576) (H : ∀ v ∈ vs, ACN Try.prog 22 [.d (encV v)] (fun n => .agg (encVcI (fun b => n ≤ b) v))) : ACN Try.prog 22 [.d (encV (.mk n bs vs))] (fun n' => .agg (encVcI (fun b => n' ≤ b) (.mk n bs vs))) := by
  have HS := toValueS_of hv H
  rw [encV_mk]
  refine calls_bodyI Try.func22 rfl Try.call22 Try.ntmps22 (by simp) (by simp [ArgsOk]) fun en hsz hcok hX hks => ?_; refine enS ?_
  (repeat (first | refine walkS ?_ | (refine ow_callFA ?_ (fun x hx => by cases hx <;> (rw [hsz]; decide)) rfl (toByteS_i hb) ?_; (first | exact trivial | exact rfl); simp only [St.set, List.map_cons, List.map_nil]) | (refine ow_callFA ?_ (fun x hx => by cases hx <;> (rw [hsz]; decide)) rfl (HS) ?_; (first | exact trivial | exact rfl); simp only [St.set, List.map_cons, List.map_nil])))
  (refine aw_ret ?_; (simp only [Fin, Try.results22]; refine finS ?_); exact ⟨_, _, .inl ⟨rfl, rfl⟩, List.nodup_nil, rfl⟩)
theorem toValue_all : ∀ N : Nat, ∀ {v : V}, SizeOf.sizeOf v ≤ N → VB 1048576 v → ACN Try.prog 22 [.d (encV v)] (fun n => .agg (encVcI (fun b => n ≤ b) v))
  | 0, .mk n bs vs, h, _ => by simp only [V.mk.sizeOf_spec] at h; omega
  | N + 1, .mk n bs vs, h, hv => by
    unfold VB at hv
    exact toValue_of hv.1 hv.2.1 fun v hvm => toValue_all N (by have := List.sizeOf_lt_of_mem hvm; simp only [V.mk.sizeOf_spec] at h; omega) (hv.2.2.el v hvm)
theorem toValue_n {v : V} (hv : VB 1048576 v) : ACN Try.prog 22 [.d (encV v)] (fun n => .agg (encVcI (fun b => n ≤ b) v)) := toValue_all _ (Nat.le_refl _) hv
theorem toValue_c {v : V} (hv : VB 1048576 v) : AC Try.prog 22 [.d (encV v)] none (fun r' _ => r' = .d (encV v)) := (toValue_n hv).sem fun n C u k => RepD.mono (fun _ _ _ hc => hc.1) _ _ (repD_iv.1 (agg_new (encVcI_on _ v) _ _ k))
end Go.Proofs.Ytmpokibohbhoeaa.Eng
