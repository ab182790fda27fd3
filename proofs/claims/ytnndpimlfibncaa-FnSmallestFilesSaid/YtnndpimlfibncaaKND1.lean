/-
  Draws: numbers, bytes, texts.
-/
import Derived.Test.YtnndpimlfibncaaKTy
import Derived.Test.YtnndpimlfibncaaKN0
import Derived.Test.YtnndpimlfibncaaKPD
import Derived.Test.YtnndpimlfibncaaKE30
import Derived.Test.YtnndpimlfibncaaKE4
import Derived.Test.YtnndpimlfibncaaKE38
set_option linter.unusedSimpArgs false
set_option linter.unusedVariables false
set_option linter.defProp false
set_option maxRecDepth 100000
set_option maxHeartbeats 4000000
namespace Go.Proofs.Ytnndpimlfibncaa.Eng
open Go Go.RowKit

abbrev curP (p : Nat → Prop) (c : Cur) : List Eng.D := [.iv p (encB c.b), iD c.i, iD c.h]
abbrev drwQ (p : Nat → Prop) (x : Eng.D) (c : Cur) : Rz → Option (List Rz) → Prop := fun r b => r = .d x ∧ b = some ((curP p c).map .d)
abbrev drwO (p : Nat → Prop) (l : List UInt8) (c : Cur) : Rz → Option (List Rz) → Prop := fun r b => r = .own 5 1 (rowB l) ∧ b = some ((curP p c).map .d)
section
variable {p : Nat → Prop}
private def tyF := And.intro (And.intro (And.intro (And.intro (And.intro tb22 te22) (And.intro te60 te61)) (And.intro (And.intro tf100_0 tf100_1) (And.intro tf100_2 (And.intro tk100 tk22)))) (And.intro (And.intro (And.intro tk3 tk5) (And.intro tk60 (And.intro tk61 tk73))) (And.intro (And.intro tk9 tp100) (And.intro tr100 (And.intro tr22 tr3))))) (And.intro (And.intro (And.intro (And.intro tr5 tr60) (And.intro tr61 (And.intro tr73 tr9))) (And.intro (And.intro tu22 tu3) (And.intro tu5 (And.intro tu60 tu61)))) (And.intro (And.intro (And.intro tu73 tu9) (And.intro tz100 (And.intro tz22 tz3))) (And.intro (And.intro tz5 tz60) (And.intro tz61 (And.intro tz73 tz9)))))
theorem by1_c (c : Cur) (hb : c.b.length ≤ 1048576) : AC Try.prog 124 [.ptr 0 0] (some ((curP p c).map .d)) (drwQ p (iD (by1 c).1) (by1 c).2) := by
  obtain ⟨B, i, h⟩ := c
  simp only at hb
  refine calls_body Try.func124 rfl Try.call124 Try.ntmps124 (by simp) (by simp [ArgsOk]) (by simp [Rz.nkL, Rz.nk]) fun en hsz hks hk0 => ?_; refine enS ?_
  refine walkS ?_
  refine aw_condS rfl (fun hc => ?_) (fun hc => ?_)
  · have hi : i < B.length := by omega
    have i1 : B[i]? = some B[i] := getE? hi
    have e1 : IntKind.i64.wrap ((B[i].toNat : Nat) : Int) = (B[i].toNat : Int) := wrap_small (by omega) (by have := B[i].toNat_lt; omega)
    refine walkS ?_
    (refine aw_ret ?_; (simp only [Fin, Try.results124]; refine finS ?_); exact ⟨_, [], .inl ⟨rfl, rfl⟩, _, ([.iv p (encB B), iD ((i : Int) + 1), iD (stepH h)] : List Eng.D).map .d, [], rfl, toZL_d _ ([.iv p (encB B), iD ((i : Int) + 1), iD (stepH h)]), by simp, by rw [by1_hit hi, mix_raw, e1]; rfl, by rw [by1_hit hi]; rfl⟩)
  · have hi : ¬ i < B.length := by omega
    refine walkS ?_
    (refine aw_ret ?_; (simp only [Fin, Try.results124]; refine finS ?_); exact ⟨_, [], .inl ⟨rfl, rfl⟩, _, ([.iv p (encB B), iD (i : Int), iD (stepH h)] : List Eng.D).map .d, [], rfl, toZL_d _ ([.iv p (encB B), iD (i : Int), iD (stepH h)]), by simp, by rw [by1_no hi]; rfl, by rw [by1_no hi]⟩)
theorem bel_c (c : Cur) (hb : c.b.length ≤ 1048576) (n : Int) : AC Try.prog 76 [.ptr 0 0, .d (iD n)] (some ((curP p c).map .d)) (drwQ p (iD (bel c n).1) (bel c n).2) := by
  have g1 := by1_in c
  have g2 := by1_in (by1 c).2
  have g3 := by1_in (by1 (by1 c).2).2
  have c1 := by1_c (p := p) c hb
  have c2 := by1_c (p := p) (by1 c).2 (by rw [by1_b]; exact hb)
  have c3 := by1_c (p := p) (by1 (by1 c).2).2 (by rw [by1_b, by1_b]; exact hb)
  refine calls_body Try.func76 rfl Try.call76 Try.ntmps76 (by simp) (by simp [ArgsOk]) (by simp [Rz.nkL, Rz.nk]) fun en hsz hks hk0 => ?_; refine enS ?_
  refine walkS ?_
  refine aw_condS rfl (fun h0 => ?_) (fun h0 => ?_)
  · refine walkS ?_
    (refine aw_ret ?_; (simp only [Fin, Try.results76]; refine finS ?_); exact ⟨_, [], .inl ⟨rfl, rfl⟩, _, (curP p c : List Eng.D).map .d, [], rfl, toZL_d _ (curP p c), by simp, by rw [bel, if_pos h0], by rw [bel, if_pos h0]⟩)
  refine walkS ?_
  refine aw_condS rfl (fun h1 => ?_) (fun h1 => ?_)
  · (repeat (first | refine walkS ?_ | (refine ol_call1r (k := 0) ?_ rfl (c1) rfl rfl ⟨0, List.mem_cons_self⟩ ?_; (first | exact trivial | exact rfl); simp only [St.set, List.map_cons, List.map_nil, Nat.reduceAdd, Nat.reduceMul]) | (refine ow_call1d (k := 0) ?_ (fun x hx => by cases hx <;> (rw [hsz]; decide)) rfl (c1) rfl rfl ?_; (first | exact trivial | exact rfl); simp only [St.set, List.map_cons, List.map_nil, Nat.reduceAdd]) | (refine ol_call1d (k := 0) ?_ rfl (c1) rfl rfl ⟨0, List.mem_cons_self⟩ ?_; (first | exact trivial | exact rfl); simp only [St.set, List.map_cons, List.map_nil, Nat.reduceAdd])))
    (refine aw_ret ?_; (simp only [Fin, Try.results76]; refine finS ?_); exact ⟨_, [], .inl ⟨rfl, rfl⟩, _, (curP p (by1 c).2 : List Eng.D).map .d, [], rfl, toZL_d _ (curP p (by1 c).2), by simp, by rw [bel, if_neg h0, if_pos h1], by rw [bel, if_neg h0, if_pos h1]⟩)
  · (repeat (first | refine walkS ?_ | (refine ol_call1r (k := 0) ?_ rfl (c1) rfl rfl ⟨0, List.mem_cons_self⟩ ?_; (first | exact trivial | exact rfl); simp only [St.set, List.map_cons, List.map_nil, Nat.reduceAdd, Nat.reduceMul]) | (refine ow_call1d (k := 0) ?_ (fun x hx => by cases hx <;> (rw [hsz]; decide)) rfl (c1) rfl rfl ?_; (first | exact trivial | exact rfl); simp only [St.set, List.map_cons, List.map_nil, Nat.reduceAdd]) | (refine ol_call1d (k := 0) ?_ rfl (c1) rfl rfl ⟨0, List.mem_cons_self⟩ ?_; (first | exact trivial | exact rfl); simp only [St.set, List.map_cons, List.map_nil, Nat.reduceAdd]) | (refine ol_call1r (k := 0) ?_ rfl (c2) rfl rfl ⟨0, List.mem_cons_self⟩ ?_; (first | exact trivial | exact rfl); simp only [St.set, List.map_cons, List.map_nil, Nat.reduceAdd, Nat.reduceMul]) | (refine ow_call1d (k := 0) ?_ (fun x hx => by cases hx <;> (rw [hsz]; decide)) rfl (c2) rfl rfl ?_; (first | exact trivial | exact rfl); simp only [St.set, List.map_cons, List.map_nil, Nat.reduceAdd]) | (refine ol_call1d (k := 0) ?_ rfl (c2) rfl rfl ⟨0, List.mem_cons_self⟩ ?_; (first | exact trivial | exact rfl); simp only [St.set, List.map_cons, List.map_nil, Nat.reduceAdd]) | (refine ol_call1r (k := 0) ?_ rfl (c3) rfl rfl ⟨0, List.mem_cons_self⟩ ?_; (first | exact trivial | exact rfl); simp only [St.set, List.map_cons, List.map_nil, Nat.reduceAdd, Nat.reduceMul]) | (refine ow_call1d (k := 0) ?_ (fun x hx => by cases hx <;> (rw [hsz]; decide)) rfl (c3) rfl rfl ?_; (first | exact trivial | exact rfl); simp only [St.set, List.map_cons, List.map_nil, Nat.reduceAdd]) | (refine ol_call1d (k := 0) ?_ rfl (c3) rfl rfl ⟨0, List.mem_cons_self⟩ ?_; (first | exact trivial | exact rfl); simp only [St.set, List.map_cons, List.map_nil, Nat.reduceAdd])))
    (refine aw_ret ?_; (simp only [Fin, Try.results76]; refine finS ?_); exact ⟨_, [], .inl ⟨rfl, rfl⟩, _, (curP p (by1 (by1 (by1 c).2).2).2 : List Eng.D).map .d, [], rfl, toZL_d _ (curP p (by1 (by1 (by1 c).2).2).2), by simp, by rw [bel, if_neg h0, if_neg h1], by rw [bel, if_neg h0, if_neg h1]⟩)
theorem once_c (c : Cur) (hb : c.b.length ≤ 1048576) (n : Int) : AC Try.prog 77 [.ptr 0 0, .d (iD n)] (some ((curP p c).map .d)) (drwQ p (bD (once c n).1) (once c n).2) := by
  have c1 := bel_c (p := p) c hb n
  refine calls_body Try.func77 rfl Try.call77 Try.ntmps77 (by simp) (by simp [ArgsOk]) (by simp [Rz.nkL, Rz.nk]) fun en hsz hks hk0 => ?_; refine enS ?_
  (repeat (first | refine walkS ?_ | (refine ol_call1r (k := 0) ?_ rfl (c1) rfl rfl ⟨0, List.mem_cons_self⟩ ?_; (first | exact trivial | exact rfl); simp only [St.set, List.map_cons, List.map_nil, Nat.reduceAdd, Nat.reduceMul]) | (refine ow_call1d (k := 0) ?_ (fun x hx => by cases hx <;> (rw [hsz]; decide)) rfl (c1) rfl rfl ?_; (first | exact trivial | exact rfl); simp only [St.set, List.map_cons, List.map_nil, Nat.reduceAdd]) | (refine ol_call1d (k := 0) ?_ rfl (c1) rfl rfl ⟨0, List.mem_cons_self⟩ ?_; (first | exact trivial | exact rfl); simp only [St.set, List.map_cons, List.map_nil, Nat.reduceAdd])))
  (refine aw_ret ?_; (simp only [Fin, Try.results77]; refine finS ?_); exact ⟨_, [], .inl ⟨rfl, rfl⟩, _, (curP p (bel c n).2 : List Eng.D).map .d, [], rfl, toZL_d _ (curP p (bel c n).2), by simp, rfl, rfl⟩)
theorem pickI_c (c : Cur) (hb : c.b.length ≤ 1048576) {l : List Int} (hl : 0 < l.length) (hm : l.length ≤ 1048576) : AC Try.prog 123 [.ptr 0 0, .d (encI l)] (some ((curP p c).map .d)) (drwQ p (iD (pickI c l).1) (pickI c l).2) := by
  have c1 := bel_c (p := p) c hb l.length
  have i1 := pickI_get c hl
  have g1 := bel_in c (n := l.length) (by omega)
  refine calls_body Try.func123 rfl Try.call123 Try.ntmps123 (by simp) (by simp [ArgsOk]) (by simp [Rz.nkL, Rz.nk]) fun en hsz hks hk0 => ?_; refine enS ?_
  (repeat (first | refine walkS ?_ | (refine ol_call1r (k := 0) ?_ rfl (c1) rfl rfl ⟨0, List.mem_cons_self⟩ ?_; (first | exact trivial | exact rfl); simp only [St.set, List.map_cons, List.map_nil, Nat.reduceAdd, Nat.reduceMul]) | (refine ow_call1d (k := 0) ?_ (fun x hx => by cases hx <;> (rw [hsz]; decide)) rfl (c1) rfl rfl ?_; (first | exact trivial | exact rfl); simp only [St.set, List.map_cons, List.map_nil, Nat.reduceAdd]) | (refine ol_call1d (k := 0) ?_ rfl (c1) rfl rfl ⟨0, List.mem_cons_self⟩ ?_; (first | exact trivial | exact rfl); simp only [St.set, List.map_cons, List.map_nil, Nat.reduceAdd])))
  (refine aw_ret ?_; (simp only [Fin, Try.results123]; refine finS ?_); exact ⟨_, [], .inl ⟨rfl, rfl⟩, _, (curP p (bel c l.length).2 : List Eng.D).map .d, [], rfl, toZL_d _ (curP p (bel c l.length).2), by simp, rfl, rfl⟩)
theorem pickT_c (c : Cur) (hb : c.b.length ≤ 1048576) {l : List ByteArray} (hl : 0 < l.length) (hm : l.length ≤ 1048576) : AC Try.prog 122 [.ptr 0 0, .d (encS l)] (some ((curP p c).map .d)) (drwQ p (sD (pickT c l).1) (pickT c l).2) := by
  have c1 := bel_c (p := p) c hb l.length
  have i1 := pickT_get c hl
  have g1 := bel_in c (n := l.length) (by omega)
  refine calls_body Try.func122 rfl Try.call122 Try.ntmps122 (by simp) (by simp [ArgsOk]) (by simp [Rz.nkL, Rz.nk]) fun en hsz hks hk0 => ?_; refine enS ?_
  (repeat (first | refine walkS ?_ | (refine ol_call1r (k := 0) ?_ rfl (c1) rfl rfl ⟨0, List.mem_cons_self⟩ ?_; (first | exact trivial | exact rfl); simp only [St.set, List.map_cons, List.map_nil, Nat.reduceAdd, Nat.reduceMul]) | (refine ow_call1d (k := 0) ?_ (fun x hx => by cases hx <;> (rw [hsz]; decide)) rfl (c1) rfl rfl ?_; (first | exact trivial | exact rfl); simp only [St.set, List.map_cons, List.map_nil, Nat.reduceAdd]) | (refine ol_call1d (k := 0) ?_ rfl (c1) rfl rfl ⟨0, List.mem_cons_self⟩ ?_; (first | exact trivial | exact rfl); simp only [St.set, List.map_cons, List.map_nil, Nat.reduceAdd])))
  (refine aw_ret ?_; (simp only [Fin, Try.results122]; refine finS ?_); exact ⟨_, [], .inl ⟨rfl, rfl⟩, _, (curP p (bel c l.length).2 : List Eng.D).map .d, [], rfl, toZL_d _ (curP p (bel c l.length).2), by simp, rfl, rfl⟩)
theorem u8_draw {n : Int} (h : 0 ≤ n ∧ n ≤ 255) : IntKind.u8.wrap n = ((UInt8.ofNat n.toNat).toNat : Int) := by
  have h1 : IntKind.u8.wrap n = n % 256 := by simp [IntKind.wrap, IntKind.bits, IntKind.signed]
  rw [h1, UInt8.toNat_ofNat']
  omega
theorem bysC_c (c : Cur) (hb : c.b.length ≤ 1048576) {n : Nat} (hn : n ≤ 1048576) : AC Try.prog 111 [.ptr 0 0, .d (iD n)] (some ((curP p c).map .d)) (drwQ p (encB (bysC n c).1) (bysC n c).2) := by
  refine calls_body Try.func111 rfl Try.call111 Try.ntmps111 (by simp) (by simp [ArgsOk]) (by simp [Rz.nkL, Rz.nk]) fun en hsz hks hk0 => ?_; refine enS ?_
  refine walkS ?_
  refine aw_loopS [0, 1, 4] (fun κ s' => [(κ, keyOf (s'.f 5))]) (fun κ x => [(6, .d (iD (x.1 : Nat))), (5, .own κ 5 1 (x.2.1.map fun c => [uD c]))]) [0] (fun κ x => [(0, some ((curP p x.2.2).map .d))]) [32] (fun κ x => [(κ, some (x.2.1.length, 5, 1))]) (fun x : Nat × List UInt8 × Cur => x.1 ≤ n ∧ x.2 = bysC x.1 c) (fun x => n - x.1) ((0, [], c)) hks (fun _ => rfl) ⟨Nat.zero_le _, rfl⟩ wkS ?_; intro x hx; refine headS ?_
  obtain ⟨x, y⟩ := x
  simp only at hx ⊢
  obtain ⟨hx, rfl⟩ := hx
  have hl := bysC_len c x
  have g1 := by1_in (bysC x c).2
  have e1 := u8_draw g1
  have c1 := by1_c (p := p) (bysC x c).2 (by rw [bysC_b]; exact hb)
  refine walkS ?_
  refine aw_condS rfl (fun hc => ?_) (fun hc => ?_)
  · (repeat (first | refine ctlS ?_ | (refine ol_go ?_ (fun K1 hK1 => ?_); (first | exact trivial | exact rfl); refine evS ?_; (try simp only [e1]); refine hK1 _ _ ?_; clear hK1 K1) | (refine ow_go ?_ (fun x hx => by cases hx <;> (rw [hsz]; decide)) (fun K1 hK1 => ?_); (first | exact trivial | exact rfl); refine evS ?_; (try simp only [e1]); refine hK1 _ ?_; clear hK1 K1) | refine skipS ?_ | (refine ol_call1r (k := 0) ?_ rfl (c1) rfl rfl ⟨0, List.mem_cons_self⟩ ?_; (first | exact trivial | exact rfl); simp only [St.set, List.map_cons, List.map_nil, Nat.reduceAdd, Nat.reduceMul]) | (refine ow_call1d (k := 0) ?_ (fun x hx => by cases hx <;> (rw [hsz]; decide)) rfl (c1) rfl rfl ?_; (first | exact trivial | exact rfl); simp only [St.set, List.map_cons, List.map_nil, Nat.reduceAdd]) | (refine ol_call1d (k := 0) ?_ rfl (c1) rfl rfl ⟨0, List.mem_cons_self⟩ ?_; (first | exact trivial | exact rfl); simp only [St.set, List.map_cons, List.map_nil, Nat.reduceAdd])))
    refine ⟨(x + 1, bysC (x + 1) c), ⟨by simp only; omega, rfl⟩, by simp only; omega, ?_⟩
    rw [bysC]
    exact wkS
  · obtain rfl : x = n := by omega
    refine walkS ?_
    (refine aw_ret ?_; (simp only [Fin, Try.results111]; refine finS ?_); refine ⟨_, [], .inr (.inl ⟨encB (bysC x c).1, rfl, rfl, ?_⟩), _, (curP p (bysC x c).2 : List Eng.D).map .d, [], rfl, toZL_d _ (curP p (bysC x c).2), by simp, rfl, rfl⟩; exact wkDS2)
end
end Go.Proofs.Ytnndpimlfibncaa.Eng
