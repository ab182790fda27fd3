/-
  Migrating, the reference: lists of items.

  Places of tags and names: the program's searches with closures.
-/
import Derived.Test.YtmpokibohbhoeaaKN61
import Derived.Test.YtmpokibohbhoeaaKE5
import Derived.Test.YtmpokibohbhoeaaKE30
import Derived.Test.YtmpokibohbhoeaaKPure17
import Derived.Test.YtmpokibohbhoeaaKE36
import Derived.Test.YtmpokibohbhoeaaKN41
import Derived.Test.YtmpokibohbhoeaaKE4
set_option linter.unusedSimpArgs false
set_option linter.unusedVariables false
set_option linter.defProp false
set_option maxRecDepth 100000
set_option maxHeartbeats 4000000
namespace Go.Proofs.Ytmpokibohbhoeaa.Eng
open Go Go.RowKit

abbrev mgR (z : V × Bool) : Rz := .d (.tup [encV z.1, bD z.2])
def MgS (Da Dz : List RuleD) (f : Nat) : Prop := ∀ (a b : Int) (v : V), 0 ≤ a → a < Da.length → 0 ≤ b → b < Dz.length → a + b < f → VB 1048576 v → validV Da a v = true →
  AC Try.prog 125 [.d (encD Da), .d (iD a), .d (encD Dz), .d (iD b), .d (encV v)] none (fun r' _ => r' = mgR (mig Da Dz f a b v))
private def tyF := And.intro (And.intro (And.intro (And.intro (And.intro (And.intro tb22 te106) (And.intro te107 te22)) (And.intro (And.intro te24 te42) (And.intro tf109_0 tf109_1))) (And.intro (And.intro (And.intro tf109_2 tf109_3) (And.intro tf109_4 tf109_5)) (And.intro (And.intro tf109_6 tf109_7) (And.intro tf26_0 (And.intro tf44_0 tf44_1))))) (And.intro (And.intro (And.intro (And.intro tf44_2 tk106) (And.intro tk107 tk109)) (And.intro (And.intro tk165 tk22) (And.intro tk24 (And.intro tk26 tk3)))) (And.intro (And.intro (And.intro tk4 tk42) (And.intro tk44 tk5)) (And.intro (And.intro tk9 tp109) (And.intro tp26 (And.intro tp44 tr106)))))) (And.intro (And.intro (And.intro (And.intro (And.intro tr107 tr109) (And.intro tr165 tr22)) (And.intro (And.intro tr24 tr26) (And.intro tr3 tr4))) (And.intro (And.intro (And.intro tr42 tr44) (And.intro tr5 tr9)) (And.intro (And.intro tu106 tu107) (And.intro tu165 (And.intro tu22 tu24))))) (And.intro (And.intro (And.intro (And.intro tu3 tu4) (And.intro tu42 tu5)) (And.intro (And.intro tu9 tz106) (And.intro tz107 (And.intro tz109 tz165)))) (And.intro (And.intro (And.intro tz22 tz24) (And.intro tz26 tz3)) (And.intro (And.intro tz4 tz42) (And.intro tz44 (And.intro tz5 tz9))))))
theorem text_c (k : Int) : AC Try.prog 166 [.d (iD k)] none (fun r' _ => r' = .d (bD (isTx k))) := by
  by_cases h4 : k = 4
  · have e4 : (k == 4) = true := by simpa using h4
    refine calls_body Try.func166 rfl Try.call166 Try.ntmps166 (by simp) (by simp [ArgsOk]) (by simp [Rz.nkL, Rz.nk]) fun en hsz hks hk0 => ?_; refine enS ?_
    (repeat (first | refine ctlS ?_ | (refine ol_go ?_ (fun K1 hK1 => ?_); (first | exact trivial | exact rfl); refine evS ?_; (try simp only [e4]); refine hK1 _ _ ?_; clear hK1 K1) | (refine ow_go ?_ (fun x hx => by cases hx <;> (rw [hsz]; decide)) (fun K1 hK1 => ?_); (first | exact trivial | exact rfl); refine evS ?_; (try simp only [e4]); refine hK1 _ ?_; clear hK1 K1) | refine skipS ?_))
    (refine aw_ret ?_; (simp only [Fin, Try.results166]; refine finS ?_); exact ⟨_, _, .inl ⟨rfl, rfl⟩, List.nodup_nil, by rw [isTx, decide_eq_true h4]; rfl⟩)
  · have e4 : (k == 4) = false := by simpa using h4
    refine calls_body Try.func166 rfl Try.call166 Try.ntmps166 (by simp) (by simp [ArgsOk]) (by simp [Rz.nkL, Rz.nk]) fun en hsz hks hk0 => ?_; refine enS ?_
    (repeat (first | refine ctlS ?_ | (refine ol_go ?_ (fun K1 hK1 => ?_); (first | exact trivial | exact rfl); refine evS ?_; (try simp only [e4]); refine hK1 _ _ ?_; clear hK1 K1) | (refine ow_go ?_ (fun x hx => by cases hx <;> (rw [hsz]; decide)) (fun K1 hK1 => ?_); (first | exact trivial | exact rfl); refine evS ?_; (try simp only [e4]); refine hK1 _ ?_; clear hK1 K1) | refine skipS ?_))
    (refine aw_ret ?_; (simp only [Fin, Try.results166]; refine finS ?_); exact ⟨_, _, .inl ⟨rfl, rfl⟩, List.nodup_nil, by rw [isTx, decide_eq_false h4, Bool.false_or]; rfl⟩)
theorem same_o (k : Int) {n : Nat} (hn : n ≤ 1048576) : AC Try.prog 188 [.d (iD k), .d (iD (n : Nat))] none (fun r' _ => r' = .own 3 1 ((List.replicate n k).map fun c => [iD c])) := by
  refine calls_body Try.func188 rfl Try.call188 Try.ntmps188 (by simp) (by simp [ArgsOk]) (by simp [Rz.nkL, Rz.nk]) fun en hsz hks hk0 => ?_; refine enS ?_
  refine walkS ?_
  refine aw_loopS [0, 1, 4] (fun κ s' => [(κ, keyOf (s'.f 5))]) (fun κ x => [(6, .d (iD (x.1 : Nat))), (5, .own κ 3 1 (x.2.map fun c => [iD c]))]) [] (fun _ _ => []) [16] (fun κ x => [(κ, some (x.2.length, 3, 1))]) (fun x : Nat × List Int => x.1 ≤ n ∧ x.2 = List.replicate x.1 k) (fun x => n - x.1) ((0, [])) hks (fun _ => rfl) ⟨Nat.zero_le _, rfl⟩ wkS ?_; intro x hx; refine headS ?_
  obtain ⟨j, acc⟩ := x
  simp only at hx ⊢
  obtain ⟨hx1, hx2⟩ := hx
  have hlen : acc.length = j := by rw [hx2, List.length_replicate]
  refine walkS ?_
  refine aw_condS rfl (fun hk => ?_) (fun hk => ?_)
  · refine walkS ?_
    refine ⟨(j + 1, acc ++ [k]), ⟨by simp only; omega, by simp only; rw [hx2, List.replicate_succ']⟩, by simp only; omega, ?_⟩
    exact wkS
  · obtain rfl : j = n := by omega
    subst hx2
    refine walkS ?_
    (refine aw_ret ?_; (simp only [Fin, Try.results188]; refine finS ?_); exact ⟨_, _, .inl (toZ_own (by simp [lk, St.mem])), by simp, rfl⟩)
theorem same_c (k : Int) {n : Nat} (hn : n ≤ 1048576) : AC Try.prog 188 [.d (iD k), .d (iD (n : Nat))] none (fun r' _ => r' = .d (encI (List.replicate n k))) := (same_o k hn).ownd
section
variable {M : Nat} {Da Dz : List RuleD}
theorem list_c {f : Nat} (H : MgS Da Dz f) {la lb : List Int} {vs : List V} (ha : la.length = vs.length) (hb : lb.length = vs.length) (hl : vs.length ≤ 1048576) (hv : VBs 1048576 vs)
    (hg : ∀ i (hi : i < vs.length), (0 ≤ la.getD i 0 ∧ la.getD i 0 < Da.length) ∧ (0 ≤ lb.getD i 0 ∧ lb.getD i 0 < Dz.length) ∧ la.getD i 0 + lb.getD i 0 < f ∧ validV Da (la.getD i 0) vs[i] = true) :
    AC Try.prog 187 [.d (encD Da), .d (encI la), .d (encD Dz), .d (encI lb), .d (.sl 3 (encVs vs))] none (fun r' _ => r' = .d (.tup [.sl 3 (encVs (allM (fun i => mig Da Dz f (la.getD i 0) (lb.getD i 0) (vs.getD i V0)) vs.length 0).1), bD (allM (fun i => mig Da Dz f (la.getD i 0) (lb.getD i 0) (vs.getD i V0)) vs.length 0).2])) := by
  rw [encVs_eq vs]
  generalize hZ : allM (fun i => mig Da Dz f (la.getD i 0) (lb.getD i 0) (vs.getD i V0)) vs.length 0 = Z
  refine calls_body Try.func187 rfl Try.call187 Try.ntmps187 (by simp) (by simp [ArgsOk]) (by simp [Rz.nkL, Rz.nk]) fun en hsz hks hk0 => ?_; refine enS ?_
  refine walkS ?_
  refine aw_loopS [1, 3, 4, 5, 7, 10, 11] (fun κ s' => [(κ, keyOf (s'.f 12))]) (fun κ x => [(13, .d (iD (x.1 : Nat))), (12, .own κ 44 3 (encVs x.2))]) [] (fun _ _ => []) [48] (fun κ x => [(κ, some (x.2.length, 44, 3))]) (fun x : Nat × List V => x.1 ≤ vs.length ∧ x.2.length = x.1 ∧ Z = joinM x.2 (allM (fun i => mig Da Dz f (la.getD i 0) (lb.getD i 0) (vs.getD i V0)) (vs.length - x.1) x.1)) (fun x => vs.length - x.1) ((0, [])) hks (fun _ => rfl) ⟨Nat.zero_le _, rfl, by rw [joinM_nil]; exact hZ.symm⟩ wkS ?_; intro x hx; refine headS ?_
  obtain ⟨k, out⟩ := x
  simp only at hx ⊢
  obtain ⟨hx1, hx2, hx3⟩ := hx
  refine walkS ?_
  refine aw_condS rfl (fun hk => ?_) (fun hk => ?_)
  · have hkl : k < vs.length := by omega
    obtain ⟨g1, g2, g3, g4⟩ := hg k hkl
    have i1 : la[k]? = some (la.getD k 0) := by rw [List.getElem?_eq_getElem (by omega)]; simp [List.getD, show k < la.length by omega]
    have i2 : lb[k]? = some (lb.getD k 0) := by rw [List.getElem?_eq_getElem (by omega)]; simp [List.getD, show k < lb.length by omega]
    have i3 : vs.getD k V0 = vs[k] := by simp [List.getD, hkl]
    have HM := H _ _ _ g1.1 g1.2 g2.1 g2.2 g3 (hv.el _ (List.getElem_mem hkl)) g4
    rw [show vs.length - k = (vs.length - (k + 1)) + 1 by omega] at hx3
    have jo := joinM_ok (g := fun i => mig Da Dz f (la.getD i 0) (lb.getD i 0) (vs.getD i V0)) (out := out) (c := vs.length - (k + 1)) (i := k)
    have jb := joinM_bad (g := fun i => mig Da Dz f (la.getD i 0) (lb.getD i 0) (vs.getD i V0)) (out := out) (c := vs.length - (k + 1)) (i := k)
    simp only [i3] at jo jb
    generalize la.getD k 0 = a0 at *
    generalize lb.getD k 0 = b0 at *
    generalize mig Da Dz f a0 b0 vs[k] = z at *
    obtain ⟨w, ok⟩ := z
    cases ok with
    | false =>
      rw [jb rfl] at hx3
      (repeat (first | refine walkS ?_ | (refine callPre ?_; (first | refine callN_funS rfl (HM) ?_)) | (refine callPreL ?_; (first | refine callL_funS rfl (HM) ?_))))
      refine aw_condS rfl (fun hc => ?_) (fun hc => ?_)
      · refine walkS ?_
        (refine aw_ret ?_; (simp only [Fin, Try.results187]; refine finS ?_); refine ⟨_, [], .inr (.inl ⟨.tup [.sl 3 (encVs out), bD false], rfl, rfl, ?_⟩), List.nodup_nil, by rw [hx3]⟩; exact wkDS)
      · (first | exact absurd trivial hc | exact absurd rfl hc | (cases hc; done) | omega | exact absurd hc (by decide) | (simp at hc; done))
    | true =>
      rw [jo rfl] at hx3
      (repeat (first | refine walkS ?_ | (refine callPre ?_; (first | refine callN_funS rfl (HM) ?_)) | (refine callPreL ?_; (first | refine callL_funS rfl (HM) ?_))))
      refine aw_condS rfl (fun hc => ?_) (fun hc => ?_)
      · (first | exact absurd trivial hc | exact absurd rfl hc | (cases hc; done) | omega | exact absurd hc (by decide) | (simp at hc; done))
      · refine walkS ?_
        refine ⟨(k + 1, out ++ [w]), ⟨by simp only; omega, by simp [hx2], hx3⟩, by simp only; omega, ?_⟩
        exact wkS
  · rw [show vs.length - k = 0 by omega, joinM_0] at hx3
    refine walkS ?_
    (refine aw_ret ?_; (simp only [Fin, Try.results187]; refine finS ?_); refine ⟨_, [], .inr (.inl ⟨.tup [.sl 3 (encVs out), bD true], rfl, rfl, ?_⟩), List.nodup_nil, by rw [hx3]⟩; exact wkDS)
end
end Go.Proofs.Ytmpokibohbhoeaa.Eng
namespace Go.Proofs.Ytmpokibohbhoeaa.Eng
open Go Go.RowKit

def ixO (o : Option Nat) : Int := match o with | some k => (k : Int) | none => -1
theorem nameIx_hit {l : List ByteArray} {n : ByteArray} {k : Nat} (hk : k < l.length) (he : l[k] = n) (h : ∀ j (hj : j < l.length), j < k → l[j] ≠ n) : nameIx l n = some k := by
  unfold nameIx
  rw [List.findIdx?_eq_some_iff_getElem]
  exact ⟨hk, by simp [he], fun j hj => by simpa using h j (by omega) hj⟩
theorem nameIx_none {l : List ByteArray} {n : ByteArray} (h : ∀ j (hj : j < l.length), l[j] ≠ n) : nameIx l n = none := by
  unfold nameIx
  rw [List.findIdx?_eq_none_iff]
  intro x hx
  obtain ⟨j, hj, rfl⟩ := List.getElem_of_mem hx
  simpa using h j hj
theorem tagIx_no {l : List Int} {n : Int} (h : ∀ j (hj : j < l.length), l[j] ≠ n) : tagIx l n = none := by
  unfold tagIx
  rw [List.findIdx?_eq_none_iff]
  intro x hx
  obtain ⟨j, hj, rfl⟩ := List.getElem_of_mem hx
  simpa using h j hj
theorem tagIx1_c (t n : Int) : AC Try.prog 196 [.d (iD t), .d (.rp [iD n])] none (fun r' _ => r' = .d (bD (decide (t = n)))) := by
  refine calls_body Try.func196 rfl Try.call196 Try.ntmps196 (by simp) (by simp [ArgsOk]) (by simp [Rz.nkL, Rz.nk]) fun en hsz hks hk0 => ?_; refine enS ?_
  refine walkS ?_
  (refine aw_ret ?_; (simp only [Fin, Try.results196]; refine finS ?_); exact ⟨_, _, .inl ⟨rfl, rfl⟩, List.nodup_nil, rfl⟩)
theorem nameIx1_c (t n : ByteArray) : AC Try.prog 194 [.d (sD t), .d (.rp [sD n])] none (fun r' _ => r' = .d (bD (decide (t = n)))) := by
  refine calls_body Try.func194 rfl Try.call194 Try.ntmps194 (by simp) (by simp [ArgsOk]) (by simp [Rz.nkL, Rz.nk]) fun en hsz hks hk0 => ?_; refine enS ?_
  refine walkS ?_
  (refine aw_ret ?_; (simp only [Fin, Try.results194]; refine finS ?_); exact ⟨_, _, .inl ⟨rfl, rfl⟩, List.nodup_nil, rfl⟩)
theorem ixInt_c {l : List Int} (hl : l.length ≤ 1048576) (n : Int) : AC Try.prog 195 [.d (encI l), .clo 196 [] [.d (.rp [iD n])]] none (fun r' _ => r' = .d (iD (ixO (tagIx l n)))) := by
  refine calls_body Try.func195 rfl Try.call195 Try.ntmps195 (by simp) (by simp [ArgsOk]) (by simp [Rz.nkL, Rz.nk]) fun en hsz hks hk0 => ?_; refine enS ?_
  refine walkS ?_
  refine aw_loopS [1, 4, 7, 8] (fun _ _ => []) (fun _ k => [(9, .d (iD (k : Nat)))]) [] (fun _ _ => []) [] (fun _ _ => []) (fun k => k ≤ l.length ∧ ∀ j (h : j < l.length), j < k → l[j] ≠ n) (fun k => l.length - k) (0) hks (fun _ => rfl) ⟨Nat.zero_le _, fun _ _ h => absurd h (Nat.not_lt_zero _)⟩ wkS ?_; intro x hx; refine headS ?_
  obtain ⟨hx1, hx2⟩ := hx
  refine walkS ?_
  refine aw_condS rfl (fun hk => ?_) (fun hk => ?_)
  · have hxl : x < l.length := by omega
    have i1 : l[x]? = some l[x] := List.getElem?_eq_getElem hxl
    have HH := tagIx1_c l[x] n
    by_cases he : l[x] = n
    · rw [decide_eq_true he] at HH
      (repeat (first | refine walkS ?_ | (refine callPre ?_; (first | refine callN_funS rfl (HH) ?_)) | (refine callPreL ?_; (first | refine callL_funS rfl (HH) ?_)) | (refine callPreV ?_; (first | refine callN_funS rfl (HH) ?_))))
      refine aw_condS rfl (fun hc => ?_) (fun hc => ?_)
      · refine walkS ?_
        (refine aw_ret ?_; (simp only [Fin, Try.results195]; refine finS ?_); exact ⟨_, _, .inl ⟨rfl, rfl⟩, List.nodup_nil, by rw [tagIx_hit hxl he hx2]; rfl⟩)
      · (first | exact absurd trivial hc | exact absurd rfl hc | (cases hc; done) | omega | exact absurd hc (by decide) | (simp at hc; done))
    · rw [decide_eq_false he] at HH
      (repeat (first | refine walkS ?_ | (refine callPre ?_; (first | refine callN_funS rfl (HH) ?_)) | (refine callPreL ?_; (first | refine callL_funS rfl (HH) ?_)) | (refine callPreV ?_; (first | refine callN_funS rfl (HH) ?_))))
      refine aw_condS rfl (fun hc => ?_) (fun hc => ?_)
      · (first | exact absurd trivial hc | exact absurd rfl hc | (cases hc; done) | omega | exact absurd hc (by decide) | (simp at hc; done))
      · refine walkS ?_
        refine ⟨x + 1, ⟨by omega, fun j h1 h2 => ?_⟩, by omega, ?_⟩
        · by_cases e : j = x
          · subst e; exact he
          · exact hx2 j h1 (by omega)
        exact wkS
  · refine walkS ?_
    (refine aw_ret ?_; (simp only [Fin, Try.results195]; refine finS ?_); exact ⟨_, _, .inl ⟨rfl, rfl⟩, List.nodup_nil, by rw [tagIx_no fun j hj => hx2 j hj (by omega)]; rfl⟩)
theorem ixStr_c {l : List ByteArray} (hl : l.length ≤ 1048576) (n : ByteArray) : AC Try.prog 193 [.d (encS l), .clo 194 [] [.d (.rp [sD n])]] none (fun r' _ => r' = .d (iD (ixO (nameIx l n)))) := by
  refine calls_body Try.func193 rfl Try.call193 Try.ntmps193 (by simp) (by simp [ArgsOk]) (by simp [Rz.nkL, Rz.nk]) fun en hsz hks hk0 => ?_; refine enS ?_
  refine walkS ?_
  refine aw_loopS [1, 4, 7, 8] (fun _ _ => []) (fun _ k => [(9, .d (iD (k : Nat)))]) [] (fun _ _ => []) [] (fun _ _ => []) (fun k => k ≤ l.length ∧ ∀ j (h : j < l.length), j < k → l[j] ≠ n) (fun k => l.length - k) (0) hks (fun _ => rfl) ⟨Nat.zero_le _, fun _ _ h => absurd h (Nat.not_lt_zero _)⟩ wkS ?_; intro x hx; refine headS ?_
  obtain ⟨hx1, hx2⟩ := hx
  refine walkS ?_
  refine aw_condS rfl (fun hk => ?_) (fun hk => ?_)
  · have hxl : x < l.length := by omega
    have i1 : l[x]? = some l[x] := List.getElem?_eq_getElem hxl
    have HH := nameIx1_c l[x] n
    by_cases he : l[x] = n
    · rw [decide_eq_true he] at HH
      (repeat (first | refine walkS ?_ | (refine callPre ?_; (first | refine callN_funS rfl (HH) ?_)) | (refine callPreL ?_; (first | refine callL_funS rfl (HH) ?_)) | (refine callPreV ?_; (first | refine callN_funS rfl (HH) ?_))))
      refine aw_condS rfl (fun hc => ?_) (fun hc => ?_)
      · refine walkS ?_
        (refine aw_ret ?_; (simp only [Fin, Try.results193]; refine finS ?_); exact ⟨_, _, .inl ⟨rfl, rfl⟩, List.nodup_nil, by rw [nameIx_hit hxl he hx2]; rfl⟩)
      · (first | exact absurd trivial hc | exact absurd rfl hc | (cases hc; done) | omega | exact absurd hc (by decide) | (simp at hc; done))
    · rw [decide_eq_false he] at HH
      (repeat (first | refine walkS ?_ | (refine callPre ?_; (first | refine callN_funS rfl (HH) ?_)) | (refine callPreL ?_; (first | refine callL_funS rfl (HH) ?_)) | (refine callPreV ?_; (first | refine callN_funS rfl (HH) ?_))))
      refine aw_condS rfl (fun hc => ?_) (fun hc => ?_)
      · (first | exact absurd trivial hc | exact absurd rfl hc | (cases hc; done) | omega | exact absurd hc (by decide) | (simp at hc; done))
      · refine walkS ?_
        refine ⟨x + 1, ⟨by omega, fun j h1 h2 => ?_⟩, by omega, ?_⟩
        · by_cases e : j = x
          · subst e; exact he
          · exact hx2 j h1 (by omega)
        exact wkS
  · refine walkS ?_
    (refine aw_ret ?_; (simp only [Fin, Try.results193]; refine finS ?_); exact ⟨_, _, .inl ⟨rfl, rfl⟩, List.nodup_nil, by rw [nameIx_none fun j hj => hx2 j hj (by omega)]; rfl⟩)
section
variable {M : Nat} {D : List RuleD}
theorem tagIndex_c {r : RuleD} (hr : RB M r) (hM : M ≤ 1048576) (n : Int) : AC Try.prog 191 [.d (encR r), .d (iD n)] none (fun r' _ => r' = .d (iD (ixO (tagIx r.tags n)))) := by
  have hlt := hr.lt
  have HI := ixInt_c (l := r.tags) (by omega) n
  refine calls_body Try.func191 rfl Try.call191 Try.ntmps191 (by simp) (by simp [ArgsOk]) (by simp [Rz.nkL, Rz.nk]) fun en hsz hks hk0 => ?_; refine enS ?_
  (iterate 6 (first | refine aw_seq ?_ | refine aw_region ?_ | refine aw_block ?_ | (refine aw_exit ?_; (try simp (decide := true) only [reduceIte])) | (refine aw_skip ?_; try dsimp only) | (refine aw_any (by kernel_rfl) (by kernel_rfl) (by simp only [hsz]; kernel_rfl) ?_) | (refine ow_nil ?_; try dsimp only) | (refine ol_go ?_ (fun K1 hK1 => ?_); (first | exact trivial | exact rfl); refine evS ?_; refine hK1 _ _ ?_; clear hK1 K1) | (refine ol_skip rfl rfl ?_ ?_; (focus (intro hne; cases hne; done)); simp only [St.set]) | (refine ol_nil ⟨by kernel_rfl, ?_⟩; try dsimp only) | (refine ow_go ?_ (fun x hx => by cases hx <;> (rw [hsz]; decide)) (fun K1 hK1 => ?_); (first | exact trivial | exact rfl); refine evS ?_; refine hK1 _ ?_; clear hK1 K1) | (refine ow_skip rfl rfl ?_ (fun x hx => by cases hx <;> (rw [hsz]; decide)) ?_; (focus (intro hne; cases hne; done)); simp only [St.set])))
  refine aw_freezeB 3 32 [iD n] rfl rfl hks (by decide) ?_
  (repeat (first | refine walkS ?_ | (refine callPre ?_; (first | refine callN_funS rfl (HI) ?_)) | (refine callPreL ?_; (first | refine callL_funS rfl (HI) ?_))))
  (refine aw_ret ?_; (simp only [Fin, Try.results191]; refine finS ?_); exact ⟨_, _, .inl ⟨rfl, rfl⟩, List.nodup_nil, rfl⟩)
end
end Go.Proofs.Ytmpokibohbhoeaa.Eng
