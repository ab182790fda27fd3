/-
  Migrating, the program: between rules of one kind.
-/
import Derived.Test.YtmpokibohbhoeaaKN67
set_option linter.unusedSimpArgs false
set_option linter.unusedVariables false
set_option linter.defProp false
set_option maxRecDepth 100000
set_option maxHeartbeats 4000000
namespace Go.Proofs.Ytmpokibohbhoeaa.Eng
open Go Go.RowKit

theorem flat1 {α : Type} (f : α → D) (l : List α) : (l.map fun c => [f c]).flatten = l.map f := by
  induction l with
  | nil => rfl
  | cons x l ih => simp [ih]
theorem copy_cells (bs : List UInt8) (sz : Nat) : splice (((List.replicate sz [D.v (.int .u8 0)]).flatten).map A.d) (((bs.map fun c => [uD c]).take (Nat.min bs.length sz)).flatten.map A.d) 0 = (((fixB bs sz).map fun c => [uD c]).flatten).map A.d := by
  have h0 : (List.replicate sz [D.v (.int .u8 0)]).flatten = (List.replicate sz (0 : UInt8)).map uD := by
    rw [← flat1, List.map_replicate]; rfl
  rw [show Nat.min bs.length sz = min bs.length sz from rfl, h0, ← List.map_take, flat1, flat1]
  have h1 : bs.take (min bs.length sz) = bs.take sz := by
    rw [List.take_eq_take_iff]
    omega
  have h2 : (bs.take sz).length = min sz bs.length := List.length_take
  have h3 : ((List.replicate sz (0 : UInt8)).map uD).map A.d = List.replicate sz (A.d (uD 0)) := by simp
  have h4 : ((List.replicate (sz - bs.length) (0 : UInt8)).map uD).map A.d = List.replicate (sz - bs.length) (A.d (uD 0)) := by simp
  unfold splice fixB
  rw [h3, h1]
  simp only [List.take_zero, List.nil_append, List.length_map, h2, Nat.zero_add, List.map_append, h4, List.drop_replicate]
  rw [show sz - min sz bs.length = sz - bs.length by omega]
section
variable {M : Nat} {Da Dz : List RuleD} {f : Nat}
private def tyF := And.intro (And.intro (And.intro (And.intro (And.intro (And.intro tb22 te106) (And.intro te107 (And.intro te22 te24))) (And.intro (And.intro te42 tf109_0) (And.intro tf109_1 (And.intro tf109_2 tf109_3)))) (And.intro (And.intro (And.intro tf109_4 tf109_5) (And.intro tf109_6 (And.intro tf109_7 tf138_0))) (And.intro (And.intro tf138_1 tf26_0) (And.intro tf44_0 (And.intro tf44_1 tf44_2))))) (And.intro (And.intro (And.intro (And.intro tk106 tk107) (And.intro tk109 (And.intro tk136 tk138))) (And.intro (And.intro tk22 tk24) (And.intro tk26 (And.intro tk3 tk4)))) (And.intro (And.intro (And.intro tk42 tk44) (And.intro tk5 (And.intro tk9 tk99))) (And.intro (And.intro tp109 tp138) (And.intro tp26 (And.intro tp44 tr106)))))) (And.intro (And.intro (And.intro (And.intro (And.intro tr107 tr109) (And.intro tr136 (And.intro tr138 tr22))) (And.intro (And.intro tr24 tr26) (And.intro tr3 (And.intro tr4 tr42)))) (And.intro (And.intro (And.intro tr44 tr5) (And.intro tr9 (And.intro tr99 tu106))) (And.intro (And.intro tu107 tu136) (And.intro tu22 (And.intro tu24 tu3))))) (And.intro (And.intro (And.intro (And.intro tu4 tu42) (And.intro tu5 (And.intro tu9 tu99))) (And.intro (And.intro tz106 tz107) (And.intro tz109 (And.intro tz136 tz138)))) (And.intro (And.intro (And.intro tz22 tz24) (And.intro tz26 (And.intro tz3 tz4))) (And.intro (And.intro tz42 tz44) (And.intro tz5 (And.intro tz9 tz99))))))
theorem holds_c (k : Int) : AC Try.prog 168 [.d (iD k)] none (fun r' _ => r' = .d (bD (isTx k))) := by
  by_cases h4 : k = 4
  · have e4 : (k == 4) = true := by simpa using h4
    refine calls_body Try.func168 rfl Try.call168 Try.ntmps168 (by simp) (by simp [ArgsOk]) (by simp [Rz.nkL, Rz.nk]) fun en hsz hks hk0 => ?_; refine enS ?_
    (repeat (first | refine ctlS ?_ | (refine ol_go ?_ (fun K1 hK1 => ?_); (first | exact trivial | exact rfl); refine evS ?_; (try simp only [e4]); refine hK1 _ _ ?_; clear hK1 K1) | (refine ow_go ?_ (fun x hx => by cases hx <;> (rw [hsz]; decide)) (fun K1 hK1 => ?_); (first | exact trivial | exact rfl); refine evS ?_; (try simp only [e4]); refine hK1 _ ?_; clear hK1 K1) | refine skipS ?_))
    (refine aw_ret ?_; (simp only [Fin, Try.results168]; refine finS ?_); exact ⟨_, _, .inl ⟨rfl, rfl⟩, List.nodup_nil, by rw [isTx, decide_eq_true h4]; rfl⟩)
  · have e4 : (k == 4) = false := by simpa using h4
    refine calls_body Try.func168 rfl Try.call168 Try.ntmps168 (by simp) (by simp [ArgsOk]) (by simp [Rz.nkL, Rz.nk]) fun en hsz hks hk0 => ?_; refine enS ?_
    (repeat (first | refine ctlS ?_ | (refine ol_go ?_ (fun K1 hK1 => ?_); (first | exact trivial | exact rfl); refine evS ?_; (try simp only [e4]); refine hK1 _ _ ?_; clear hK1 K1) | (refine ow_go ?_ (fun x hx => by cases hx <;> (rw [hsz]; decide)) (fun K1 hK1 => ?_); (first | exact trivial | exact rfl); refine evS ?_; (try simp only [e4]); refine hK1 _ ?_; clear hK1 K1) | refine skipS ?_))
    (refine aw_ret ?_; (simp only [Fin, Try.results168]; refine finS ?_); exact ⟨_, _, .inl ⟨rfl, rfl⟩, List.nodup_nil, by rw [isTx, decide_eq_false h4, Bool.false_or]; rfl⟩)
theorem sameI_c (hDa : DB M Da) (hDz : DB M Dz) (hM : M ≤ 1048576) (hVa : descP Da) (hVz : descP Dz) (H : MgI Da Dz f) {ia iz : Nat} {p q : RuleD} (hp : Da[ia]? = some p) (hq : Dz[iz]? = some q) (hpq : p.kind = q.kind) (hf : ia + iz < f + 1)
    {n : Int} {bs : List UInt8} {vs : List V} (hv : VB 1048576 (.mk n bs vs)) (hval : validV Da ia (.mk n bs vs) = true) :
    AC Try.prog 167 [.d (.rp [encDs Da, encDs Dz]), .d (encR p), .d (encR q), .d (iD (iz : Nat)), .d (.rp (encVc (.mk n bs vs)))] none (fun r' _ => r' = mgR (sameM (mig Da Dz f) Dz iz p q n bs vs)) := by
  have hpb := hDa.rule p (List.mem_of_getElem? hp)
  have hqb := hDz.rule q (List.mem_of_getElem? hq)
  have Gp : GoodR Da ia p := good_of hVa hp
  have Gq : GoodR Dz iz q := good_of hVz hq
  have hia : ia < Da.length := (List.getElem?_eq_some_iff.1 hp).1
  have hiz : iz < Dz.length := (List.getElem?_eq_some_iff.1 hq).1
  unfold VB at hv
  obtain ⟨hv1, hv2, hv3⟩ := hv
  rw [validV, ruleD_get hp, Bool.and_eq_true] at hval
  obtain ⟨hown, hits⟩ := hval
  have hitem : ∀ k (hk : k < vs.length), validV Da (itemK p n k) vs[k] = true := fun k hk => by
    have := validVs_at hits hk
    rw [Nat.zero_add] at this
    exact this
  have LH : ∀ (ka kb : Int), (∀ k (hk : k < vs.length), itemK p n k = ka) → (0 ≤ kb ∧ kb < iz) → (0 ≤ ka ∧ ka < ia) → AC Try.prog 189 [.d (.rp [encDs Da, encDs Dz]), .d (iD ka), .d (iD kb), .d (.rp (encVc (.mk n bs vs)))] none (fun r' _ => r' = mgR (okM (allM (fun i => mig Da Dz f ka kb (vs.getD i V0)) vs.length 0))) := fun ka kb h1 h2 h3 =>
    itemsM_c H ka kb n bs hv2 hv3 fun i hi => by
      have h4 := hitem i hi
      rw [h1 i hi] at h4
      exact ⟨by omega, by omega, by omega, h4⟩
  have S6 : q.kind = 6 → AC Try.prog 190 [.d (.rp [encDs Da, encDs Dz]), .d (encR p), .d (encR q), .d (.rp (encVc (.mk n bs vs)))] none (fun r' _ => r' = mgR (okM (allM (partM (mig Da Dz f) Dz p q vs) q.names.length 0))) := fun h6 => by
    obtain ⟨a1, _⟩ := seq_names hVa hp (by omega)
    obtain ⟨b1, _⟩ := seq_names hVz hq h6
    have hvl : vs.length = p.kids.length := by
      rw [ownV_6 (by omega)] at hown
      simp only [decide_eq_true_eq] at hown
      omega
    refine partsM_c hDz hM hVz H hpb hqb a1 b1 (fun i hi => ?_) n bs hvl hv3 fun i j hi hj hiv => ?_
    · have := Gq.kid i hi; omega
    · have g1 := Gp.kid i hi
      have g2 := Gq.kid j hj
      have h3 := hitem i hiv
      rw [itemK_6 (by omega) hi] at h3
      exact ⟨by omega, by omega, h3⟩
  rw [encVc_mk, encVs_eq] at S6 ⊢
  simp only [encVc_mk, encVs_eq] at LH
  unfold sameM
  refine calls_body Try.func167 rfl Try.call167 Try.ntmps167 (by simp) (by simp [ArgsOk]) (by simp [Rz.nkL, Rz.nk]) fun en hsz hks hk0 => ?_; refine enS ?_
  (repeat (first | refine walkS ?_ | (refine ow_make ?_ (fun x hx => by cases hx <;> (rw [hsz]; decide)) rfl rfl ?_ te22 tr5 tz5 ?_; (first | exact trivial | exact rfl); omega; simp only [St.set, List.map_cons, List.map_nil, Nat.reduceAdd])))
  refine aw_condS rfl (fun h2 => ?_) (fun h2 => ?_)
  · rw [if_pos h2]
    (repeat (first | refine walkS ?_ | (refine ow_make ?_ (fun x hx => by cases hx <;> (rw [hsz]; decide)) rfl rfl ?_ te22 tr5 tz5 ?_; (first | exact trivial | exact rfl); omega; simp only [St.set, List.map_cons, List.map_nil, Nat.reduceAdd])))
    (refine aw_ret ?_; (simp only [Fin, Try.results167]; refine finS ?_); refine ⟨_, [], .inr (.inl ⟨.tup [encV V0, bD true], rfl, rfl, ?_⟩), List.nodup_nil, rfl⟩; exact wkDS)
  rw [if_neg h2]
  (repeat (first | refine walkS ?_ | (refine ow_make ?_ (fun x hx => by cases hx <;> (rw [hsz]; decide)) rfl rfl ?_ te22 tr5 tz5 ?_; (first | exact trivial | exact rfl); omega; simp only [St.set, List.map_cons, List.map_nil, Nat.reduceAdd])))
  refine aw_condS rfl (fun h1 => ?_) (fun h1 => ?_)
  · rw [if_pos h1]
    (repeat (first | refine walkS ?_ | (refine ow_make ?_ (fun x hx => by cases hx <;> (rw [hsz]; decide)) rfl rfl ?_ te22 tr5 tz5 ?_; (first | exact trivial | exact rfl); omega; simp only [St.set, List.map_cons, List.map_nil, Nat.reduceAdd]) | (refine callPre ?_; (first | refine callN_funS rfl (limI_c hDz hM iz) ?_)) | (refine callPreL ?_; (first | refine callL_funS rfl (limI_c hDz hM iz) ?_))))
    (refine aw_ret ?_; (simp only [Fin, Try.results167]; refine finS ?_); refine ⟨_, [], .inr (.inl ⟨.tup [encV (.mk n [] []), bD (decide (n ≤ limD Dz iz))], rfl, rfl, ?_⟩), List.nodup_nil, rfl⟩; exact wkDS)
  rw [if_neg h1]
  refine walkS ?_
  refine aw_condS rfl (fun h3 => ?_) (fun h3 => ?_)
  · have hs := Gq.k3 h3
    have hsp := Gp.k3 (by omega)
    obtain ⟨sz, hsz'⟩ : ∃ sz : Nat, q.size = sz := ⟨q.size.toNat, by omega⟩
    have hbl : 1 ≤ bs.length := by
      rw [ownV_3 (by omega)] at hown
      simp only [decide_eq_true_eq] at hown
      omega
    rw [if_pos h3]
    simp only [hsz', Int.toNat_natCast]
    refine walkS ?_
    (first | (refine ow_make ?_ (fun x hx => by cases hx <;> (rw [hsz]; decide)) rfl rfl ?_ te22 tr5 tz5 ?_; (first | exact trivial | exact rfl); omega; simp only [St.set, List.map_cons, List.map_nil, Nat.reduceAdd]))
    refine walkS ?_
    refine ow_copy (k := 64) (n := sz) (es := bs.map fun c => [uD c]) ?_ (fun x hx => by cases hx <;> (rw [hsz]; decide)) rfl rfl rfl (by intro h; have := congrArg List.length h; simp at this; rw [this] at hbl; simp at hbl) rfl (by simp) te22 tr5 ?_
    · first | exact trivial | exact rfl
    simp only [St.set, List.length_map]
    refine ow_freezeA (encB (fixB bs sz)) 12 64 1 sz ((fixB bs sz).map fun c => [uD c]) rfl rfl (by rw [← copy_cells]; rfl) (by simp [fixB_len]) (by simp) hks (by decide) ?_
    refine walkS ?_
    (refine aw_ret ?_; (simp only [Fin, Try.results167]; refine finS ?_); refine ⟨_, [], .inr (.inl ⟨.tup [encV (.mk 0 (fixB bs sz) []), bD true], rfl, rfl, ?_⟩), List.nodup_nil, rfl⟩; exact wkDS)
  rw [if_neg h3]
  refine walkS ?_
  refine aw_condS rfl (fun h5 => ?_) (fun h5 => ?_)
  · have k5p := Gp.k5 (by omega)
    have k5q := Gq.k5 h5
    have hk1p := kids1 (r := p) (by omega)
    have hk1q := kids1 (r := q) (by omega)
    have g1p := Gp.kid 1 (by omega)
    have g1q := Gq.kid 1 (by omega)
    rw [show p.kids[1] = kid1 p by rw [List.getElem?_eq_getElem (by omega)] at hk1p; exact Option.some.inj hk1p] at g1p
    rw [show q.kids[1] = kid1 q by rw [List.getElem?_eq_getElem (by omega)] at hk1q; exact Option.some.inj hk1q] at g1q
    have HL := LH (kid1 p) (kid1 q) (fun k hk => itemK_5 (by omega)) g1q g1p
    rw [if_pos h5]
    generalize okM (allM (fun i => mig Da Dz f (kid1 p) (kid1 q) (vs.getD i V0)) vs.length 0) = z at HL
    obtain ⟨w, ok⟩ := z
    (repeat (first | refine walkS ?_ | (refine ow_make ?_ (fun x hx => by cases hx <;> (rw [hsz]; decide)) rfl rfl ?_ te22 tr5 tz5 ?_; (first | exact trivial | exact rfl); omega; simp only [St.set, List.map_cons, List.map_nil, Nat.reduceAdd]) | (refine callPre ?_; (first | refine callN_funS rfl (HL) ?_)) | (refine callPreL ?_; (first | refine callL_funS rfl (HL) ?_))))
    (refine aw_ret ?_; (simp only [Fin, Try.results167]; refine finS ?_); refine ⟨_, [], .inr (.inl ⟨.tup [encV w, bD ok], rfl, rfl, ?_⟩), List.nodup_nil, rfl⟩; exact wkDS)
  rw [if_neg h5]
  have E89 : q.kind = 8 ∨ q.kind = 9 → p.kids[0]? = some (kid0 p) ∧ q.kids[0]? = some (kid0 q) ∧ AC Try.prog 189 [.d (.rp [encDs Da, encDs Dz]), .d (iD (kid0 p)), .d (iD (kid0 q)), .d (.rp [iD n, encB bs, .sl 3 (vs.map encVc)])] none (fun r' _ => r' = mgR (okM (allM (fun i => mig Da Dz f (kid0 p) (kid0 q) (vs.getD i V0)) vs.length 0))) := fun h => by
    have lq : 0 < q.kids.length := by rcases h with h | h; (have := Gq.k8 h; omega); (have := Gq.k9 h; omega)
    have lp : 0 < p.kids.length := by rcases h with h | h; (have := Gp.k8 (by omega); omega); (have := Gp.k9 (by omega); omega)
    have hk0p := kids0 (r := p) (by omega)
    have hk0q := kids0 (r := q) (by omega)
    have g1p := Gp.kid 0 lp
    have g1q := Gq.kid 0 lq
    rw [show p.kids[0] = kid0 p by have e := hk0p; rw [List.getElem?_eq_getElem lp] at e; exact Option.some.inj e] at g1p
    rw [show q.kids[0] = kid0 q by have e := hk0q; rw [List.getElem?_eq_getElem lq] at e; exact Option.some.inj e] at g1q
    exact ⟨hk0p, hk0q, LH (kid0 p) (kid0 q) (fun k hk => itemK_8 (by omega)) g1q g1p⟩
  refine walkS ?_
  refine aw_condS rfl (fun h8 => ?_) (fun h8 => ?_)
  · obtain ⟨hk0p, hk0q, HL⟩ := E89 (.inl h8)
    rw [if_pos (.inl h8)]
    generalize okM (allM (fun i => mig Da Dz f (kid0 p) (kid0 q) (vs.getD i V0)) vs.length 0) = z at HL
    obtain ⟨w, ok⟩ := z
    refine walkS ?_
    refine aw_condS rfl (fun hc => ?_) (fun hc => ?_)
    · (repeat (first | refine walkS ?_ | (refine ow_make ?_ (fun x hx => by cases hx <;> (rw [hsz]; decide)) rfl rfl ?_ te22 tr5 tz5 ?_; (first | exact trivial | exact rfl); omega; simp only [St.set, List.map_cons, List.map_nil, Nat.reduceAdd]) | (refine callPre ?_; (first | refine callN_funS rfl (HL) ?_)) | (refine callPreL ?_; (first | refine callL_funS rfl (HL) ?_))))
      (refine aw_ret ?_; (simp only [Fin, Try.results167]; refine finS ?_); refine ⟨_, [], .inr (.inl ⟨.tup [encV w, bD ok], rfl, rfl, ?_⟩), List.nodup_nil, rfl⟩; exact wkDS)
    · (first | exact absurd trivial hc | exact absurd rfl hc | (cases hc; done) | omega | exact absurd hc (by decide) | (simp at hc; done))
  refine walkS ?_
  refine aw_condS rfl (fun h9 => ?_) (fun h9 => ?_)
  · obtain ⟨hk0p, hk0q, HL⟩ := E89 (.inr h9)
    rw [if_pos (.inr h9)]
    generalize okM (allM (fun i => mig Da Dz f (kid0 p) (kid0 q) (vs.getD i V0)) vs.length 0) = z at HL
    obtain ⟨w, ok⟩ := z
    (repeat (first | refine walkS ?_ | (refine ow_make ?_ (fun x hx => by cases hx <;> (rw [hsz]; decide)) rfl rfl ?_ te22 tr5 tz5 ?_; (first | exact trivial | exact rfl); omega; simp only [St.set, List.map_cons, List.map_nil, Nat.reduceAdd]) | (refine callPre ?_; (first | refine callN_funS rfl (HL) ?_)) | (refine callPreL ?_; (first | refine callL_funS rfl (HL) ?_))))
    (refine aw_ret ?_; (simp only [Fin, Try.results167]; refine finS ?_); refine ⟨_, [], .inr (.inl ⟨.tup [encV w, bD ok], rfl, rfl, ?_⟩), List.nodup_nil, rfl⟩; exact wkDS)
  rw [if_neg (by rintro (h | h); exact h8 h; exact h9 h)]
  refine walkS ?_
  refine aw_condS rfl (fun h6 => ?_) (fun h6 => ?_)
  · have HS := S6 h6
    rw [if_pos h6]
    generalize okM (allM (partM (mig Da Dz f) Dz p q vs) q.names.length 0) = z at HS
    obtain ⟨w, ok⟩ := z
    (repeat (first | refine walkS ?_ | (refine ow_make ?_ (fun x hx => by cases hx <;> (rw [hsz]; decide)) rfl rfl ?_ te22 tr5 tz5 ?_; (first | exact trivial | exact rfl); omega; simp only [St.set, List.map_cons, List.map_nil, Nat.reduceAdd]) | (refine callPre ?_; (first | refine callN_funS rfl (HS) ?_)) | (refine callPreL ?_; (first | refine callL_funS rfl (HS) ?_))))
    (refine aw_ret ?_; (simp only [Fin, Try.results167]; refine finS ?_); refine ⟨_, [], .inr (.inl ⟨.tup [encV w, bD ok], rfl, rfl, ?_⟩), List.nodup_nil, rfl⟩; exact wkDS)
  rw [if_neg h6]
  refine walkS ?_
  refine aw_condS rfl (fun h7 => ?_) (fun h7 => ?_)
  · rw [if_pos h7]
    have hl1 : vs.length = 1 ∧ 0 ≤ itemK p n 0 := by
      rw [ownV_7 (by omega)] at hown
      simp only [decide_eq_true_eq] at hown
      exact ⟨hown.2.1, hown.2.2⟩
    have TQ := tagIndex_c hqb hM n
    have TP := tagIndex_c hpb hM n
    have k7p := Gp.k7 (by omega)
    have k7q := Gq.k7 h7
    have htl : p.tags.length ≤ 1048576 := by have := hpb.lt; omega
    have htq : q.tags.length ≤ 1048576 := by have := hqb.lt; omega
    cases tq : tagIx q.tags n with
    | none =>
      rw [tq] at TQ
      have TQ' : AC Try.prog 191 [.d (encR q), .d (iD n)] none (fun r' _ => r' = .d (iD (-1))) := TQ
      rw [if_pos (by rw [itemK_7n h7 tq]; omega)]
      (repeat (first | refine walkS ?_ | (refine ow_make ?_ (fun x hx => by cases hx <;> (rw [hsz]; decide)) rfl rfl ?_ te22 tr5 tz5 ?_; (first | exact trivial | exact rfl); omega; simp only [St.set, List.map_cons, List.map_nil, Nat.reduceAdd]) | (refine callPre ?_; (first | refine callN_funS rfl (TQ') ?_)) | (refine callPreL ?_; (first | refine callL_funS rfl (TQ') ?_))))
      refine aw_condS rfl (fun hc => ?_) (fun hc => ?_)
      · refine walkS ?_
        (refine aw_ret ?_; (simp only [Fin, Try.results167]; refine finS ?_); refine ⟨_, [], .inr (.inl ⟨.tup [encV V0, bD false], rfl, rfl, ?_⟩), List.nodup_nil, rfl⟩; exact wkDS)
      · (first | exact absurd trivial hc | exact absurd rfl hc | (cases hc; done) | omega | exact absurd hc (by decide) | (simp at hc; done))
    | some kq =>
      have hkq := tagIx_lt tq
      have ekq : kq + 1 < q.kids.length := by omega
      have iq := itemK_7 (i := 0) h7 tq ekq
      have gq := Gq.kid (kq + 1) ekq
      cases tp : tagIx p.tags n with
      | none => rw [itemK_7n (by omega) tp] at hl1; omega
      | some kp =>
        have hkp := tagIx_lt tp
        have ekp : kp + 1 < p.kids.length := by omega
        have ip := itemK_7 (i := 0) (by omega) tp ekp
        have gp := Gp.kid (kp + 1) ekp
        rw [tq] at TQ
        rw [tp] at TP
        have TQ' : AC Try.prog 191 [.d (encR q), .d (iD n)] none (fun r' _ => r' = .d (iD (kq : Nat))) := TQ
        have TP' : AC Try.prog 191 [.d (encR p), .d (iD n)] none (fun r' _ => r' = .d (iD (kp : Nat))) := TP
        have e1 : decide ((kq : Int) < 0) = false := decide_eq_false (by omega)
        have HL := LH (itemK p n 0) (itemK q n 0) (fun k hk => by rw [show k = 0 by omega]) (by rw [iq]; exact gq) (by rw [ip]; exact gp)
        rw [if_neg (by rw [iq]; omega)]
        generalize okM (allM (fun i => mig Da Dz f (itemK p n 0) (itemK q n 0) (vs.getD i V0)) vs.length 0) = z at HL
        rw [ip, iq] at HL
        have i1 : q.kids[kq + 1]? = some q.kids[kq + 1] := List.getElem?_eq_getElem ekq
        have i2 : p.kids[kp + 1]? = some p.kids[kp + 1] := List.getElem?_eq_getElem ekp
        obtain ⟨⟨wn, wb, wv⟩, ok⟩ := z
        (repeat (first | refine ctlS ?_ | (refine ol_go ?_ (fun K1 hK1 => ?_); (first | exact trivial | exact rfl); refine evS ?_; (try simp only [e1]); refine hK1 _ _ ?_; clear hK1 K1) | (refine ow_go ?_ (fun x hx => by cases hx <;> (rw [hsz]; decide)) (fun K1 hK1 => ?_); (first | exact trivial | exact rfl); refine evS ?_; (try simp only [e1]); refine hK1 _ ?_; clear hK1 K1) | refine skipS ?_ | (refine ow_make ?_ (fun x hx => by cases hx <;> (rw [hsz]; decide)) rfl rfl ?_ te22 tr5 tz5 ?_; (first | exact trivial | exact rfl); omega; simp only [St.set, List.map_cons, List.map_nil, Nat.reduceAdd]) | (refine callPre ?_; (first | refine callN_funS rfl (TQ') ?_)) | (refine callPreL ?_; (first | refine callL_funS rfl (TQ') ?_))))
        refine aw_condS rfl (fun hc => ?_) (fun hc => ?_)
        · (first | exact absurd trivial hc | exact absurd rfl hc | (cases hc; done) | omega | exact absurd hc (by decide) | (simp at hc; done))
        · (repeat (first | refine walkS ?_ | (refine ow_make ?_ (fun x hx => by cases hx <;> (rw [hsz]; decide)) rfl rfl ?_ te22 tr5 tz5 ?_; (first | exact trivial | exact rfl); omega; simp only [St.set, List.map_cons, List.map_nil, Nat.reduceAdd]) | (refine callPre ?_; (first | refine callN_funS rfl (TP') ?_ | refine callN_funS rfl (HL) ?_)) | (refine callPreL ?_; (first | refine callL_funS rfl (TP') ?_ | refine callL_funS rfl (HL) ?_))))
          (refine aw_ret ?_; (simp only [Fin, Try.results167]; refine finS ?_); refine ⟨_, [], .inr (.inl ⟨.tup [encV (.mk n wb wv), bD ok], rfl, rfl, ?_⟩), List.nodup_nil, rfl⟩; exact wkDS)
  · rw [if_neg h7]
    refine walkS ?_
    (refine aw_ret ?_; (simp only [Fin, Try.results167]; refine finS ?_); refine ⟨_, [], .inr (.inl ⟨.tup [encV (.mk 0 bs []), bD true], rfl, rfl, ?_⟩), List.nodup_nil, rfl⟩; exact wkDS)
end
end Go.Proofs.Ytmpokibohbhoeaa.Eng
