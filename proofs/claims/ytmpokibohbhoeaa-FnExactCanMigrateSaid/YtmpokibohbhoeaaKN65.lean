/-
  Migrating, the reference: between rules of one kind.
-/
import Derived.Test.YtmpokibohbhoeaaKN64
import Derived.Test.YtmpokibohbhoeaaKE4
set_option linter.unusedSimpArgs false
set_option linter.unusedVariables false
set_option linter.defProp false
set_option maxRecDepth 100000
set_option maxHeartbeats 4000000
namespace Go.Proofs.Ytmpokibohbhoeaa.Eng
open Go Go.RowKit

theorem fix_take {bs x : List UInt8} {m sz : Nat} (hx : x = bs ++ List.replicate m 0) (h1 : sz ≤ x.length) (h2 : m = 0 ∨ x.length ≤ sz) : x.take sz = fixB bs sz := by
  subst hx
  rw [List.length_append, List.length_replicate] at h1 h2
  unfold fixB
  rcases h2 with rfl | h2
  · simp only [List.replicate_zero, List.append_nil] at h1 ⊢
    rw [show sz - bs.length = 0 by omega]
    simp
  · rw [List.take_of_length_le (by rw [List.length_append, List.length_replicate]; omega)]
    rw [List.take_of_length_le (by omega)]
    rw [show m = sz - bs.length by omega]
theorem validVs_at {D : List RuleD} {r : RuleD} {n : Int} : ∀ {vs : List V} {k : Nat}, validVs D r n k vs = true → ∀ {j : Nat} (hj : j < vs.length), validV D (itemK r n (k + j : Nat)) vs[j] = true
  | v :: vs, k, h, 0, _ => by rw [validVs, Bool.and_eq_true] at h; exact h.1
  | v :: vs, k, h, j + 1, hj => by
    rw [validVs, Bool.and_eq_true] at h
    have := validVs_at h.2 (j := j) (by simpa using hj)
    rwa [show k + 1 + j = k + (j + 1) by omega] at this
theorem itemK_mem {r : RuleD} {n : Int} {i : Nat} (h7 : r.kind = 7) (h : 0 ≤ itemK r n i) : ∃ (j : Nat) (hj : j < r.kids.length), itemK r n i = r.kids[j] := by
  cases ht : tagIx r.tags n with
  | none => rw [itemK_7n h7 ht] at h; omega
  | some k =>
    by_cases hl : k + 1 < r.kids.length
    · exact ⟨k + 1, hl, itemK_7 h7 ht hl⟩
    · have : itemK r n i = -1 := by simp [itemK, h7, ht, List.getD, hl]
      omega
theorem rep_getD {n : Nat} {k : Int} {i : Nat} (h : i < n) : (List.replicate n k).getD i 0 = k := by simp [List.getD, h]
section
variable {M : Nat} {Da Dz : List RuleD} {f : Nat}
section
variable {g : Int → Int → V → V × Bool} {p q : RuleD} {n : Int} {bs : List UInt8} {vs : List V}
theorem alike_6 (h : p.kind = 6) : alikeM g Dz p q n bs vs = if (allM (partM g Dz p q vs) q.names.length 0).2 = true then (.mk 0 [] (allM (partM g Dz p q vs) q.names.length 0).1, true) else (V0, false) := by rw [alikeM, if_pos h]
theorem alike_3 (h : p.kind = 3) : alikeM g Dz p q n bs vs = (.mk 0 (fixB bs q.size.toNat) [], true) := by rw [alikeM, if_neg (by omega), if_pos h]
theorem alike_5 (h : p.kind = 5) : alikeM g Dz p q n bs vs = (.mk 0 [] (allM (fun i => g (kid1 p) (kid1 q) (vs.getD i V0)) vs.length 0).1, (allM (fun i => g (kid1 p) (kid1 q) (vs.getD i V0)) vs.length 0).2) := by rw [alikeM, if_neg (by omega), if_neg (by omega), if_pos h]
theorem alike_89 (h : p.kind = 8 ∨ p.kind = 9) : alikeM g Dz p q n bs vs = (.mk 0 [] (allM (fun i => g (kid0 p) (kid0 q) (vs.getD i V0)) vs.length 0).1, (allM (fun i => g (kid0 p) (kid0 q) (vs.getD i V0)) vs.length 0).2) := by rw [alikeM, if_neg (by omega), if_neg (by omega), if_neg (by omega), if_pos h]
theorem alike_7n (h : p.kind = 7) (k : itemK q n 0 < 0) : alikeM g Dz p q n bs vs = (V0, false) := by rw [alikeM, if_neg (by omega), if_neg (by omega), if_neg (by omega), if_neg (by omega), if_pos h, if_pos k]
theorem alike_7 (h : p.kind = 7) (k : ¬ itemK q n 0 < 0) : alikeM g Dz p q n bs vs = (.mk n [] (allM (fun i => g (itemK p n 0) (itemK q n 0) (vs.getD i V0)) vs.length 0).1, (allM (fun i => g (itemK p n 0) (itemK q n 0) (vs.getD i V0)) vs.length 0).2) := by rw [alikeM, if_neg (by omega), if_neg (by omega), if_neg (by omega), if_neg (by omega), if_pos h, if_neg k]
theorem alike_o (h : p.kind ≠ 6 ∧ p.kind ≠ 3 ∧ p.kind ≠ 5 ∧ p.kind ≠ 8 ∧ p.kind ≠ 9 ∧ p.kind ≠ 7) : alikeM g Dz p q n bs vs = (.mk n bs [], true) := by rw [alikeM, if_neg (by omega), if_neg (by omega), if_neg (by omega), if_neg (by omega), if_neg (by omega)]
end
theorem seq_names {D : List RuleD} (h : descP D) {n : Nat} {r : RuleD} (hr : D[n]? = some r) (h6 : r.kind = 6) : r.kids.length = r.names.length ∧ ∀ i (hi : i < r.names.length) j (hj : j < r.names.length), r.names[i] = r.names[j] → i = j := by
  have hn : n < D.length := (List.getElem?_eq_some_iff.1 hr).1
  have hrn : ruleAt D n = some r := by simp [ruleAt, hr]
  have hp : ruleP D n r := by
    refine Classical.byContradiction fun hq => ?_
    have := h.2 n hn
    rw [vRule_no hrn hq] at this
    exact Bool.noConfusion this
  obtain ⟨_, _, _, hk⟩ := hp
  rw [kl_6 h6] at hk
  simp only [Bool.and_eq_true] at hk
  have h1 := shape_len (by omega) (shapeL_b hk.1)
  have h2 : namesP r.names := by
    refine Classical.byContradiction fun hn => ?_
    have : namesB r.names = false := by simp [namesB, hn]
    rw [this] at hk
    cases hk.2
  have h3 : ∀ i (hi : i < r.names.length) j (hj : j < r.names.length), i < j → r.names[i] ≠ r.names[j] := fun i hi j hj hij he => by
    have := (h2.2 j hj).2
    have h4 := hasText_yes (l := r.names.take j) (s := r.names[j]) (k := i) (by rw [List.length_take]; omega) (by rw [List.getElem_take]; exact he)
    rw [this] at h4
    cases h4
  refine ⟨by omega, fun i hi j hj he => ?_⟩
  rcases Nat.lt_trichotomy i j with h4 | h4 | h4
  · exact absurd he (h3 i hi j hj h4)
  · exact h4
  · exact absurd he.symm (h3 j hj i hi h4)
private def tyF := And.intro (And.intro (And.intro (And.intro (And.intro (And.intro tb22 te106) (And.intro te107 te22)) (And.intro (And.intro te24 te42) (And.intro tf109_0 tf109_1))) (And.intro (And.intro (And.intro tf109_2 tf109_3) (And.intro tf109_4 tf109_5)) (And.intro (And.intro tf109_6 tf109_7) (And.intro tf26_0 tf44_0)))) (And.intro (And.intro (And.intro (And.intro tf44_1 tf44_2) (And.intro tk106 tk107)) (And.intro (And.intro tk109 tk22) (And.intro tk24 tk26))) (And.intro (And.intro (And.intro tk3 tk4) (And.intro tk42 tk44)) (And.intro (And.intro tk5 tk9) (And.intro tp109 (And.intro tp26 tp44)))))) (And.intro (And.intro (And.intro (And.intro (And.intro tr106 tr107) (And.intro tr109 tr22)) (And.intro (And.intro tr24 tr26) (And.intro tr3 tr4))) (And.intro (And.intro (And.intro tr42 tr44) (And.intro tr5 tr9)) (And.intro (And.intro tu106 tu107) (And.intro tu22 tu24)))) (And.intro (And.intro (And.intro (And.intro tu3 tu4) (And.intro tu42 tu5)) (And.intro (And.intro tu9 tz106) (And.intro tz107 tz109))) (And.intro (And.intro (And.intro tz22 tz24) (And.intro tz26 tz3)) (And.intro (And.intro tz4 tz42) (And.intro tz44 (And.intro tz5 tz9))))))
theorem alikeS_c (hDa : DB M Da) (hDz : DB M Dz) (hM : M ≤ 1048576) (hVa : descP Da) (hVz : descP Dz) (H : MgS Da Dz f) {ia iz : Nat} {p q : RuleD} (hp : Da[ia]? = some p) (hq : Dz[iz]? = some q) (hpq : p.kind = q.kind) (hf : ia + iz < f + 1)
    {n : Int} {bs : List UInt8} {vs : List V} (hv : VB 1048576 (.mk n bs vs)) (hval : validV Da ia (.mk n bs vs) = true) :
    AC Try.prog 165 [.d (encD Da), .d (encR p), .d (encD Dz), .d (encR q), .d (encV (.mk n bs vs))] none (fun r' _ => r' = mgR (alikeM (mig Da Dz f) Dz p q n bs vs)) := by
  have hpb := hDa.rule p (List.mem_of_getElem? hp)
  have hqb := hDz.rule q (List.mem_of_getElem? hq)
  have Gp : GoodR Da ia p := good_of hVa hp
  have Gq : GoodR Dz iz q := good_of hVz hq
  have hia : ia < Da.length := (List.getElem?_eq_some_iff.1 hp).1
  have hiz : iz < Dz.length := (List.getElem?_eq_some_iff.1 hq).1
  unfold VB at hv
  obtain ⟨hv1, hv2, hv3⟩ := hv
  rw [validV, ruleD_get hp, Bool.and_eq_true] at hval
  obtain ⟨hown, hits⟩ := hval
  have hitem : ∀ k (hk : k < vs.length), ∃ j : Nat, itemK p n k = j ∧ j < Da.length ∧ validV Da (itemK p n k) vs[k] = true := fun k hk => by
    obtain ⟨j, h1, h2⟩ := own_kid Gp hia hown hk
    have := validVs_at hits hk
    rw [Nat.zero_add] at this
    exact ⟨j, h1, h2, this⟩
  obtain ⟨h5p, h7p, h8p⟩ := good_items Gp
  obtain ⟨h5q, h7q, h8q⟩ := good_items Gq
  have LI := fun (la lb : List Int) => list_c H (la := la) (lb := lb) (vs := vs)
  have S6 : p.kind = 6 → AC Try.prog 186 [.d (encD Da), .d (encR p), .d (encD Dz), .d (encR q), .d (encV (.mk n bs vs))] none (fun r' _ => r' = mgR (alikeM (mig Da Dz f) Dz p q n bs vs)) := fun h6 => by
    obtain ⟨a1, a2⟩ := seq_names hVa hp h6
    obtain ⟨b1, _⟩ := seq_names hVz hq (by omega)
    have hvl : vs.length = p.kids.length := by
      rw [ownV_6 h6] at hown
      simp only [decide_eq_true_eq] at hown
      omega
    rw [alike_6 h6]
    refine seqS_c hDa hDz hM hVz H hpb hqb a1 b1 (fun i hi => ?_) a2 n bs hvl hv3 fun i j hi hj hiv => ?_
    · have := Gq.kid i hi; omega
    · have g1 := Gp.kid i hi
      have g2 := Gq.kid j hj
      obtain ⟨j', h1, h2, h3⟩ := hitem i hiv
      rw [itemK_6 h6 hi] at h3
      exact ⟨by omega, by omega, h3⟩
  have LH : ∀ (ka kb : Int), (∀ k (hk : k < vs.length), itemK p n k = ka) → (0 < vs.length → 0 ≤ kb ∧ kb < iz) → (0 < vs.length → 0 ≤ ka ∧ ka < ia) → ∀ (la lb : List Int), la.length = vs.length → lb.length = vs.length → (∀ k, k < vs.length → la.getD k 0 = ka) → (∀ k, k < vs.length → lb.getD k 0 = kb) →
      AC Try.prog 187 [.d (encD Da), .d (encI la), .d (encD Dz), .d (encI lb), .d (.sl 3 (vs.map encVc))] none (fun r' _ => r' = .d (.tup [.sl 3 (encVs (allM (fun i => mig Da Dz f ka kb (vs.getD i V0)) vs.length 0).1), bD (allM (fun i => mig Da Dz f ka kb (vs.getD i V0)) vs.length 0).2])) := fun ka kb h1 h2 h3 la lb hla hlb ga gb => by
    have := LI la lb hla hlb (by omega) hv3 fun i hi => by
      rw [ga i hi, gb i hi]
      have g2 := h2 (by omega)
      have g3 := h3 (by omega)
      obtain ⟨j', _, _, k3⟩ := hitem i hi
      rw [h1 i hi] at k3
      exact ⟨by omega, by omega, by omega, k3⟩
    rw [encVs_eq vs] at this
    rw [allM_congr (g' := fun i => mig Da Dz f ka kb (vs.getD i V0)) vs.length 0 fun j _ hj => by rw [ga j (by omega), gb j (by omega)]] at this
    exact this
  rw [encV_mk, encVs_eq] at S6 ⊢
  refine calls_body Try.func165 rfl Try.call165 Try.ntmps165 (by simp) (by simp [ArgsOk]) (by simp [Rz.nkL, Rz.nk]) fun en hsz hks hk0 => ?_; refine enS ?_
  (iterate 10 (first | refine aw_seq ?_ | refine aw_region ?_ | refine aw_block ?_ | (refine aw_exit ?_; (try simp (decide := true) only [reduceIte])) | (refine aw_skip ?_; try dsimp only) | (refine aw_any (by kernel_rfl) (by kernel_rfl) (by simp only [hsz]; kernel_rfl) ?_) | (refine ow_nil ?_; try dsimp only) | (refine ol_go ?_ (fun K1 hK1 => ?_); (first | exact trivial | exact rfl); refine evS ?_; refine hK1 _ _ ?_; clear hK1 K1) | (refine ol_skip rfl rfl ?_ ?_; (focus (intro hne; cases hne; done)); simp only [St.set]) | (refine ol_nil ⟨by kernel_rfl, ?_⟩; try dsimp only) | (refine ow_go ?_ (fun x hx => by cases hx <;> (rw [hsz]; decide)) (fun K1 hK1 => ?_); (first | exact trivial | exact rfl); refine evS ?_; refine hK1 _ ?_; clear hK1 K1) | (refine ow_skip rfl rfl ?_ (fun x hx => by cases hx <;> (rw [hsz]; decide)) ?_; (focus (intro hne; cases hne; done)); simp only [St.set])))
  refine aw_freezeB 9 80 [iD n, encB bs, .sl 3 (vs.map encVc)] rfl rfl hks (by decide) ?_
  refine walkS ?_
  refine aw_condS rfl (fun h6 => ?_) (fun h6 => ?_)
  · have HS := S6 h6
    generalize alikeM (mig Da Dz f) Dz p q n bs vs = z at HS
    obtain ⟨w, ok⟩ := z
    (repeat (first | refine walkS ?_ | (refine callPre ?_; (first | refine callN_funS rfl (HS) ?_)) | (refine callPreL ?_; (first | refine callL_funS rfl (HS) ?_))))
    (refine aw_ret ?_; (simp only [Fin, Try.results165]; refine finS ?_); refine ⟨_, [], .inr (.inl ⟨.tup [encV w, bD ok], rfl, rfl, ?_⟩), List.nodup_nil, rfl⟩; exact wkDS)
  refine walkS ?_
  refine aw_condS rfl (fun h3 => ?_) (fun h3 => ?_)
  · have hs := Gq.k3 (by omega)
    obtain ⟨sz, hsz'⟩ : ∃ sz : Nat, q.size = sz := ⟨q.size.toNat, by omega⟩
    simp only [hsz']
    refine walkS ?_
    refine aw_loopS [5, 6, 7, 8, 9, 10, 11, 21] (fun κ s' => [(κ, keyOf (s'.f 12))]) (fun κ z => [(12, .own κ 5 1 (z.2.map fun c => [uD c]))]) [] (fun _ _ => []) [128] (fun κ z => [(κ, some (z.2.length, 5, 1))]) (fun z : Nat × List UInt8 => z.2 = bs ++ List.replicate z.1 0 ∧ (z.1 = 0 ∨ z.2.length ≤ sz)) (fun z => sz - z.2.length) ((0, bs)) hks (fun _ => rfl) ⟨by simp, .inl rfl⟩ wkS ?_; intro x hx; refine headS ?_
    obtain ⟨k, l⟩ := x
    simp only at hx ⊢
    obtain ⟨hx1, hx2⟩ := hx
    have hll : l.length = bs.length + k := by rw [hx1]; simp
    have hll2 : l.length ≤ 1048576 + 64 := by omega
    refine walkS ?_
    refine aw_condS rfl (fun hk => ?_) (fun hk => ?_)
    · refine walkS ?_
      rw [show [[D.v (Value.int .u8 0)]] = List.map (fun c => [uD c]) [(0 : UInt8)] from rfl, ← List.map_append]
      refine ⟨(k + 1, l ++ [0]), ⟨by simp only; rw [hx1, List.append_assoc, ← List.replicate_succ'], by simp only; rw [List.length_append, List.length_singleton]; omega⟩, by simp only; rw [List.length_append, List.length_singleton]; omega, ?_⟩
      exact wkS
    · have hft := fix_take (sz := sz) hx1 (by omega) hx2
      refine walkS ?_
      rw [show D.sl 1 (List.take (sz - 0) (List.map (fun c => [uD c]) l)) = encB (fixB bs sz) by rw [Nat.sub_zero, ← List.map_take, hft]; rfl]
      (refine aw_ret ?_; (simp only [Fin, Try.results165]; refine finS ?_); refine ⟨_, [], .inr (.inl ⟨.tup [encV (.mk 0 (fixB bs sz) []), bD true], rfl, rfl, ?_⟩), List.nodup_nil, by rw [alike_3 h3, hsz', Int.toNat_natCast]⟩; exact wkDS)
  refine walkS ?_
  refine aw_condS rfl (fun h5 => ?_) (fun h5 => ?_)
  · have k5p := Gp.k5 h5
    have k5q := Gq.k5 (by omega)
    have hk1p := kids1 (r := p) (by omega)
    have hk1q := kids1 (r := q) (by omega)
    have g1p := Gp.kid 1 (by omega)
    have g1q := Gq.kid 1 (by omega)
    rw [show p.kids[1] = kid1 p by rw [List.getElem?_eq_getElem (by omega)] at hk1p; exact Option.some.inj hk1p] at g1p
    rw [show q.kids[1] = kid1 q by rw [List.getElem?_eq_getElem (by omega)] at hk1q; exact Option.some.inj hk1q] at g1q
    have HL := LH (kid1 p) (kid1 q) (fun k hk => itemK_5 h5) (fun _ => g1q) (fun _ => g1p) (List.replicate vs.length (kid1 p)) (List.replicate vs.length (kid1 q)) (by simp) (by simp) (fun k hk => rep_getD hk) (fun k hk => rep_getD hk)
    rw [alike_5 h5]
    generalize allM (fun i => mig Da Dz f (kid1 p) (kid1 q) (vs.getD i V0)) vs.length 0 = z at HL
    obtain ⟨w, ok⟩ := z
    (repeat (first | refine walkS ?_ | (refine callPre ?_; (first | refine callN_funS rfl (same_c (kid1 p) (n := vs.length) (by omega)) ?_ | refine callN_funS rfl (same_c (kid1 q) (n := vs.length) (by omega)) ?_ | refine callN_funS rfl (HL) ?_)) | (refine callPreL ?_; (first | refine callL_funS rfl (same_c (kid1 p) (n := vs.length) (by omega)) ?_ | refine callL_funS rfl (same_c (kid1 q) (n := vs.length) (by omega)) ?_ | refine callL_funS rfl (HL) ?_))))
    (refine aw_ret ?_; (simp only [Fin, Try.results165]; refine finS ?_); refine ⟨_, [], .inr (.inl ⟨.tup [encV (.mk 0 [] w), bD ok], rfl, rfl, ?_⟩), List.nodup_nil, rfl⟩; exact wkDS)
  have E89 : p.kind = 8 ∨ p.kind = 9 → p.kids[0]? = some (kid0 p) ∧ q.kids[0]? = some (kid0 q) ∧ AC Try.prog 187 [.d (encD Da), .d (encI (List.replicate vs.length (kid0 p))), .d (encD Dz), .d (encI (List.replicate vs.length (kid0 q))), .d (.sl 3 (vs.map encVc))] none (fun r' _ => r' = .d (.tup [.sl 3 (encVs (allM (fun i => mig Da Dz f (kid0 p) (kid0 q) (vs.getD i V0)) vs.length 0).1), bD (allM (fun i => mig Da Dz f (kid0 p) (kid0 q) (vs.getD i V0)) vs.length 0).2])) := fun h => by
    have lp := h8p h
    have lq := h8q (by omega)
    have hk0p := kids0 (r := p) (by omega)
    have hk0q := kids0 (r := q) (by omega)
    have g1p := Gp.kid 0 (by omega)
    have g1q := Gq.kid 0 (by omega)
    rw [show p.kids[0] = kid0 p by have e := hk0p; rw [List.getElem?_eq_getElem (by omega)] at e; exact Option.some.inj e] at g1p
    rw [show q.kids[0] = kid0 q by have e := hk0q; rw [List.getElem?_eq_getElem (by omega)] at e; exact Option.some.inj e] at g1q
    exact ⟨hk0p, hk0q, LH (kid0 p) (kid0 q) (fun k hk => itemK_8 h) (fun _ => g1q) (fun _ => g1p) (List.replicate vs.length (kid0 p)) (List.replicate vs.length (kid0 q)) (by simp) (by simp) (fun k hk => rep_getD hk) (fun k hk => rep_getD hk)⟩
  refine walkS ?_
  refine aw_condS rfl (fun h8 => ?_) (fun h8 => ?_)
  · obtain ⟨hk0p, hk0q, HL⟩ := E89 (.inl h8)
    rw [alike_89 (.inl h8)]
    generalize allM (fun i => mig Da Dz f (kid0 p) (kid0 q) (vs.getD i V0)) vs.length 0 = z at HL
    obtain ⟨w, ok⟩ := z
    refine walkS ?_
    refine aw_condS rfl (fun hc => ?_) (fun hc => ?_)
    · (repeat (first | refine walkS ?_ | (refine callPre ?_; (first | refine callN_funS rfl (same_c (kid0 p) (n := vs.length) (by omega)) ?_ | refine callN_funS rfl (same_c (kid0 q) (n := vs.length) (by omega)) ?_ | refine callN_funS rfl (HL) ?_)) | (refine callPreL ?_; (first | refine callL_funS rfl (same_c (kid0 p) (n := vs.length) (by omega)) ?_ | refine callL_funS rfl (same_c (kid0 q) (n := vs.length) (by omega)) ?_ | refine callL_funS rfl (HL) ?_))))
      (refine aw_ret ?_; (simp only [Fin, Try.results165]; refine finS ?_); refine ⟨_, [], .inr (.inl ⟨.tup [encV (.mk 0 [] w), bD ok], rfl, rfl, ?_⟩), List.nodup_nil, rfl⟩; exact wkDS)
    · (first | exact absurd trivial hc | exact absurd rfl hc | (cases hc; done) | omega | exact absurd hc (by decide) | (simp at hc; done))
  refine walkS ?_
  refine aw_condS rfl (fun h9 => ?_) (fun h9 => ?_)
  · obtain ⟨hk0p, hk0q, HL⟩ := E89 (.inr h9)
    rw [alike_89 (.inr h9)]
    generalize allM (fun i => mig Da Dz f (kid0 p) (kid0 q) (vs.getD i V0)) vs.length 0 = z at HL
    obtain ⟨w, ok⟩ := z
    (repeat (first | refine walkS ?_ | (refine callPre ?_; (first | refine callN_funS rfl (same_c (kid0 p) (n := vs.length) (by omega)) ?_ | refine callN_funS rfl (same_c (kid0 q) (n := vs.length) (by omega)) ?_ | refine callN_funS rfl (HL) ?_)) | (refine callPreL ?_; (first | refine callL_funS rfl (same_c (kid0 p) (n := vs.length) (by omega)) ?_ | refine callL_funS rfl (same_c (kid0 q) (n := vs.length) (by omega)) ?_ | refine callL_funS rfl (HL) ?_))))
    (refine aw_ret ?_; (simp only [Fin, Try.results165]; refine finS ?_); refine ⟨_, [], .inr (.inl ⟨.tup [encV (.mk 0 [] w), bD ok], rfl, rfl, ?_⟩), List.nodup_nil, rfl⟩; exact wkDS)
  refine walkS ?_
  refine aw_condS rfl (fun h7 => ?_) (fun h7 => ?_)
  · have hl1 : vs.length = 1 ∧ 0 ≤ itemK p n 0 := by
      rw [ownV_7 h7] at hown
      simp only [decide_eq_true_eq] at hown
      exact ⟨hown.2.1, hown.2.2⟩
    have LQ := l9Item_c hqb hM n 0 h5q h7q h8q
    have LPP := l9Item_c hpb hM n 0 h5p h7p h8p
    by_cases hneg : itemK q n 0 < 0
    · have e1 : decide (itemK q n 0 < 0) = true := decide_eq_true hneg
      (repeat (first | refine ctlS ?_ | (refine ol_go ?_ (fun K1 hK1 => ?_); (first | exact trivial | exact rfl); refine evS ?_; (try simp only [e1]); refine hK1 _ _ ?_; clear hK1 K1) | (refine ow_go ?_ (fun x hx => by cases hx <;> (rw [hsz]; decide)) (fun K1 hK1 => ?_); (first | exact trivial | exact rfl); refine evS ?_; (try simp only [e1]); refine hK1 _ ?_; clear hK1 K1) | refine skipS ?_ | (refine callPre ?_; (first | refine callN_funS rfl (LQ) ?_)) | (refine callPreL ?_; (first | refine callL_funS rfl (LQ) ?_))))
      refine aw_condS rfl (fun hc => ?_) (fun hc => ?_)
      · refine walkS ?_
        (refine aw_ret ?_; (simp only [Fin, Try.results165]; refine finS ?_); refine ⟨_, [], .inr (.inl ⟨.tup [encV V0, bD false], rfl, rfl, ?_⟩), List.nodup_nil, by rw [alike_7n h7 hneg]⟩; exact wkDS)
      · (first | exact absurd trivial hc | exact absurd rfl hc | (cases hc; done) | omega | exact absurd hc (by decide) | (simp at hc; done))
    · have e1 : decide (itemK q n 0 < 0) = false := decide_eq_false hneg
      have hkp : itemK p n 0 < ia := by
        obtain ⟨i0, hi0, he0⟩ := itemK_mem (r := p) (n := n) (i := 0) h7 hl1.2
        rw [he0]; exact (Gp.kid i0 hi0).2
      have hkq : itemK q n 0 < iz := by
        obtain ⟨i0, hi0, he0⟩ := itemK_mem (r := q) (n := n) (i := 0) (by omega) (by omega)
        rw [he0]; exact (Gq.kid i0 hi0).2
      have HL := LH (itemK p n 0) (itemK q n 0) (fun k hk => by rw [show k = 0 by omega]) (fun _ => ⟨by omega, hkq⟩) (fun _ => ⟨hl1.2, hkp⟩) [itemK p n 0] [itemK q n 0] (by simp [hl1.1]) (by simp [hl1.1]) (fun k hk => by rw [show k = 0 by omega]; rfl) (fun k hk => by rw [show k = 0 by omega]; rfl)
      rw [alike_7 h7 hneg]
      generalize allM (fun i => mig Da Dz f (itemK p n 0) (itemK q n 0) (vs.getD i V0)) vs.length 0 = z at HL
      obtain ⟨w, ok⟩ := z
      (repeat (first | refine ctlS ?_ | (refine ol_go ?_ (fun K1 hK1 => ?_); (first | exact trivial | exact rfl); refine evS ?_; (try simp only [e1]); refine hK1 _ _ ?_; clear hK1 K1) | (refine ow_go ?_ (fun x hx => by cases hx <;> (rw [hsz]; decide)) (fun K1 hK1 => ?_); (first | exact trivial | exact rfl); refine evS ?_; (try simp only [e1]); refine hK1 _ ?_; clear hK1 K1) | refine skipS ?_ | (refine callPre ?_; (first | refine callN_funS rfl (LQ) ?_)) | (refine callPreL ?_; (first | refine callL_funS rfl (LQ) ?_))))
      refine aw_condS rfl (fun hc => ?_) (fun hc => ?_)
      · (first | exact absurd trivial hc | exact absurd rfl hc | (cases hc; done) | omega | exact absurd hc (by decide) | (simp at hc; done))
      · (repeat (first | refine walkS ?_ | (refine callPre ?_; (first | refine callN_funS rfl (LPP) ?_ | refine callN_funS rfl (HL) ?_)) | (refine callPreL ?_; (first | refine callL_funS rfl (LPP) ?_ | refine callL_funS rfl (HL) ?_))))
        (refine aw_ret ?_; (simp only [Fin, Try.results165]; refine finS ?_); refine ⟨_, [], .inr (.inl ⟨.tup [encV (.mk n [] w), bD ok], rfl, rfl, ?_⟩), List.nodup_nil, rfl⟩; exact wkDS)
  · refine walkS ?_
    (refine aw_ret ?_; (simp only [Fin, Try.results165]; refine finS ?_); refine ⟨_, [], .inr (.inl ⟨.tup [encV (.mk n bs []), bD true], rfl, rfl, ?_⟩), List.nodup_nil, by rw [alike_o ⟨h6, h3, h5, h8, h9, h7⟩]⟩; exact wkDS)
end
end Go.Proofs.Ytmpokibohbhoeaa.Eng
