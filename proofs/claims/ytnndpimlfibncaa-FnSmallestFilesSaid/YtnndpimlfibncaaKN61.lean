/-
  Default values: both sides.
-/
import Derived.Test.YtnndpimlfibncaaKPure17
import Derived.Test.YtnndpimlfibncaaKE6
import Derived.Test.YtnndpimlfibncaaKN41
set_option linter.unusedSimpArgs false
set_option linter.unusedVariables false
set_option linter.defProp false
set_option maxRecDepth 100000
set_option maxHeartbeats 4000000
namespace Go.Proofs.Ytnndpimlfibncaa.Eng
open Go Go.RowKit

section
variable {M : Nat} {D : List RuleD}
def DfS (D : List RuleD) (f : Nat) : Prop := ∀ i : Int, 0 ≤ i → i < D.length → i < f → AC Try.prog 56 [.d (encD D), .d (iD i)] none (fun r' _ => r' = .d (encV (dflt D f i)))
def DfI (D : List RuleD) (f : Nat) : Prop := ∀ i : Int, 0 ≤ i → i < D.length → i < f → AC Try.prog 52 [.d (encD D), .d (iD i)] none (fun r' _ => r' = .d (encV (dflt D f i)))
private def tyF := And.intro (And.intro (And.intro (And.intro (And.intro (And.intro tb22 te22) (And.intro te24 te33)) (And.intro (And.intro te60 te61) (And.intro tf26_0 tf37_0))) (And.intro (And.intro (And.intro tf37_1 tf37_2) (And.intro tf63_0 tf63_1)) (And.intro (And.intro tf63_2 tf63_3) (And.intro tf63_4 tf63_5)))) (And.intro (And.intro (And.intro (And.intro tf63_6 tf63_7) (And.intro tk22 tk24)) (And.intro (And.intro tk26 tk3) (And.intro tk33 tk37))) (And.intro (And.intro (And.intro tk4 tk5) (And.intro tk60 tk61)) (And.intro (And.intro tk63 tk9) (And.intro tp26 (And.intro tp37 tp63)))))) (And.intro (And.intro (And.intro (And.intro (And.intro tr22 tr24) (And.intro tr26 tr3)) (And.intro (And.intro tr33 tr37) (And.intro tr4 tr5))) (And.intro (And.intro (And.intro tr60 tr61) (And.intro tr63 tr9)) (And.intro (And.intro tu22 tu24) (And.intro tu3 tu33)))) (And.intro (And.intro (And.intro (And.intro tu4 tu5) (And.intro tu60 tu61)) (And.intro (And.intro tu9 tz22) (And.intro tz24 tz26))) (And.intro (And.intro (And.intro tz3 tz33) (And.intro tz37 tz4)) (And.intro (And.intro tz5 tz60) (And.intro tz61 (And.intro tz63 tz9))))))
theorem dfltS_step (hD : DB M D) (hM : M ≤ 1048576) (hV : descP D) {f : Nat} (H : DfS D f) : DfS D (f + 1) := fun i h0 hi hif => by
  obtain ⟨i, rfl⟩ := Int.eq_ofNat_of_zero_le h0
  have hi' : i < D.length := by omega
  obtain ⟨r, hr⟩ : ∃ r, D[i]? = some r := ⟨_, List.getElem?_eq_getElem hi'⟩
  have G : GoodR D i r := good_of hV hr
  have hrb := hD.rule r (List.mem_of_getElem? hr)
  have hrD := ruleD_get hr
  have hlk := hrb.lk
  have HK : ∀ j (hj : j < r.kids.length), AC Try.prog 56 [.d (encD D), .d (iD r.kids[j])] none (fun r' _ => r' = .d (encV (dflt D f r.kids[j]))) := fun j hj => by
    have := G.kid j hj
    exact H _ (by omega) (by omega) (by omega)
  refine calls_body Try.func56 rfl Try.call56 Try.ntmps56 (by simp) (by simp [ArgsOk]) (by simp [Rz.nkL, Rz.nk]) fun en hsz hks hk0 => ?_; refine enS ?_
  refine walkS ?_
  refine aw_condS rfl (fun h3 => ?_) (fun h3 => ?_)
  · have hs := G.k3 h3
    obtain ⟨sz, hsz'⟩ : ∃ sz : Nat, r.size = sz := ⟨r.size.toNat, by omega⟩
    simp only [hsz']
    refine walkS ?_
    (first | (refine ow_make ?_ (fun x hx => by cases hx <;> (rw [hsz]; decide)) rfl rfl ?_ te22 tr5 tz5 ?_; (first | exact trivial | exact rfl); omega; simp only [St.set, List.map_cons, List.map_nil, Nat.reduceAdd]))
    refine ow_freezeA (encB (List.replicate sz 0)) 19 64 1 sz ((List.replicate sz (0 : UInt8)).map fun c => [uD c]) rfl rfl (by rw [← zero_row]; rfl) (by simp) (by simp) hks (by decide) ?_
    refine walkS ?_
    (refine aw_ret ?_; (simp only [Fin, Try.results56]; refine finS ?_); refine ⟨_, [], .inr (.inl ⟨encV (.mk 0 (List.replicate sz 0) []), rfl, rfl, ?_⟩), List.nodup_nil, by rw [dflt_3 hrD h3, hsz', Int.toNat_natCast]⟩; exact wkDS)
  refine walkS ?_
  refine aw_condS rfl (fun h7 => ?_) (fun h7 => ?_)
  · have hk7 := G.k7 h7
    have htg := tags_ge hV hr h7
    have hk1 := kids1 (r := r) (by omega)
    have ht0 : r.tags[0]? = some (r.tags.headD 0) := by cases ht : r.tags with | nil => rw [ht] at htg; simp at htg | cons x l => rfl
    have HH := HK 1 (by omega)
    rw [show r.kids[1] = kid1 r by rw [List.getElem?_eq_getElem (by omega)] at hk1; exact Option.some.inj hk1] at HH
    (repeat (first | refine walkS ?_ | (refine ow_make ?_ (fun x hx => by cases hx <;> (rw [hsz]; decide)) rfl rfl ?_ te22 tr5 tz5 ?_; (first | exact trivial | exact rfl); omega; simp only [St.set, List.map_cons, List.map_nil, Nat.reduceAdd]) | (refine callPre ?_; (first | refine callN_funS rfl (HH) ?_)) | (refine callPreL ?_; (first | refine callL_funS rfl (HH) ?_))))
    (refine aw_ret ?_; (simp only [Fin, Try.results56]; refine finS ?_); refine ⟨_, [], .inr (.inl ⟨encV (.mk (r.tags.headD 0) [] [dflt D f (kid1 r)]), rfl, rfl, ?_⟩), List.nodup_nil, by rw [dflt_7 hrD h7]⟩; exact wkDS2)
  have LP : (r.kind = 6 ∨ r.kind = 9) → True := fun _ => trivial
  refine walkS ?_
  refine aw_condS rfl (fun h6 => ?_) (fun h6 => ?_)
  · refine walkS ?_
    refine aw_condS rfl (fun hc => ?_) (fun hc => ?_)
    · refine walkS ?_
      refine aw_loopS [2, 4, 5, 6] (fun κ s' => [(κ, keyB s' 64 2)]) (fun κ x => [(7, .d (iD (x.1 : Nat)))]) [64] (fun κ x => [(64, some [.d (iD 0), .d (.v (.slice none 0 0)), .own κ 37 3 (encVs x.2)])]) [] (fun κ x => [(κ, some (x.2.length, 37, 3))]) (fun x : Nat × List V => x.1 ≤ r.kids.length ∧ x.2 = (r.kids.take x.1).map (dflt D f)) (fun x => r.kids.length - x.1) ((0, [])) hks (fun _ => rfl) ⟨Nat.zero_le _, rfl⟩ wkS ?_; intro x hx; refine headS ?_
      obtain ⟨k, vs⟩ := x
      simp only at hx ⊢
      obtain ⟨hx1, hx2⟩ := hx
      have hvl : vs.length = k := by rw [hx2, List.length_map, List.length_take]; omega
      refine walkS ?_
      refine aw_condS rfl (fun hk => ?_) (fun hk => ?_)
      · have hkl : k < r.kids.length := by omega
        have hkk : r.kids[k]? = some (r.kids[k]) := List.getElem?_eq_getElem hkl
        have HH := HK k hkl
        (repeat (first | refine walkS ?_ | (refine ow_make ?_ (fun x hx => by cases hx <;> (rw [hsz]; decide)) rfl rfl ?_ te22 tr5 tz5 ?_; (first | exact trivial | exact rfl); omega; simp only [St.set, List.map_cons, List.map_nil, Nat.reduceAdd]) | (refine callPre ?_; (first | refine callN_funS rfl (HH) ?_)) | (refine callPreL ?_; (first | refine callL_funS rfl (HH) ?_))))
        refine ⟨(k + 1, vs ++ [dflt D f r.kids[k]]), ⟨by simp only; omega, by simp only; rw [hx2, List.take_succ_eq_append_getElem hkl, List.map_append]; rfl⟩, by simp only; omega, ?_⟩
        exact wkS
      · refine walkS ?_
        rw [List.take_of_length_le (by omega)] at hx2
        (refine aw_ret ?_; (simp only [Fin, Try.results56]; refine finS ?_); refine ⟨_, [], .inr (.inl ⟨encV (.mk 0 [] vs), rfl, rfl, ?_⟩), List.nodup_nil, by rw [dflt_69 hrD (.inl h6), hx2]⟩; exact wkDS)
    · (first | exact absurd trivial hc | exact absurd rfl hc | (cases hc; done) | omega | exact absurd hc (by decide) | (simp at hc; done))
  refine walkS ?_
  refine aw_condS rfl (fun h9 => ?_) (fun h9 => ?_)
  · refine walkS ?_
    refine aw_loopS [2, 4, 5, 6] (fun κ s' => [(κ, keyB s' 64 2)]) (fun κ x => [(7, .d (iD (x.1 : Nat)))]) [64] (fun κ x => [(64, some [.d (iD 0), .d (.v (.slice none 0 0)), .own κ 37 3 (encVs x.2)])]) [] (fun κ x => [(κ, some (x.2.length, 37, 3))]) (fun x : Nat × List V => x.1 ≤ r.kids.length ∧ x.2 = (r.kids.take x.1).map (dflt D f)) (fun x => r.kids.length - x.1) ((0, [])) hks (fun _ => rfl) ⟨Nat.zero_le _, rfl⟩ wkS ?_; intro x hx; refine headS ?_
    obtain ⟨k, vs⟩ := x
    simp only at hx ⊢
    obtain ⟨hx1, hx2⟩ := hx
    have hvl : vs.length = k := by rw [hx2, List.length_map, List.length_take]; omega
    refine walkS ?_
    refine aw_condS rfl (fun hk => ?_) (fun hk => ?_)
    · have hkl : k < r.kids.length := by omega
      have hkk : r.kids[k]? = some (r.kids[k]) := List.getElem?_eq_getElem hkl
      have HH := HK k hkl
      (repeat (first | refine walkS ?_ | (refine ow_make ?_ (fun x hx => by cases hx <;> (rw [hsz]; decide)) rfl rfl ?_ te22 tr5 tz5 ?_; (first | exact trivial | exact rfl); omega; simp only [St.set, List.map_cons, List.map_nil, Nat.reduceAdd]) | (refine callPre ?_; (first | refine callN_funS rfl (HH) ?_)) | (refine callPreL ?_; (first | refine callL_funS rfl (HH) ?_))))
      refine ⟨(k + 1, vs ++ [dflt D f r.kids[k]]), ⟨by simp only; omega, by simp only; rw [hx2, List.take_succ_eq_append_getElem hkl, List.map_append]; rfl⟩, by simp only; omega, ?_⟩
      exact wkS
    · refine walkS ?_
      rw [List.take_of_length_le (by omega)] at hx2
      (refine aw_ret ?_; (simp only [Fin, Try.results56]; refine finS ?_); refine ⟨_, [], .inr (.inl ⟨encV (.mk 0 [] vs), rfl, rfl, ?_⟩), List.nodup_nil, by rw [dflt_69 hrD (.inr h9), hx2]⟩; exact wkDS)
  · refine walkS ?_
    (refine aw_ret ?_; (simp only [Fin, Try.results56]; refine finS ?_); refine ⟨_, [], .inr (.inl ⟨encV V0, rfl, rfl, ?_⟩), List.nodup_nil, by rw [dflt_o hrD ⟨h3, h6, h7, h9⟩]⟩; exact wkDS)
theorem dfltI_step (hD : DB M D) (hM : M ≤ 1048576) (hV : descP D) {f : Nat} (H : DfI D f) : DfI D (f + 1) := fun i h0 hi hif => by
  obtain ⟨i, rfl⟩ := Int.eq_ofNat_of_zero_le h0
  have hi' : i < D.length := by omega
  obtain ⟨r, hr⟩ : ∃ r, D[i]? = some r := ⟨_, List.getElem?_eq_getElem hi'⟩
  have G : GoodR D i r := good_of hV hr
  have hrb := hD.rule r (List.mem_of_getElem? hr)
  have hrD := ruleD_get hr
  have hlk := hrb.lk
  have HK : ∀ j (hj : j < r.kids.length), AC Try.prog 52 [.d (encD D), .d (iD r.kids[j])] none (fun r' _ => r' = .d (encV (dflt D f r.kids[j]))) := fun j hj => by
    have := G.kid j hj
    exact H _ (by omega) (by omega) (by omega)
  refine calls_body Try.func52 rfl Try.call52 Try.ntmps52 (by simp) (by simp [ArgsOk]) (by simp [Rz.nkL, Rz.nk]) fun en hsz hks hk0 => ?_; refine enS ?_
  refine walkS ?_
  refine aw_condS rfl (fun h3 => ?_) (fun h3 => ?_)
  · have hs := G.k3 h3
    obtain ⟨sz, hsz'⟩ : ∃ sz : Nat, r.size = sz := ⟨r.size.toNat, by omega⟩
    simp only [hsz']
    refine walkS ?_
    (first | (refine ow_make ?_ (fun x hx => by cases hx <;> (rw [hsz]; decide)) rfl rfl ?_ te22 tr5 tz5 ?_; (first | exact trivial | exact rfl); omega; simp only [St.set, List.map_cons, List.map_nil, Nat.reduceAdd]))
    refine ow_freezeA (encB (List.replicate sz 0)) 20 64 1 sz ((List.replicate sz (0 : UInt8)).map fun c => [uD c]) rfl rfl (by rw [← zero_row]; rfl) (by simp) (by simp) hks (by decide) ?_
    refine walkS ?_
    (refine aw_ret ?_; (simp only [Fin, Try.results52]; refine finS ?_); refine ⟨_, [], .inr (.inl ⟨encV (.mk 0 (List.replicate sz 0) []), rfl, rfl, ?_⟩), List.nodup_nil, by rw [dflt_3 hrD h3, hsz', Int.toNat_natCast]⟩; exact wkDS)
  refine walkS ?_
  refine aw_condS rfl (fun h6 => ?_) (fun h6 => ?_)
  · refine walkS ?_
    refine aw_loopS [2, 4, 5, 6, 15, 26, 27] (fun κ s' => [(κ, keyB s' 64 2)]) (fun κ x => [(28, .d (iD (x.1 : Nat)))]) [64] (fun κ x => [(64, some [.d (iD 0), .d (.v (.slice none 0 0)), .own κ 37 3 (encVs x.2)])]) [] (fun κ x => [(κ, some (x.2.length, 37, 3))]) (fun x : Nat × List V => x.1 ≤ r.kids.length ∧ x.2 = (r.kids.take x.1).map (dflt D f)) (fun x => r.kids.length - x.1) ((0, [])) hks (fun _ => rfl) ⟨Nat.zero_le _, rfl⟩ wkS ?_; intro x hx; refine headS ?_
    obtain ⟨k, vs⟩ := x
    simp only at hx ⊢
    obtain ⟨hx1, hx2⟩ := hx
    have hvl : vs.length = k := by rw [hx2, List.length_map, List.length_take]; omega
    refine walkS ?_
    refine aw_condS rfl (fun hk => ?_) (fun hk => ?_)
    · have hkl : k < r.kids.length := by omega
      have hkk : r.kids[k]? = some (r.kids[k]) := List.getElem?_eq_getElem hkl
      have HH := HK k hkl
      (repeat (first | refine walkS ?_ | (refine ow_make ?_ (fun x hx => by cases hx <;> (rw [hsz]; decide)) rfl rfl ?_ te22 tr5 tz5 ?_; (first | exact trivial | exact rfl); omega; simp only [St.set, List.map_cons, List.map_nil, Nat.reduceAdd]) | (refine callPre ?_; (first | refine callN_funS rfl (HH) ?_)) | (refine callPreL ?_; (first | refine callL_funS rfl (HH) ?_))))
      refine ⟨(k + 1, vs ++ [dflt D f r.kids[k]]), ⟨by simp only; omega, by simp only; rw [hx2, List.take_succ_eq_append_getElem hkl, List.map_append]; rfl⟩, by simp only; omega, ?_⟩
      exact wkS
    · refine walkS ?_
      rw [List.take_of_length_le (by omega)] at hx2
      (refine aw_ret ?_; (simp only [Fin, Try.results52]; refine finS ?_); refine ⟨_, [], .inr (.inl ⟨encV (.mk 0 [] vs), rfl, rfl, ?_⟩), List.nodup_nil, by rw [dflt_69 hrD (.inl h6), hx2]⟩; exact wkDS)
  refine walkS ?_
  refine aw_condS rfl (fun h7 => ?_) (fun h7 => ?_)
  · have hk7 := G.k7 h7
    have htg := tags_ge hV hr h7
    have hk1 := kids1 (r := r) (by omega)
    have ht0 : r.tags[0]? = some (r.tags.headD 0) := by cases ht : r.tags with | nil => rw [ht] at htg; simp at htg | cons x l => rfl
    have HH := HK 1 (by omega)
    rw [show r.kids[1] = kid1 r by rw [List.getElem?_eq_getElem (by omega)] at hk1; exact Option.some.inj hk1] at HH
    (repeat (first | refine walkS ?_ | (refine ow_make ?_ (fun x hx => by cases hx <;> (rw [hsz]; decide)) rfl rfl ?_ te22 tr5 tz5 ?_; (first | exact trivial | exact rfl); omega; simp only [St.set, List.map_cons, List.map_nil, Nat.reduceAdd]) | (refine callPre ?_; (first | refine callN_funS rfl (HH) ?_)) | (refine callPreL ?_; (first | refine callL_funS rfl (HH) ?_))))
    (refine aw_ret ?_; (simp only [Fin, Try.results52]; refine finS ?_); refine ⟨_, [], .inr (.inl ⟨encV (.mk (r.tags.headD 0) [] [dflt D f (kid1 r)]), rfl, rfl, ?_⟩), List.nodup_nil, by rw [dflt_7 hrD h7]⟩; exact wkDS2)
  refine walkS ?_
  refine aw_condS rfl (fun h9 => ?_) (fun h9 => ?_)
  · have hk9 := G.k9 h9
    have hk0' := kids0 (r := r) (by omega)
    have HH := HK 0 (by omega)
    have e0 : r.kids[0] = kid0 r := by rw [List.getElem?_eq_getElem (by omega)] at hk0'; exact Option.some.inj hk0'
    rw [e0] at HH
    have ek : r.kids = [kid0 r] := by
      refine List.ext_getElem (by simp; omega) fun j h1 h2 => ?_
      have : j = 0 := by simp at h2; omega
      subst this
      rw [e0]; rfl
    (repeat (first | refine walkS ?_ | (refine ow_make ?_ (fun x hx => by cases hx <;> (rw [hsz]; decide)) rfl rfl ?_ te22 tr5 tz5 ?_; (first | exact trivial | exact rfl); omega; simp only [St.set, List.map_cons, List.map_nil, Nat.reduceAdd]) | (refine callPre ?_; (first | refine callN_funS rfl (HH) ?_)) | (refine callPreL ?_; (first | refine callL_funS rfl (HH) ?_))))
    (refine aw_ret ?_; (simp only [Fin, Try.results52]; refine finS ?_); refine ⟨_, [], .inr (.inl ⟨encV (.mk 0 [] [dflt D f (kid0 r)]), rfl, rfl, ?_⟩), List.nodup_nil, by rw [dflt_69 hrD (.inr h9), ek]; rfl⟩; exact wkDS2)
  · refine walkS ?_
    (refine aw_ret ?_; (simp only [Fin, Try.results52]; refine finS ?_); refine ⟨_, [], .inr (.inl ⟨encV V0, rfl, rfl, ?_⟩), List.nodup_nil, by rw [dflt_o hrD ⟨h3, h6, h7, h9⟩]⟩; exact wkDS)
theorem dfltS_all (hD : DB M D) (hM : M ≤ 1048576) (hV : descP D) : ∀ f, DfS D f
  | 0 => fun i h0 _ h => by omega
  | f + 1 => dfltS_step hD hM hV (dfltS_all hD hM hV f)
theorem dfltI_all (hD : DB M D) (hM : M ≤ 1048576) (hV : descP D) : ∀ f, DfI D f
  | 0 => fun i h0 _ h => by omega
  | f + 1 => dfltI_step hD hM hV (dfltI_all hD hM hV f)
noncomputable def dfV (D : List RuleD) (i : Int) : V := if vKnown D i = true then dflt D D.length i else V0
theorem defaultS_c (hD : DB M D) (hM : M ≤ 1048576) (i : Int) : AC Try.prog 18 [.d (encD D), .d (iD i)] none (fun r' _ => r' = .d (encV (dfV D i))) := by
  cases hk : vKnown D i with
  | false =>
    rw [dfV, if_neg (by rw [hk]; simp)]
    refine calls_body Try.func18 rfl Try.call18 Try.ntmps18 (by simp) (by simp [ArgsOk]) (by simp [Rz.nkL, Rz.nk]) fun en hsz hks hk0 => ?_; refine enS ?_
    (repeat (first | refine walkS ?_ | (refine callPre ?_; (first | refine callN_funS rfl ((l7Rule_c hD hM i).eqv (r1 := .d (bD false)) (by rw [hk])) ?_)) | (refine callPreL ?_; (first | refine callL_funS rfl ((l7Rule_c hD hM i).eqv (r1 := .d (bD false)) (by rw [hk])) ?_))))
    refine aw_condS rfl (fun hc => ?_) (fun hc => ?_)
    · refine walkS ?_
      (refine aw_ret ?_; (simp only [Fin, Try.results18]; refine finS ?_); refine ⟨_, [], .inr (.inl ⟨encV V0, rfl, rfl, ?_⟩), List.nodup_nil, rfl⟩; exact wkDS)
    · (first | exact absurd trivial hc | exact absurd rfl hc | (cases hc; done) | omega | exact absurd hc (by decide) | (simp at hc; done))
  | true =>
    obtain ⟨v1, v2, v3⟩ := vKnown_spec hk
    have HF := dfltS_all hD hM v1 D.length i v2 v3 v3
    rw [dfV, if_pos hk]
    refine calls_body Try.func18 rfl Try.call18 Try.ntmps18 (by simp) (by simp [ArgsOk]) (by simp [Rz.nkL, Rz.nk]) fun en hsz hks hk0 => ?_; refine enS ?_
    (repeat (first | refine walkS ?_ | (refine callPre ?_; (first | refine callN_funS rfl ((l7Rule_c hD hM i).eqv (r1 := .d (bD true)) (by rw [hk])) ?_ | refine callN_funS rfl (HF) ?_)) | (refine callPreL ?_; (first | refine callL_funS rfl ((l7Rule_c hD hM i).eqv (r1 := .d (bD true)) (by rw [hk])) ?_ | refine callL_funS rfl (HF) ?_))))
    refine aw_condS rfl (fun hc => ?_) (fun hc => ?_)
    · (first | exact absurd trivial hc | exact absurd rfl hc | (cases hc; done) | omega | exact absurd hc (by decide) | (simp at hc; done))
    · (repeat (first | refine walkS ?_ | (refine callPre ?_; (first | refine callN_funS rfl (HF) ?_)) | (refine callPreL ?_; (first | refine callL_funS rfl (HF) ?_))))
      (refine aw_ret ?_; (simp only [Fin, Try.results18]; refine finS ?_); refine ⟨_, [], .inr (.inl ⟨encV (dflt D D.length i), rfl, rfl, ?_⟩), List.nodup_nil, rfl⟩; exact wkDS)
theorem defaultI_c (hD : DB M D) (hM : M ≤ 1048576) (i : Int) : AC Try.prog 68 [.d (encD D), .d (iD i)] none (fun r' _ => r' = .d (encV (dfV D i))) := by
  have HK := known_c hD hM i
  cases hk : vKnown D i with
  | false =>
    rw [hk] at HK
    rw [dfV, if_neg (by rw [hk]; simp)]
    refine calls_body Try.func68 rfl Try.call68 Try.ntmps68 (by simp) (by simp [ArgsOk]) (by simp [Rz.nkL, Rz.nk]) fun en hsz hks hk0 => ?_; refine enS ?_
    (repeat (first | refine walkS ?_ | (refine callPre ?_; (first | refine callN_funS rfl (HK) ?_)) | (refine callPreL ?_; (first | refine callL_funS rfl (HK) ?_))))
    refine aw_condS rfl (fun hc => ?_) (fun hc => ?_)
    · refine walkS ?_
      (refine aw_ret ?_; (simp only [Fin, Try.results68]; refine finS ?_); refine ⟨_, [], .inr (.inl ⟨encV V0, rfl, rfl, ?_⟩), List.nodup_nil, rfl⟩; exact wkDS)
    · (first | exact absurd trivial hc | exact absurd rfl hc | (cases hc; done) | omega | exact absurd hc (by decide) | (simp at hc; done))
  | true =>
    rw [hk] at HK
    obtain ⟨v1, v2, v3⟩ := vKnown_spec hk
    have HF := dfltI_all hD hM v1 D.length i v2 v3 v3
    rw [dfV, if_pos hk]
    refine calls_body Try.func68 rfl Try.call68 Try.ntmps68 (by simp) (by simp [ArgsOk]) (by simp [Rz.nkL, Rz.nk]) fun en hsz hks hk0 => ?_; refine enS ?_
    (repeat (first | refine walkS ?_ | (refine callPre ?_; (first | refine callN_funS rfl (HK) ?_ | refine callN_funS rfl (HF) ?_)) | (refine callPreL ?_; (first | refine callL_funS rfl (HK) ?_ | refine callL_funS rfl (HF) ?_))))
    refine aw_condS rfl (fun hc => ?_) (fun hc => ?_)
    · (first | exact absurd trivial hc | exact absurd rfl hc | (cases hc; done) | omega | exact absurd hc (by decide) | (simp at hc; done))
    · (repeat (first | refine walkS ?_ | (refine callPre ?_; (first | refine callN_funS rfl (HF) ?_)) | (refine callPreL ?_; (first | refine callL_funS rfl (HF) ?_))))
      (refine aw_ret ?_; (simp only [Fin, Try.results68]; refine finS ?_); refine ⟨_, [], .inr (.inl ⟨encV (dflt D D.length i), rfl, rfl, ?_⟩), List.nodup_nil, rfl⟩; exact wkDS)
end
end Go.Proofs.Ytnndpimlfibncaa.Eng
