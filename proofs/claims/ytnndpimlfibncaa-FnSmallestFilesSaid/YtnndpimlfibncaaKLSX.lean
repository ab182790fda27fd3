/-
  The smallest file, the program's; a drawn description; what the law of the smallest files calls.

  Plain law: the default value of a drawn description: valid, small, not shorter than the least size.

  The law: FnSmallestFiles.
-/
import Derived.Test.YtnndpimlfibncaaKNPF
import Derived.Test.YtnndpimlfibncaaKN61
import Derived.Test.YtnndpimlfibncaaKNSZ
import Derived.Test.YtnndpimlfibncaaKNDA
import Derived.Test.YtnndpimlfibncaaKN9
import Derived.Test.YtnndpimlfibncaaKPDX
import Derived.Test.YtnndpimlfibncaaKPure17
import Derived.Test.YtnndpimlfibncaaKPure21
import Derived.Test.YtnndpimlfibncaaKN49
import Derived.Test.YtnndpimlfibncaaKPLP
set_option linter.unusedSimpArgs false
set_option linter.unusedVariables false
set_option linter.defProp false
set_option maxRecDepth 100000
set_option maxHeartbeats 4000000
namespace Go.Proofs.Ytnndpimlfibncaa.Eng
open Go Go.RowKit

theorem AC.ownd3 {P : Program} {f : FuncId} {args : List A} {e : TypeId} {z : Nat} {es : List (List D)} {y : D} (h : AC P f args none fun r _ => r = .tup [.own e z es, .d y]) : AC P f args none fun r _ => r = .d (.tup [.sl z es, y]) :=
  ⟨h.1, fun w C β F0 vs h1 h2 h3 h4 => (h.2 w C β F0 vs h1 h2 h3 h4).mono fun x w' ⟨v, r, bx', C', F, F', he', hq, hb, g1, g2, g3, g4, g5, g6, g7, g8⟩ => by
    subst hq
    cases bx' with
    | some x => simp at hb
    | none =>
      unfold BoxO at g6
      subst g6
      refine ⟨v, .d (.tup [.sl z es, y]), none, C', [], [], he', rfl, rfl, g1, g2, g3, g4, ?_, rfl, by simp [XO], fun b' hb' => by cases hb'⟩
      unfold RepZ at g5 ⊢
      obtain ⟨us, rfl, g5⟩ := g5
      refine ⟨rfl, ?_⟩
      unfold RepZL at g5
      obtain ⟨u, us', F1, F2, rfl, rfl, k1, k2⟩ := g5
      unfold RepZL at k2
      obtain ⟨u2, us2, F3, F4, rfl, rfl, k2, k3⟩ := k2
      unfold RepZL at k3
      obtain ⟨rfl, rfl⟩ := k3
      unfold RepZ at k2
      unfold RepD
      refine ⟨_, rfl, ?_⟩
      unfold RepL
      refine ⟨u, _, rfl, ?_, ?_⟩
      · have hw : wkD (.sl z es) (.own 0 e z es) := by unfold wkD; exact .inr ⟨_, _, _, rfl, dleLL_refl _⟩
        unfold RepZ at k1
        rcases k1 with ⟨rfl, rfl, _⟩ | ⟨b, cp, _, k1, _⟩
        · exact wkD_rep (G := ⟨fun _ => none, fun _ => 0, C'⟩) hw (by unfold RepA RepOwn; exact .inl ⟨rfl, rfl, rfl⟩)
        · exact wkD_rep (G := ⟨fun _ => some b, fun _ => cp, C'⟩) hw (by unfold RepA; exact k1)
      · unfold RepL
        refine ⟨u2, _, rfl, k2.2, ?_⟩
        unfold RepL
        rfl⟩
section
variable {D : List RuleD} {M : Nat}
noncomputable def smR (D : List RuleD) : List UInt8 × Bool := if 400 < minOf D ((D.length : Int) - 1) then ([], false) else prR D ((D.length : Int) - 1) (dfV D ((D.length : Int) - 1))
private def tyF := And.intro (And.intro (And.intro (And.intro (And.intro (And.intro tb22 te22) (And.intro te24 te33)) (And.intro (And.intro te60 te61) (And.intro tf26_0 tf37_0))) (And.intro (And.intro (And.intro tf37_1 tf37_2) (And.intro tf63_0 tf63_1)) (And.intro (And.intro tf63_2 tf63_3) (And.intro tf63_4 (And.intro tf63_5 tf63_6))))) (And.intro (And.intro (And.intro (And.intro tf63_7 tk22) (And.intro tk24 tk26)) (And.intro (And.intro tk3 tk33) (And.intro tk37 (And.intro tk4 tk5)))) (And.intro (And.intro (And.intro tk60 tk61) (And.intro tk63 tk73)) (And.intro (And.intro tk9 tp26) (And.intro tp37 (And.intro tp63 tr22)))))) (And.intro (And.intro (And.intro (And.intro (And.intro tr24 tr26) (And.intro tr3 tr33)) (And.intro (And.intro tr37 tr4) (And.intro tr5 tr60))) (And.intro (And.intro (And.intro tr61 tr63) (And.intro tr73 tr9)) (And.intro (And.intro tu22 tu24) (And.intro tu3 (And.intro tu33 tu4))))) (And.intro (And.intro (And.intro (And.intro tu5 tu60) (And.intro tu61 tu73)) (And.intro (And.intro tu9 tz22) (And.intro tz24 (And.intro tz26 tz3)))) (And.intro (And.intro (And.intro tz33 tz37) (And.intro tz4 tz5)) (And.intro (And.intro tz60 tz61) (And.intro tz63 (And.intro tz73 tz9))))))
theorem smallI_c (hD : DB M D) (hM : M ≤ 1048576) (hv : VB 1048576 (dfV D ((D.length : Int) - 1))) (ht : totV (dfV D ((D.length : Int) - 1)) ≤ 1048576) : AC Try.prog 31 [.d (encD D)] none (fun r' _ => r' = .d (.tup [encB (smR D).1, bD (smR D).2])) := by
  have R := rootI_c hD hM
  have N := minSizeI_c hD hM ((D.length : Int) - 1)
  have V := defaultI_c hD hM ((D.length : Int) - 1)
  have P := AC.ownd3 (printFI_c hD hM hv ht)
  by_cases h : 400 < minOf D ((D.length : Int) - 1)
  · have hs : smR D = ([], false) := if_pos h
    rw [hs]
    generalize minOf D ((D.length : Int) - 1) = m at *
    have d1 : decide ((400 : Int) < m) = true := decide_eq_true h
    refine calls_body Try.func31 rfl Try.call31 Try.ntmps31 (by simp) (by simp [ArgsOk]) (by simp [Rz.nkL, Rz.nk]) fun en hsz hks hk0 => ?_; refine enS ?_
    (repeat (first | refine ctlS ?_ | (refine ol_go ?_ (fun K1 hK1 => ?_); (first | exact trivial | exact rfl); refine evS ?_; (try simp only [d1]); refine hK1 _ _ ?_; clear hK1 K1) | (refine ow_go ?_ (fun x hx => by cases hx <;> (rw [hsz]; decide)) (fun K1 hK1 => ?_); (first | exact trivial | exact rfl); refine evS ?_; (try simp only [d1]); refine hK1 _ ?_; clear hK1 K1) | refine skipS ?_ | (refine callPre ?_; (first | refine callN_funS rfl (R) ?_ | refine callN_funS rfl (N) ?_)) | (refine callPreL ?_; (first | refine callL_funS rfl (R) ?_ | refine callL_funS rfl (N) ?_))))
    refine aw_condS rfl (fun hc => ?_) (fun hc => ?_)
    · refine walkS ?_
      (refine aw_ret ?_; (simp only [Fin, Try.results31]; refine finS ?_); refine ⟨_, [], .inr (.inl ⟨.tup [encB [], bD false], rfl, rfl, ?_⟩), List.nodup_nil, rfl⟩; exact wkDS)
    · (first | exact absurd trivial hc | exact absurd rfl hc | (cases hc; done) | omega | exact absurd hc (by decide) | (simp at hc; done))
  · have hs : smR D = prR D ((D.length : Int) - 1) (dfV D ((D.length : Int) - 1)) := if_neg h
    rw [hs]
    generalize minOf D ((D.length : Int) - 1) = m at *
    generalize prR D ((D.length : Int) - 1) (dfV D ((D.length : Int) - 1)) = x at *
    generalize dfV D ((D.length : Int) - 1) = v at *
    obtain ⟨l, b⟩ := x
    simp only at P ⊢
    have d1 : decide ((400 : Int) < m) = false := decide_eq_false h
    refine calls_body Try.func31 rfl Try.call31 Try.ntmps31 (by simp) (by simp [ArgsOk]) (by simp [Rz.nkL, Rz.nk]) fun en hsz hks hk0 => ?_; refine enS ?_
    (repeat (first | refine ctlS ?_ | (refine ol_go ?_ (fun K1 hK1 => ?_); (first | exact trivial | exact rfl); refine evS ?_; (try simp only [d1]); refine hK1 _ _ ?_; clear hK1 K1) | (refine ow_go ?_ (fun x hx => by cases hx <;> (rw [hsz]; decide)) (fun K1 hK1 => ?_); (first | exact trivial | exact rfl); refine evS ?_; (try simp only [d1]); refine hK1 _ ?_; clear hK1 K1) | refine skipS ?_ | (refine callPre ?_; (first | refine callN_funS rfl (R) ?_ | refine callN_funS rfl (N) ?_)) | (refine callPreL ?_; (first | refine callL_funS rfl (R) ?_ | refine callL_funS rfl (N) ?_))))
    refine aw_condS rfl (fun hc => ?_) (fun hc => ?_)
    · (first | exact absurd trivial hc | exact absurd rfl hc | (cases hc; done) | omega | exact absurd hc (by decide) | (simp at hc; done))
    · (repeat (first | refine walkS ?_ | (refine callPre ?_; (first | refine callN_funS rfl (R) ?_ | refine callN_funS rfl (V) ?_ | refine callN_funS rfl (P) ?_)) | (refine callPreL ?_; (first | refine callL_funS rfl (R) ?_ | refine callL_funS rfl (V) ?_ | refine callL_funS rfl (P) ?_))))
      (refine aw_ret ?_; (simp only [Fin, Try.results31]; refine finS ?_); refine ⟨_, [], .inr (.inl ⟨.tup [encB l, bD b], rfl, rfl, ?_⟩), List.nodup_nil, rfl⟩; exact wkDS)
end
section
variable {D : List RuleD} {M : Nat} {b : List UInt8}
noncomputable def fileQ (D : List RuleD) (b : List UInt8) : Bool := (((readF D b).2.2 : Int) == 0)
theorem isFileQ_c (hD : DB M D) (hM : M ≤ 1048576) (hb : b.length ≤ 1048576) : AC Try.prog 33 [.d (encD D), .d (encB b)] none (fun r' _ => r' = .d (bD (fileQ D b))) := by
  have HV := readFile_c hD hM hb
  have hf : fileQ D b = (((readF D b).2.2 : Int) == 0) := rfl
  generalize readF D b = x at HV hf
  obtain ⟨v, q, c⟩ := x
  refine calls_body Try.func33 rfl Try.call33 Try.ntmps33 (by simp) (by simp [ArgsOk]) (by simp [Rz.nkL, Rz.nk]) fun en hsz hks hk0 => ?_; refine enS ?_
  (repeat (first | refine walkS ?_ | (refine callPre ?_; (first | refine callN_funS rfl (HV) ?_)) | (refine callPreL ?_; (first | refine callL_funS rfl (HV) ?_))))
  (refine aw_ret ?_; (simp only [Fin, Try.results33]; refine finS ?_); exact ⟨_, _, .inl ⟨rfl, rfl⟩, List.nodup_nil, by rw [hf]⟩)
end
section
variable {B : List UInt8}
theorem drawD_c (hB : B.length ≤ 1048576) : AC Try.prog 14 [.d (encB B)] none (fun r' _ => r' = .d (encD (descC (newC B)).1)) := by
  have hb0 : (newC B).b.length ≤ 1048576 := hB
  have n1 := newC_c hB
  have d1 := descC_c (p := fun _ => True) (newC B) hb0
  generalize descC (newC B) = z at d1 ⊢
  obtain ⟨D, c'⟩ := z
  simp only at d1 ⊢
  refine calls_body Try.func14 rfl Try.call14 Try.ntmps14 (by simp) (by simp [ArgsOk]) (by simp [Rz.nkL, Rz.nk]) fun en hsz hks hk0 => ?_; refine enS ?_
  (repeat (first | refine walkS ?_ | (refine ol_call1r (k := 32) ?_ rfl (d1) rfl rfl ⟨0, List.mem_cons_self⟩ ?_; (first | exact trivial | exact rfl); simp only [St.set, List.map_cons, List.map_nil, Nat.reduceAdd, Nat.reduceMul]) | (refine ow_call1d (k := 32) ?_ (fun x hx => by cases hx <;> (rw [hsz]; decide)) rfl (d1) rfl rfl ?_; (first | exact trivial | exact rfl); simp only [St.set, List.map_cons, List.map_nil, Nat.reduceAdd]) | (refine ol_call1d (k := 32) ?_ rfl (d1) rfl rfl ⟨0, List.mem_cons_self⟩ ?_; (first | exact trivial | exact rfl); simp only [St.set, List.map_cons, List.map_nil, Nat.reduceAdd]) | (refine callPre ?_; (first | refine callN_funS rfl (n1) ?_)) | (refine callPreL ?_; (first | refine callL_funS rfl (n1) ?_))))
  (refine aw_ret ?_; (simp only [Fin, Try.results14]; refine finS ?_); exact ⟨_, _, .inl ⟨rfl, rfl⟩, List.nodup_nil, rfl⟩)
end
end Go.Proofs.Ytnndpimlfibncaa.Eng
namespace Go.Proofs.Ytnndpimlfibncaa.Eng
open Go.RowKit

section
variable {D : List RuleD}
theorem minS_pre (D : List RuleD) : ∀ n i, i ≤ n → ∃ zs, minS D n = minS D i ++ zs
  | 0, i, h => ⟨[], by rw [show i = 0 by omega]; simp⟩
  | n + 1, i, h => by
    by_cases e : i = n + 1
    · subst e; exact ⟨[], by simp⟩
    · obtain ⟨zs, hz⟩ := minS_pre D n i (by omega)
      exact ⟨zs ++ [min (minN (minS D n) (ruleD D n)) 401], by rw [minS, hz, List.append_assoc]⟩
theorem atT_minS {n i : Nat} (h : i < n) : atT (minS D n) (i : Int) = min (minN (minS D i) (ruleD D i)) 401 := by
  obtain ⟨zs, hz⟩ := minS_pre D n (i + 1) (by omega)
  rw [hz, atT_app (by rw [minS_len]; omega), minS]
  simp [atT, minS_len]
theorem least_at (hV : descP D) {i : Nat} {r : RuleD} (hr : D[i]? = some r) (G : GoodR D i r) : atT (minS D D.length) (i : Int) = min (minN (minS D D.length) r) 401 := by
  have hi : i < D.length := (List.getElem?_eq_some_iff.1 hr).1
  rw [atT_minS hi, ruleD_get hr]
  obtain ⟨zs, hz⟩ := minS_pre D D.length i (by omega)
  rw [hz, minN_app (fun k hk => ?_) (fun h => ?_) (fun h => ?_)]
  · obtain ⟨j, hj, rfl⟩ := List.getElem_of_mem hk
    have := G.kid j hj
    rw [minS_len]
    omega
  · have q4 := G.k4
    have q5 := G.k5
    have q7 := G.k7
    have q9 := G.k9
    rcases h with h | h | h | h
    · have := q4 h; omega
    · have := q5 h; omega
    · have := q7 h; have := (tagsP_at hV hr h).2.1; omega
    · have := q9 h; omega
  · have := G.k7 h
    have := (tagsP_at hV hr h).2.1
    omega
theorem altK_le (ts : List Int) : ∀ (ks : List Int) (a : Int), altK ts a ks ≤ a
  | [], a => by unfold altK; exact Int.le_refl _
  | k :: ks, a => by
    have := altK_le ts ks (min a (atT ts k))
    unfold altK at this ⊢
    simp only [List.map_cons, List.foldl_cons]
    omega
theorem sumK_cons (ts : List Int) (k : Int) (ks : List Int) : sumK ts (k :: ks) = atT ts k + sumK ts ks := by
  have h : ∀ (l : List Int) (a : Int), l.foldl (· + ·) a = a + l.foldl (· + ·) 0 := fun l => by
    induction l with
    | nil => intro a; simp
    | cons x l ih => intro a; rw [List.foldl_cons, List.foldl_cons, ih (a + x), ih (0 + x)]; omega
  unfold sumK
  rw [List.map_cons, List.foldl_cons, h]
  omega
theorem prVs_sum {ts : List Int} {r : RuleD} (k6 : r.kind = 6) {g : Int → V} {n : Int} : ∀ (ks : List Int) (k : Nat), (∀ j (h : j < ks.length), itemK r n (k + j : Nat) = ks[j]) → (∀ x ∈ ks, atT ts x ≤ ((prV D x (g x)).length : Int)) → sumK ts ks ≤ ((prVs D r n k (ks.map g)).length : Int)
  | [], k, _, _ => by simp [sumK]
  | x :: ks, k, h, H => by
    have h0 := h 0 (by simp)
    rw [Nat.add_zero, List.getElem_cons_zero] at h0
    have h1 := prVs_sum (ts := ts) k6 (g := g) (n := n) ks (k + 1) (fun j hj => by
      have := h (j + 1) (by simpa using hj)
      rw [List.getElem_cons_succ] at this
      rw [show k + 1 + j = k + (j + 1) by omega]
      exact this) (fun y hy => H y (by simp [hy]))
    have h2 := H x (by simp)
    rw [sumK_cons, List.map_cons, prVs, h0, List.length_append]
    omega
theorem headD_get {l : List Int} (h : 1 ≤ l.length) : l.headD 0 = l[0] := by
  cases l with
  | nil => simp at h
  | cons x l => rfl
theorem V0_ok {i f : Nat} {r : RuleD} (hr : ruleD D i = r) (ho : ownV D r 0 0 0 = true) : Dv D i (f + 1) V0 := by
  unfold V0
  refine dv_mk (bs := []) (vs := []) hr ho (by unfold validVs; rfl) (by simp) (by simp) (.inl rfl) (by unfold VBs; trivial) (by unfold totVs; exact Nat.zero_le _)
theorem dvs_map {r : RuleD} {n : Int} {f : Nat} : ∀ (ks : List Int) (k : Nat), (∀ j (h : j < ks.length), itemK r n (k + j : Nat) = ks[j]) → (∀ x ∈ ks, 0 ≤ x ∧ Dv D x.toNat f (dflt D f x)) →
    validVs D r n k (ks.map (dflt D f)) = true ∧ VBs 1048576 (ks.map (dflt D f)) ∧ totVs (ks.map (dflt D f)) ≤ ks.length * tV f
  | [], k, _, _ => by
    simp only [List.map_nil]
    unfold validVs VBs totVs
    exact ⟨rfl, trivial, Nat.zero_le _⟩
  | x :: ks, k, h, H => by
    have h0 := h 0 (by simp)
    rw [Nat.add_zero, List.getElem_cons_zero] at h0
    obtain ⟨hx, d⟩ := H x (by simp)
    obtain ⟨a1, a2, a3⟩ := dvs_map ks (k + 1) (fun j hj => by
      have := h (j + 1) (by simpa using hj)
      rw [List.getElem_cons_succ] at this
      rw [show k + 1 + j = k + (j + 1) by omega]
      exact this) (fun y hy => H y (by simp [hy]))
    have d1 := d.ok
    rw [Int.toNat_of_nonneg hx] at d1
    rw [List.map_cons]
    refine ⟨?_, ?_, ?_⟩
    · rw [validVs, h0, d1, a1]; rfl
    · unfold VBs; exact ⟨d.vb, a2⟩
    · rw [totVs, List.length_cons, Nat.add_mul, Nat.one_mul]
      have := d.tot
      omega
theorem dflt_ok (hD : DInv D) (hl : D.length ≤ 9) : ∀ (f i : Nat), i < D.length → i < f → Dv D i f (dflt D f i) ∧ atT (minS D D.length) (i : Int) ≤ ((prV D i (dflt D f i)).length : Int)
  | 0, i, _, h => by omega
  | f + 1, i, hi, hf => by
    have hV := hD.desc hl
    obtain ⟨r, hr⟩ : ∃ r, D[i]? = some r := ⟨_, List.getElem?_eq_getElem hi⟩
    have G : GoodR D i r := good_of hV hr
    have hrD := ruleD_get hr
    have hdr : DR (D.take i) i r := by
      have := hD.rule i hi
      rw [List.getElem?_eq_getElem hi] at hr
      rwa [Option.some.inj hr] at this
    obtain ⟨kd1, kd2⟩ := G.kd
    have HL := least_at hV hr G
    have HK : ∀ x ∈ r.kids, (0 ≤ x ∧ Dv D x.toNat f (dflt D f x)) ∧ atT (minS D D.length) x ≤ ((prV D x (dflt D f x)).length : Int) := fun x hx => by
      obtain ⟨j, hj, rfl⟩ := List.getElem_of_mem hx
      have h := G.kid j hj
      obtain ⟨a, b⟩ := dflt_ok hD hl f (r.kids[j]).toNat (by omega) (by omega)
      rw [Int.toNat_of_nonneg h.1] at a b
      exact ⟨⟨h.1, a⟩, b⟩
    have H0 : 0 < r.kids.length → kid0 r ∈ r.kids := fun h => List.mem_of_getElem? (kids0 h)
    have H1 : 1 < r.kids.length → kid1 r ∈ r.kids := fun h => List.mem_of_getElem? (kids1 h)
    have hlim : (r.kind = 4 ∨ r.kind = 5 ∨ r.kind = 7) → 255 ≤ limD D (kid0 r) ∧ atT (minS D D.length) (kid0 r) ≤ ((ruleD D (kid0 r)).size.toNat : Int) := fun h => by
      obtain ⟨j, q, hj1, hj2, hq, hq1, hlim⟩ := head_kid G h
      refine ⟨?_, ?_⟩
      · rw [hlim]
        have : q.size = 1 ∨ q.size = 2 ∨ q.size = 3 ∨ q.size = 4 := by omega
        rcases this with e | e | e | e <;> rw [e] <;> decide
      · have hx : ruleAt D (kid0 r) = some q := by rw [hj1]; simp [ruleAt, hj2]
        have q1 : q.kind = 1 := by
          by_cases h1 : q.kind = 1
          · exact h1
          · rw [limD_bad hx (fun h => h1 h.1)] at hlim
            have : (0 : Int) < 2 ^ (8 * q.size.toNat) := Int.pow_pos (by decide)
            omega
        have hl1 := least_at hV hj2 (good_of hV hj2)
        unfold minN at hl1
        rw [if_pos (.inl q1)] at hl1
        rw [hq1, hj1, hl1]
        omega
    by_cases k3 : r.kind = 3
    · have hs := G.k3 k3
      have hs2 := hdr.sz3 k3
      rw [dflt_3 hrD k3]
      refine ⟨dv_mk hrD ?_ (by unfold validVs; rfl) (by rw [List.length_replicate]; omega) (by simp) (.inl rfl) (by unfold VBs; trivial) (by unfold totVs; exact Nat.zero_le _), ?_⟩
      · rw [ownV_3 k3, decide_eq_true_eq, List.length_replicate]
        exact ⟨rfl, by omega, rfl⟩
      · rw [HL, prV, hrD, headB_3 k3, List.length_append, List.length_replicate]
        unfold minN
        rw [if_pos (.inr k3)]
        omega
    by_cases k6 : r.kind = 6
    · have hns := hdr.ns
      have hkn : r.kids.length = r.names.length := by
        have hk := hdr.kd []
        rw [kl_6 k6] at hk
        simp only [Bool.and_eq_true] at hk
        have := shape_len (by omega) (shapeL_b hk.1)
        omega
      have hit : ∀ j (h : j < r.kids.length), itemK r 0 (0 + j : Nat) = r.kids[j] := fun j hj => by rw [Nat.zero_add, itemK_6 k6 hj]
      obtain ⟨a1, a2, a3⟩ := dvs_map (D := D) (r := r) (n := 0) (f := f) r.kids 0 hit (fun x hx => (HK x hx).1)
      rw [dflt_69 hrD (.inl k6)]
      refine ⟨dv_mk hrD ?_ a1 (by simp) (by rw [List.length_map]; omega) (.inr rfl) a2 (by rw [List.length_map]; exact a3), ?_⟩
      · rw [ownV_6 k6, decide_eq_true_eq, List.length_map]
        exact ⟨rfl, rfl, rfl⟩
      · have hs := prVs_sum (D := D) (ts := minS D D.length) k6 (g := dflt D f) (n := 0) r.kids 0 hit (fun x hx => (HK x hx).2)
        rw [HL, prV, hrD, headB_no (.inl k6), List.nil_append, List.length_append]
        unfold minN
        rw [if_neg (by omega), if_neg (by omega), if_neg (by omega), if_pos k6]
        omega
    by_cases k9 : r.kind = 9
    · have hkl := G.k9 k9
      have hk0 := kids0 (r := r) (by omega)
      have hks : r.kids = [kid0 r] := by
        cases hq : r.kids with
        | nil => rw [hq] at hkl; simp at hkl
        | cons x l =>
          cases l with
          | nil => rw [hq] at hk0; simp at hk0; rw [hk0]
          | cons y l => rw [hq] at hkl; simp at hkl
      obtain ⟨⟨p1, p2⟩, p3⟩ := HK _ (H0 (by omega))
      have d1 := p2.ok
      rw [Int.toNat_of_nonneg p1] at d1
      rw [dflt_69 hrD (.inr k9), hks, List.map_cons, List.map_nil]
      have hit : itemK r 0 0 = kid0 r := itemK_8 (.inr k9)
      refine ⟨dv_mk hrD ?_ ?_ (by simp) (by simp) (.inr rfl) ?_ ?_, ?_⟩
      · rw [ownV_9 k9]
        simp
      · rw [validVs, hit, d1]; unfold validVs; rfl
      · unfold VBs; exact ⟨p2.vb, by unfold VBs; trivial⟩
      · rw [totVs, totVs]
        have := p2.tot
        simp
        exact this
      · rw [HL, prV, hrD, headB_no (.inr k9), List.nil_append, List.length_append, tailB_9 k9, prVs, prVs, hit, List.append_nil]
        unfold minN
        rw [if_neg (by omega), if_neg (by omega), if_neg (by omega), if_neg (by omega), if_neg (by omega), if_pos k9]
        simp only [List.length_singleton]
        omega
    by_cases k7 : r.kind = 7
    · have hk7 := G.k7 k7
      have htg := tags_ge hV hr k7
      obtain ⟨_, _, hT⟩ := tagsP_at hV hr k7
      obtain ⟨⟨p1, p2⟩, p3⟩ := HK _ (H1 (by omega))
      have d1 := p2.ok
      rw [Int.toNat_of_nonneg p1] at d1
      have hh : r.tags.headD 0 = r.tags[0] := headD_get htg
      have htx : tagIx r.tags (r.tags.headD 0) = some 0 := by rw [hh]; exact tagIx_self hT (by omega)
      have hit : itemK r (r.tags.headD 0) 0 = kid1 r := by
        rw [itemK_7 k7 htx (by omega)]
        have k := kids1 (r := r) (by omega)
        rw [List.getElem?_eq_getElem (by omega)] at k
        exact Option.some.inj k
      rw [dflt_7 hrD k7]
      refine ⟨dv_mk hrD ?_ ?_ (by simp) (by simp) (.inr rfl) ?_ ?_, ?_⟩
      · rw [ownV_7 k7, decide_eq_true_eq, hit]
        exact ⟨rfl, rfl, p1⟩
      · rw [validVs, hit, d1]; unfold validVs; rfl
      · unfold VBs; exact ⟨p2.vb, by unfold VBs; trivial⟩
      · rw [totVs, totVs]
        have := p2.tot
        simp
        exact this
      · have hc := hlim (.inr (.inr k7))
        have ha := altK_le (minS D D.length) (r.kids.drop 2) (atT (minS D D.length) (kid1 r))
        rw [HL, prV, hrD, headB_7 k7, List.length_append, List.length_append, intB_len, prVs, prVs, hit, List.append_nil]
        unfold minN
        rw [if_neg (by omega), if_neg (by omega), if_neg (by omega), if_neg (by omega), if_pos k7]
        omega
    rw [dflt_o hrD ⟨k3, k6, k7, k9⟩]
    have own : ownV D r 0 0 0 = true → Dv D i (f + 1) V0 := fun h => V0_ok hrD h
    have len : prV D i V0 = headB D r 0 [] 0 := by
      unfold V0
      rw [prV, hrD, prVs, tailB_no k9]
      simp
    rw [len, HL]
    unfold minN
    by_cases k1 : r.kind = 1
    · have hs := G.k1 k1
      refine ⟨own ?_, ?_⟩
      · rw [ownV_1 k1, decide_eq_true_eq]
        have : (0 : Int) < 2 ^ (8 * r.size.toNat) := Int.pow_pos (by decide)
        exact ⟨by omega, by omega, rfl, rfl⟩
      · rw [headB_1 k1, intB_len, if_pos (.inl k1)]
        omega
    by_cases k2 : r.kind = 2
    · refine ⟨own ?_, ?_⟩
      · rw [ownV_2 k2]; simp
      · rw [headB_2 k2, if_neg (by omega), if_pos k2]
        omega
    by_cases k4 : r.kind = 4
    · have hc := hlim (.inl k4)
      refine ⟨own ?_, ?_⟩
      · rw [ownV_4 k4, decide_eq_true_eq]; exact ⟨rfl, by omega, by omega, rfl⟩
      · rw [headB_4 k4, List.length_append, intB_len, if_neg (by omega), if_neg (by omega), if_pos (.inl k4)]
        omega
    by_cases k5 : r.kind = 5
    · have hc := hlim (.inr (.inl k5))
      refine ⟨own ?_, ?_⟩
      · rw [ownV_5 k5, decide_eq_true_eq]; exact ⟨rfl, rfl, by omega, by omega⟩
      · rw [headB_5 k5, intB_len, if_neg (by omega), if_neg (by omega), if_pos (.inr k5)]
        omega
    rw [if_neg (by omega), if_neg (by omega), if_neg (by omega), if_neg (by omega), if_neg (by omega), if_neg (by omega)]
    by_cases k8 : r.kind = 8
    · refine ⟨own ?_, ?_⟩
      · rw [ownV_8 k8]; simp
      · rw [headB_8 k8]; simp; omega
    · have k10 : r.kind = 10 := by omega
      refine ⟨own ?_, ?_⟩
      · rw [ownV_10 k10]; simp
      · rw [headB_10 k10]; simp [escB]; omega
end
end Go.Proofs.Ytnndpimlfibncaa.Eng
namespace Go.Proofs.Ytnndpimlfibncaa.Eng
open Go Go.RowKit

section
variable {D : List RuleD}
theorem printed_file (hV : vDesc D = true) (hP : descP D) {i : Nat} (hi : i < D.length) (hr : (D.length : Int) - 1 = (i : Int)) {v : V} (hv : validV D i v = true) (hb : (prV D i v).length ≤ 400) : fileQ D (prV D i v) = true := by
  have h1 : rd D (prV D i v) D.length i 0 = (v, 0 + (prV D i v).length, 0) := rd_pr hP v i D.length 0 [] hi hi hv (Nat.zero_le _) (by simp)
  rw [Nat.zero_add] at h1
  have h2 : readV D (prV D i v) (i : Int) 0 = (v, (prV D i v).length, 0) := by
    unfold readV
    rw [if_pos ⟨vKnown_yes hV (by omega), by omega, hb⟩, Int.toNat_natCast]
    exact h1
  unfold fileQ readF
  rw [hr, h2]
  simp
end
theorem bigM_c (B : List UInt8) : AC Try.prog 9 [.d (encB B)] none (fun r' _ => r' = .d (bD (decide ((1048576 : Int) < B.length)))) := by
  refine calls_body Try.func9 rfl Try.call9 Try.ntmps9 (by simp) (by simp [ArgsOk]) (by simp [Rz.nkL, Rz.nk]) fun en hsz hks hk0 => ?_; refine enS ?_
  refine walkS ?_
  (refine aw_ret ?_; (simp only [Fin, Try.results9]; refine finS ?_); exact ⟨_, _, .inl ⟨rfl, rfl⟩, List.nodup_nil, rfl⟩)
theorem lawSmallest_c (B : List UInt8) : AC Try.prog 7 [.d (encB B)] none (fun r' _ => r' = .d (bD true)) := by
  by_cases h0 : (1048576 : Int) < B.length
  · have b1 := bigM_c B
    rw [decide_eq_true h0] at b1
    refine calls_body Try.func7 rfl Try.call7 Try.ntmps7 (by simp) (by simp [ArgsOk]) (by simp [Rz.nkL, Rz.nk]) fun en hsz hks hk0 => ?_; refine enS ?_
    (repeat (first | refine walkS ?_ | (refine callPre ?_; (first | refine callN_funS rfl (b1) ?_)) | (refine callPreL ?_; (first | refine callL_funS rfl (b1) ?_))))
    refine aw_condS rfl (fun hc => ?_) (fun hc => ?_)
    · refine walkS ?_
      (refine aw_ret ?_; (simp only [Fin, Try.results7]; refine finS ?_); exact ⟨_, _, .inl ⟨rfl, rfl⟩, List.nodup_nil, rfl⟩)
    · (first | exact absurd trivial hc | exact absurd rfl hc | (cases hc; done) | omega | exact absurd hc (by decide) | (simp at hc; done))
  have b1 := bigM_c B
  rw [decide_eq_false h0] at b1
  have hB : B.length ≤ 1048576 := by omega
  have V1 := drawD_c hB
  have hI := descC_inv (newC B)
  have hP := descC_ok (newC B)
  have hDB : DB 1048576 (descC (newC B)).1 := DInv.db hI.1 (by have := hI.2; omega)
  generalize (descC (newC B)).1 = D at *
  have hl1 := hI.1.len
  have hV : vDesc D = true := vDesc_yes hP
  have hk : vKnown D ((D.length : Int) - 1) = true := vKnown_yes hV (by omega)
  have hr : (D.length : Int) - 1 = ((D.length - 1 : Nat) : Int) := by omega
  obtain ⟨hdv, hmin⟩ := dflt_ok hI.1 (by have := hI.2; omega) D.length (D.length - 1) (by omega) (by omega)
  have hdf : dfV D ((D.length : Int) - 1) = dflt D D.length ((D.length : Int) - 1) := by unfold dfV; rw [if_pos hk]
  have hmo : minOf D ((D.length : Int) - 1) = atT (minS D D.length) ((D.length : Int) - 1) := by unfold minOf; rw [if_pos hk]
  rw [← hr, ← hdf, ← hmo] at hmin
  rw [← hr, ← hdf] at hdv
  have htot : totV (dfV D ((D.length : Int) - 1)) ≤ 1048576 := by
    have h1 := hdv.tot
    have h2 := tV_le hI.2
    omega
  have hok := hdv.ok
  rw [← hr] at hok
  have hisv : isVal D ((D.length : Int) - 1) (dfV D ((D.length : Int) - 1)) = true := by unfold isVal; rw [hk, hok]; rfl
  have S := smallI_c hDB (Nat.le_refl _) hdv.vb htot
  have DS := defaultS_c hDB (Nat.le_refl _) ((D.length : Int) - 1)
  have E := enlS_c hDB (Nat.le_refl _) ((D.length : Int) - 1) hdv.vb htot
  have MS := minSizeS_c hDB (Nat.le_refl _) ((D.length : Int) - 1)
  have e1 : IntKind.i64.wrap ((D.length : Int) - 1) = (D.length : Int) - 1 := wrap_small (by omega) (by omega)
  by_cases hlen : (prV D ((D.length : Int) - 1) (dfV D ((D.length : Int) - 1))).length ≤ 400
  · have hpr := prR_t hisv hlen
    have hsm : smR D = (prV D ((D.length : Int) - 1) (dfV D ((D.length : Int) - 1)), true) := by
      unfold smR
      rw [if_neg (by omega), hpr]
    have hf : fileQ D (prV D ((D.length : Int) - 1) (dfV D ((D.length : Int) - 1))) = true := by
      have := printed_file hV hP (i := D.length - 1) (by omega) hr (v := dfV D ((D.length : Int) - 1)) (by rw [← hr]; exact hok) (by rw [← hr]; exact hlen)
      rwa [← hr] at this
    rw [hsm] at S
    generalize prV D ((D.length : Int) - 1) (dfV D ((D.length : Int) - 1)) = b at *
    have F := isFileQ_c hDB (Nat.le_refl _) (b := b) (by omega)
    rw [hf] at F
    generalize minOf D ((D.length : Int) - 1) = m at *
    have d1 : decide (m ≤ (b.length : Int)) = true := decide_eq_true (by omega)
    refine calls_body Try.func7 rfl Try.call7 Try.ntmps7 (by simp) (by simp [ArgsOk]) (by simp [Rz.nkL, Rz.nk]) fun en hsz hks hk0 => ?_; refine enS ?_
    (repeat (first | refine walkS ?_ | (refine callPre ?_; (first | refine callN_funS rfl (b1) ?_ | refine callN_funS rfl (V1) ?_ | refine callN_funS rfl (S) ?_)) | (refine callPreL ?_; (first | refine callL_funS rfl (b1) ?_ | refine callL_funS rfl (V1) ?_ | refine callL_funS rfl (S) ?_)) | refine aw_condT rfl ?_ | refine aw_condF rfl ?_))
    (repeat (first | refine ctlS ?_ | (refine ol_go ?_ (fun K1 hK1 => ?_); (first | exact trivial | exact rfl); refine evS ?_; (try simp only [e1, d1]); refine hK1 _ _ ?_; clear hK1 K1) | (refine ow_go ?_ (fun x hx => by cases hx <;> (rw [hsz]; decide)) (fun K1 hK1 => ?_); (first | exact trivial | exact rfl); refine evS ?_; (try simp only [e1, d1]); refine hK1 _ ?_; clear hK1 K1) | refine skipS ?_ | (refine callPre ?_; (first | refine callN_funS rfl (F) ?_ | refine callN_funS rfl (MS) ?_)) | (refine callPreL ?_; (first | refine callL_funS rfl (F) ?_ | refine callL_funS rfl (MS) ?_)) | refine aw_condT rfl ?_ | refine aw_condF rfl ?_))
    (refine aw_ret ?_; (simp only [Fin, Try.results7]; refine finS ?_); exact ⟨_, _, .inl ⟨rfl, rfl⟩, List.nodup_nil, rfl⟩)
  · have hpr := prR_l (D := D) (i := (D.length : Int) - 1) (v := dfV D ((D.length : Int) - 1)) hlen
    have hsm : smR D = ([], false) := by
      unfold smR
      split
      · rfl
      · exact hpr
    have hen : enlR D ((D.length : Int) - 1) (dfV D ((D.length : Int) - 1)) = -1 := by unfold enlR; rw [hpr]; rfl
    rw [hsm] at S
    rw [hen] at E
    generalize dfV D ((D.length : Int) - 1) = v at *
    refine calls_body Try.func7 rfl Try.call7 Try.ntmps7 (by simp) (by simp [ArgsOk]) (by simp [Rz.nkL, Rz.nk]) fun en hsz hks hk0 => ?_; refine enS ?_
    (repeat (first | refine walkS ?_ | (refine callPre ?_; (first | refine callN_funS rfl (b1) ?_ | refine callN_funS rfl (V1) ?_ | refine callN_funS rfl (S) ?_)) | (refine callPreL ?_; (first | refine callL_funS rfl (b1) ?_ | refine callL_funS rfl (V1) ?_ | refine callL_funS rfl (S) ?_)) | refine aw_condT rfl ?_ | refine aw_condF rfl ?_))
    (repeat (first | refine ctlS ?_ | (refine ol_go ?_ (fun K1 hK1 => ?_); (first | exact trivial | exact rfl); refine evS ?_; (try simp only [e1]); refine hK1 _ _ ?_; clear hK1 K1) | (refine ow_go ?_ (fun x hx => by cases hx <;> (rw [hsz]; decide)) (fun K1 hK1 => ?_); (first | exact trivial | exact rfl); refine evS ?_; (try simp only [e1]); refine hK1 _ ?_; clear hK1 K1) | refine skipS ?_ | (refine callPre ?_; (first | refine callN_funS rfl (DS) ?_ | refine callN_funS rfl (E) ?_)) | (refine callPreL ?_; (first | refine callL_funS rfl (DS) ?_ | refine callL_funS rfl (E) ?_)) | refine aw_condT rfl ?_ | refine aw_condF rfl ?_))
    (refine aw_ret ?_; (simp only [Fin, Try.results7]; refine finS ?_); exact ⟨_, _, .inl ⟨rfl, rfl⟩, List.nodup_nil, rfl⟩)
end Go.Proofs.Ytnndpimlfibncaa.Eng
