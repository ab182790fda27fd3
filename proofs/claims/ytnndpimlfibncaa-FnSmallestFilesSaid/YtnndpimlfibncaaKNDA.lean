/-
  Draws: rules, descriptions.

  Draws: descriptions; how a draw begins.
-/
import Derived.Test.YtnndpimlfibncaaKND2
import Derived.Test.YtnndpimlfibncaaKPDX
set_option linter.unusedSimpArgs false
set_option linter.unusedVariables false
set_option linter.defProp false
set_option maxRecDepth 100000
set_option maxHeartbeats 4000000
namespace Go.Proofs.Ytnndpimlfibncaa.Eng
open Go Go.RowKit

section
variable {p : Nat → Prop} {D : List RuleD} {c : Cur}
theorem mkR_1t (h : 1 < 1 + (bel (pickT c wordsL).2 3).1) : mkR c D 1 = (⟨(pickT c wordsL).1 ++ fmtN D.length, 1, 1 + (bel (pickT c wordsL).2 3).1, (once (bel (pickT c wordsL).2 3).2 2).1, [], [], [], []⟩, (once (bel (pickT c wordsL).2 3).2 2).2) := by
  unfold mkR; simp only [if_true, if_pos h]
theorem mkR_1f (h : ¬ 1 < 1 + (bel (pickT c wordsL).2 3).1) : mkR c D 1 = (⟨(pickT c wordsL).1 ++ fmtN D.length, 1, 1 + (bel (pickT c wordsL).2 3).1, false, [], [], [], []⟩, (bel (pickT c wordsL).2 3).2) := by
  unfold mkR; simp only [if_true, if_neg h]
theorem mkR_2 : mkR c D 2 = (⟨(pickT c wordsL).1 ++ fmtN D.length, 2, 0, false, (bysC (1 + (bel (pickT c wordsL).2 3).1).toNat (bel (pickT c wordsL).2 3).2).1, [], [], []⟩, (bysC (1 + (bel (pickT c wordsL).2 3).1).toNat (bel (pickT c wordsL).2 3).2).2) := rfl
theorem mkR_3 : mkR c D 3 = (⟨(pickT c wordsL).1 ++ fmtN D.length, 3, 1 + (bel (pickT c wordsL).2 4).1, false, [], [], [], []⟩, (bel (pickT c wordsL).2 4).2) := rfl
theorem mkR_4 : mkR c D 4 = (⟨(pickT c wordsL).1 ++ fmtN D.length, 4, 0, false, [], [], [], [(pickI (pickT c wordsL).2 (intIx D D.length)).1]⟩, (pickI (pickT c wordsL).2 (intIx D D.length)).2) := rfl
theorem mkR_5 : mkR c D 5 = (⟨(pickT c wordsL).1 ++ fmtN D.length, 5, 0, false, [], [], [], [(pickI (pickT c wordsL).2 (intIx D D.length)).1, (bel (pickI (pickT c wordsL).2 (intIx D D.length)).2 D.length).1]⟩, (bel (pickI (pickT c wordsL).2 (intIx D D.length)).2 D.length).2) := rfl
theorem mkR_6 : mkR c D 6 = (⟨(pickT c wordsL).1 ++ fmtN D.length, 6, 0, false, [], (seqC D.length (1 + (bel (pickT c wordsL).2 3).1).toNat (bel (pickT c wordsL).2 3).2 [] []).1.1, [], (seqC D.length (1 + (bel (pickT c wordsL).2 3).1).toNat (bel (pickT c wordsL).2 3).2 [] []).1.2⟩, (seqC D.length (1 + (bel (pickT c wordsL).2 3).1).toNat (bel (pickT c wordsL).2 3).2 [] []).2) := rfl
theorem mkR_7 : mkR c D 7 = (⟨(pickT c wordsL).1 ++ fmtN D.length, 7, 0, false, [], [], (choC D.length (1 + (bel (pickI (pickT c wordsL).2 (intIx D D.length)).2 3).1).toNat (bel (pickI (pickT c wordsL).2 (intIx D D.length)).2 3).2 [] [(pickI (pickT c wordsL).2 (intIx D D.length)).1]).1.1, (choC D.length (1 + (bel (pickI (pickT c wordsL).2 (intIx D D.length)).2 3).1).toNat (bel (pickI (pickT c wordsL).2 (intIx D D.length)).2 3).2 [] [(pickI (pickT c wordsL).2 (intIx D D.length)).1]).1.2⟩,
    (choC D.length (1 + (bel (pickI (pickT c wordsL).2 (intIx D D.length)).2 3).1).toNat (bel (pickI (pickT c wordsL).2 (intIx D D.length)).2 3).2 [] [(pickI (pickT c wordsL).2 (intIx D D.length)).1]).2) := rfl
theorem mkR_89 {k : Int} (h : k = 8 ∨ k = 9) : mkR c D k = (⟨(pickT c wordsL).1 ++ fmtN D.length, k, 0, false, [], [], [], [(bel (pickT c wordsL).2 D.length).1]⟩, (bel (pickT c wordsL).2 D.length).2) := by
  rcases h with rfl | rfl <;> rfl
theorem mkR_10 : mkR c D 10 = (⟨(pickT c wordsL).1 ++ fmtN D.length, 10, 0, false, [UInt8.ofNat (pickI (pickT c wordsL).2 [0, 10, 59, 255]).1.toNat], [], [], []⟩, (pickI (pickT c wordsL).2 [0, 10, 59, 255]).2) := rfl
theorem mkR_no {k : Int} (h : ¬ (1 ≤ k ∧ k ≤ 10)) : mkR c D k = (⟨(pickT c wordsL).1 ++ fmtN D.length, k, 0, false, [], [], [], []⟩, (pickT c wordsL).2) := by
  unfold mkR
  simp only
  repeat rw [if_neg (by omega)]
private def tyF := And.intro (And.intro (And.intro (And.intro (And.intro (And.intro tb22 te22) (And.intro te24 te60)) (And.intro (And.intro te61 tf100_0) (And.intro tf100_1 tf100_2))) (And.intro (And.intro (And.intro tf26_0 tf63_0) (And.intro tf63_1 tf63_2)) (And.intro (And.intro tf63_3 tf63_4) (And.intro tf63_5 tf63_6)))) (And.intro (And.intro (And.intro (And.intro tf63_7 tk100) (And.intro tk22 tk24)) (And.intro (And.intro tk26 tk3) (And.intro tk4 tk5))) (And.intro (And.intro (And.intro tk60 tk61) (And.intro tk63 tk73)) (And.intro (And.intro tk9 tp100) (And.intro tp26 tp63))))) (And.intro (And.intro (And.intro (And.intro (And.intro tr100 tr22) (And.intro tr24 tr26)) (And.intro (And.intro tr3 tr4) (And.intro tr5 tr60))) (And.intro (And.intro (And.intro tr61 tr63) (And.intro tr73 tr9)) (And.intro (And.intro tu22 tu24) (And.intro tu3 tu4)))) (And.intro (And.intro (And.intro (And.intro tu5 tu60) (And.intro tu61 tu73)) (And.intro (And.intro tu9 tz100) (And.intro tz22 tz24))) (And.intro (And.intro (And.intro tz26 tz3) (And.intro tz4 tz5)) (And.intro (And.intro tz60 tz61) (And.intro tz63 (And.intro tz73 tz9))))))
theorem mkR_c (hD : DB 1048576 D) (hl : D.length ≤ 9) (hb : c.b.length ≤ 1048576) (k : Int) (hk : k ≠ 1 → 0 < (intIx D D.length).length ∧ 0 < D.length) : AC Try.prog 92 [.ptr 0 0, .d (encD D), .d (iD k)] (some ((curP p c).map .d)) (drwQ p (encR (mkR c D k).1) (mkR c D k).2) := by
  have c1 := pickT_c (p := p) c hb (l := wordsL) (by decide) (by decide)
  have hb1 : (pickT c wordsL).2.b.length ≤ 1048576 := by rw [pickT_b]; exact hb
  have f1 := fmtS_c (n := D.length) (by omega)
  have c3 := bel_c (p := p) (pickT c wordsL).2 hb1 3
  have hb3 : (bel (pickT c wordsL).2 3).2.b.length ≤ 1048576 := by rw [bel_b]; exact hb1
  have g3 := bel_in (pickT c wordsL).2 (n := 3) (by omega)
  have s1 : (pickT c wordsL).1.size ≤ 4 := words_size _ (pickT_mem c (by decide))
  have s2 : (fmtN D.length).size = 1 := fmtN_size (by omega)
  refine calls_body Try.func92 rfl Try.call92 Try.ntmps92 (by simp) (by simp [ArgsOk]) (by simp [Rz.nkL, Rz.nk]) fun en hsz hks hk0 => ?_; refine enS ?_
  (repeat (first | refine walkS ?_ | (refine ol_call1r (k := 0) ?_ rfl (c1) rfl rfl ⟨0, List.mem_cons_self⟩ ?_; (first | exact trivial | exact rfl); simp only [St.set, List.map_cons, List.map_nil, Nat.reduceAdd, Nat.reduceMul]) | (refine ow_call1d (k := 0) ?_ (fun x hx => by cases hx <;> (rw [hsz]; decide)) rfl (c1) rfl rfl ?_; (first | exact trivial | exact rfl); simp only [St.set, List.map_cons, List.map_nil, Nat.reduceAdd]) | (refine ol_call1d (k := 0) ?_ rfl (c1) rfl rfl ⟨0, List.mem_cons_self⟩ ?_; (first | exact trivial | exact rfl); simp only [St.set, List.map_cons, List.map_nil, Nat.reduceAdd]) | (refine callPre ?_; (first | refine callN_funS rfl (f1) ?_)) | (refine callPreL ?_; (first | refine callL_funS rfl (f1) ?_))))
  refine aw_condS rfl (fun h1 => ?_) (fun h1 => ?_)
  · subst h1
    have o3 := once_c (p := p) (bel (pickT c wordsL).2 3).2 hb3 2
    (repeat (first | refine walkS ?_ | (refine ol_call1r (k := 0) ?_ rfl (c3) rfl rfl ⟨0, List.mem_cons_self⟩ ?_; (first | exact trivial | exact rfl); simp only [St.set, List.map_cons, List.map_nil, Nat.reduceAdd, Nat.reduceMul]) | (refine ow_call1d (k := 0) ?_ (fun x hx => by cases hx <;> (rw [hsz]; decide)) rfl (c3) rfl rfl ?_; (first | exact trivial | exact rfl); simp only [St.set, List.map_cons, List.map_nil, Nat.reduceAdd]) | (refine ol_call1d (k := 0) ?_ rfl (c3) rfl rfl ⟨0, List.mem_cons_self⟩ ?_; (first | exact trivial | exact rfl); simp only [St.set, List.map_cons, List.map_nil, Nat.reduceAdd])))
    (refine ow_gd rfl rfl (fun x hx => by cases hx <;> (rw [hsz]; decide)) (fun hg K1 hK1 => ?_) (fun hg => ?_); ((try simp only [hg]); refine evS ?_;  refine hK1 _ ?_; clear hK1 K1); rotate_left; (simp only [Bool.not_true, Bool.not_false] at hg; simp only [St.set, hg]); rotate_left)
    · (repeat (first | refine walkS ?_ | (refine ol_call1r (k := 0) ?_ rfl (o3) rfl rfl ⟨0, List.mem_cons_self⟩ ?_; (first | exact trivial | exact rfl); simp only [St.set, List.map_cons, List.map_nil, Nat.reduceAdd, Nat.reduceMul]) | (refine ow_call1d (k := 0) ?_ (fun x hx => by cases hx <;> (rw [hsz]; decide)) rfl (o3) rfl rfl ?_; (first | exact trivial | exact rfl); simp only [St.set, List.map_cons, List.map_nil, Nat.reduceAdd]) | (refine ol_call1d (k := 0) ?_ rfl (o3) rfl rfl ⟨0, List.mem_cons_self⟩ ?_; (first | exact trivial | exact rfl); simp only [St.set, List.map_cons, List.map_nil, Nat.reduceAdd])))
      simp at hg
      (refine aw_ret ?_; (simp only [Fin, Try.results92]; refine finS ?_); refine ⟨_, [], .inr (.inl ⟨.agg [sD ((pickT c wordsL).1 ++ fmtN D.length), iD (1), iD (1 + (bel (pickT c wordsL).2 3).1), bD ((once (bel (pickT c wordsL).2 3).2 2).1), .sl 1 [], .sl 1 [], .sl 1 [], .sl 1 []], rfl, rfl, ?_⟩), _, (curP p (once (bel (pickT c wordsL).2 3).2 2).2 : List Eng.D).map .d, [], rfl, toZL_d _ (curP p (once (bel (pickT c wordsL).2 3).2 2).2), by simp, by rw [mkR_1t (by omega)]; rfl, by rw [mkR_1t (by omega)]⟩; exact wkDS3)
    · refine walkS ?_
      simp at hg
      (refine aw_ret ?_; (simp only [Fin, Try.results92]; refine finS ?_); refine ⟨_, [], .inr (.inl ⟨.agg [sD ((pickT c wordsL).1 ++ fmtN D.length), iD (1), iD (1 + (bel (pickT c wordsL).2 3).1), bD (false), .sl 1 [], .sl 1 [], .sl 1 [], .sl 1 []], rfl, rfl, ?_⟩), _, (curP p (bel (pickT c wordsL).2 3).2 : List Eng.D).map .d, [], rfl, toZL_d _ (curP p (bel (pickT c wordsL).2 3).2), by simp, by rw [mkR_1f (by omega)]; rfl, by rw [mkR_1f (by omega)]⟩; exact wkDS3)
  obtain ⟨hix, hl0⟩ := hk h1
  refine walkS ?_
  refine aw_condS rfl (fun h2 => ?_) (fun h2 => ?_)
  · subst h2
    have b3 := bysC_c (p := p) (bel (pickT c wordsL).2 3).2 hb3 (n := (1 + (bel (pickT c wordsL).2 3).1).toNat) (by omega)
    have e3 : (((1 + (bel (pickT c wordsL).2 3).1).toNat : Nat) : Int) = 1 + (bel (pickT c wordsL).2 3).1 := by omega
    rw [e3] at b3
    (repeat (first | refine walkS ?_ | (refine ol_call1r (k := 0) ?_ rfl (c3) rfl rfl ⟨0, List.mem_cons_self⟩ ?_; (first | exact trivial | exact rfl); simp only [St.set, List.map_cons, List.map_nil, Nat.reduceAdd, Nat.reduceMul]) | (refine ow_call1d (k := 0) ?_ (fun x hx => by cases hx <;> (rw [hsz]; decide)) rfl (c3) rfl rfl ?_; (first | exact trivial | exact rfl); simp only [St.set, List.map_cons, List.map_nil, Nat.reduceAdd]) | (refine ol_call1d (k := 0) ?_ rfl (c3) rfl rfl ⟨0, List.mem_cons_self⟩ ?_; (first | exact trivial | exact rfl); simp only [St.set, List.map_cons, List.map_nil, Nat.reduceAdd]) | (refine ol_call1r (k := 0) ?_ rfl (b3) rfl rfl ⟨0, List.mem_cons_self⟩ ?_; (first | exact trivial | exact rfl); simp only [St.set, List.map_cons, List.map_nil, Nat.reduceAdd, Nat.reduceMul]) | (refine ow_call1d (k := 0) ?_ (fun x hx => by cases hx <;> (rw [hsz]; decide)) rfl (b3) rfl rfl ?_; (first | exact trivial | exact rfl); simp only [St.set, List.map_cons, List.map_nil, Nat.reduceAdd]) | (refine ol_call1d (k := 0) ?_ rfl (b3) rfl rfl ⟨0, List.mem_cons_self⟩ ?_; (first | exact trivial | exact rfl); simp only [St.set, List.map_cons, List.map_nil, Nat.reduceAdd])))
    (refine aw_ret ?_; (simp only [Fin, Try.results92]; refine finS ?_); refine ⟨_, [], .inr (.inl ⟨.agg [sD ((pickT c wordsL).1 ++ fmtN D.length), iD (2), iD (0), bD (false), encB (bysC (1 + (bel (pickT c wordsL).2 3).1).toNat (bel (pickT c wordsL).2 3).2).1, .sl 1 [], .sl 1 [], .sl 1 []], rfl, rfl, ?_⟩), _, (curP p (bysC (1 + (bel (pickT c wordsL).2 3).1).toNat (bel (pickT c wordsL).2 3).2).2 : List Eng.D).map .d, [], rfl, toZL_d _ (curP p (bysC (1 + (bel (pickT c wordsL).2 3).1).toNat (bel (pickT c wordsL).2 3).2).2), by simp, by rw [mkR_2]; rfl, by rw [mkR_2]⟩; exact wkDS3)
  refine walkS ?_
  refine aw_condS rfl (fun h3 => ?_) (fun h3 => ?_)
  · subst h3
    have c4 := bel_c (p := p) (pickT c wordsL).2 hb1 4
    have g4 := bel_in (pickT c wordsL).2 (n := 4) (by omega)
    (repeat (first | refine walkS ?_ | (refine ol_call1r (k := 0) ?_ rfl (c4) rfl rfl ⟨0, List.mem_cons_self⟩ ?_; (first | exact trivial | exact rfl); simp only [St.set, List.map_cons, List.map_nil, Nat.reduceAdd, Nat.reduceMul]) | (refine ow_call1d (k := 0) ?_ (fun x hx => by cases hx <;> (rw [hsz]; decide)) rfl (c4) rfl rfl ?_; (first | exact trivial | exact rfl); simp only [St.set, List.map_cons, List.map_nil, Nat.reduceAdd]) | (refine ol_call1d (k := 0) ?_ rfl (c4) rfl rfl ⟨0, List.mem_cons_self⟩ ?_; (first | exact trivial | exact rfl); simp only [St.set, List.map_cons, List.map_nil, Nat.reduceAdd])))
    (refine aw_ret ?_; (simp only [Fin, Try.results92]; refine finS ?_); refine ⟨_, [], .inr (.inl ⟨.agg [sD ((pickT c wordsL).1 ++ fmtN D.length), iD (3), iD (1 + (bel (pickT c wordsL).2 4).1), bD (false), .sl 1 [], .sl 1 [], .sl 1 [], .sl 1 []], rfl, rfl, ?_⟩), _, (curP p (bel (pickT c wordsL).2 4).2 : List Eng.D).map .d, [], rfl, toZL_d _ (curP p (bel (pickT c wordsL).2 4).2), by simp, by rw [mkR_3]; rfl, by rw [mkR_3]⟩; exact wkDS3)
  have i1 := intIx_c (p := p) hD (Nat.le_refl _) (pickT c wordsL).2 hb1 hix
  have hbi : (pickI (pickT c wordsL).2 (intIx D D.length)).2.b.length ≤ 1048576 := by rw [pickI_b]; exact hb1
  refine walkS ?_
  refine aw_condS rfl (fun h4 => ?_) (fun h4 => ?_)
  · subst h4
    (repeat (first | refine walkS ?_ | (refine ol_call1r (k := 0) ?_ rfl (i1) rfl rfl ⟨0, List.mem_cons_self⟩ ?_; (first | exact trivial | exact rfl); simp only [St.set, List.map_cons, List.map_nil, Nat.reduceAdd, Nat.reduceMul]) | (refine ow_call1d (k := 0) ?_ (fun x hx => by cases hx <;> (rw [hsz]; decide)) rfl (i1) rfl rfl ?_; (first | exact trivial | exact rfl); simp only [St.set, List.map_cons, List.map_nil, Nat.reduceAdd]) | (refine ol_call1d (k := 0) ?_ rfl (i1) rfl rfl ⟨0, List.mem_cons_self⟩ ?_; (first | exact trivial | exact rfl); simp only [St.set, List.map_cons, List.map_nil, Nat.reduceAdd])))
    (refine aw_ret ?_; (simp only [Fin, Try.results92]; refine finS ?_); refine ⟨_, [], .inr (.inl ⟨.agg [sD ((pickT c wordsL).1 ++ fmtN D.length), iD (4), iD (0), bD (false), .sl 1 [], .sl 1 [], .sl 1 [], .sl 1 [[iD ((pickI (pickT c wordsL).2 (intIx D D.length)).1)]]], rfl, rfl, ?_⟩), _, (curP p (pickI (pickT c wordsL).2 (intIx D D.length)).2 : List Eng.D).map .d, [], rfl, toZL_d _ (curP p (pickI (pickT c wordsL).2 (intIx D D.length)).2), by simp, by rw [mkR_4]; rfl, by rw [mkR_4]⟩; exact wkDS3)
  refine walkS ?_
  refine aw_condS rfl (fun h5 => ?_) (fun h5 => ?_)
  · subst h5
    have n1 := bel_c (p := p) (pickI (pickT c wordsL).2 (intIx D D.length)).2 hbi D.length
    (repeat (first | refine walkS ?_ | (refine ol_call1r (k := 0) ?_ rfl (i1) rfl rfl ⟨0, List.mem_cons_self⟩ ?_; (first | exact trivial | exact rfl); simp only [St.set, List.map_cons, List.map_nil, Nat.reduceAdd, Nat.reduceMul]) | (refine ow_call1d (k := 0) ?_ (fun x hx => by cases hx <;> (rw [hsz]; decide)) rfl (i1) rfl rfl ?_; (first | exact trivial | exact rfl); simp only [St.set, List.map_cons, List.map_nil, Nat.reduceAdd]) | (refine ol_call1d (k := 0) ?_ rfl (i1) rfl rfl ⟨0, List.mem_cons_self⟩ ?_; (first | exact trivial | exact rfl); simp only [St.set, List.map_cons, List.map_nil, Nat.reduceAdd]) | (refine ol_call1r (k := 0) ?_ rfl (n1) rfl rfl ⟨0, List.mem_cons_self⟩ ?_; (first | exact trivial | exact rfl); simp only [St.set, List.map_cons, List.map_nil, Nat.reduceAdd, Nat.reduceMul]) | (refine ow_call1d (k := 0) ?_ (fun x hx => by cases hx <;> (rw [hsz]; decide)) rfl (n1) rfl rfl ?_; (first | exact trivial | exact rfl); simp only [St.set, List.map_cons, List.map_nil, Nat.reduceAdd]) | (refine ol_call1d (k := 0) ?_ rfl (n1) rfl rfl ⟨0, List.mem_cons_self⟩ ?_; (first | exact trivial | exact rfl); simp only [St.set, List.map_cons, List.map_nil, Nat.reduceAdd])))
    (refine aw_ret ?_; (simp only [Fin, Try.results92]; refine finS ?_); refine ⟨_, [], .inr (.inl ⟨.agg [sD ((pickT c wordsL).1 ++ fmtN D.length), iD (5), iD (0), bD (false), .sl 1 [], .sl 1 [], .sl 1 [], .sl 1 [[iD ((pickI (pickT c wordsL).2 (intIx D D.length)).1)], [iD ((bel (pickI (pickT c wordsL).2 (intIx D D.length)).2 D.length).1)]]], rfl, rfl, ?_⟩), _, (curP p (bel (pickI (pickT c wordsL).2 (intIx D D.length)).2 D.length).2 : List Eng.D).map .d, [], rfl, toZL_d _ (curP p (bel (pickI (pickT c wordsL).2 (intIx D D.length)).2 D.length).2), by simp, by rw [mkR_5]; rfl, by rw [mkR_5]⟩; exact wkDS3)
  refine walkS ?_
  refine aw_condS rfl (fun h6 => ?_) (fun h6 => ?_)
  · subst h6
    obtain ⟨m, hm⟩ : ∃ m, m = (1 + (bel (pickT c wordsL).2 3).1).toNat := ⟨_, rfl⟩
    have hm1 : 1 + (bel (pickT c wordsL).2 3).1 = (m : Int) := by omega
    have hm3 : m ≤ 3 := by omega
    rw [mkR_6, ← hm]
    (repeat (first | refine ctlS ?_ | (refine ol_go ?_ (fun K1 hK1 => ?_); (first | exact trivial | exact rfl); refine evS ?_; (try simp only [hm1]); refine hK1 _ _ ?_; clear hK1 K1) | (refine ow_go ?_ (fun x hx => by cases hx <;> (rw [hsz]; decide)) (fun K1 hK1 => ?_); (first | exact trivial | exact rfl); refine evS ?_; (try simp only [hm1]); refine hK1 _ ?_; clear hK1 K1) | refine skipS ?_ | (refine ol_call1r (k := 0) ?_ rfl (c3) rfl rfl ⟨0, List.mem_cons_self⟩ ?_; (first | exact trivial | exact rfl); simp only [St.set, List.map_cons, List.map_nil, Nat.reduceAdd, Nat.reduceMul]) | (refine ow_call1d (k := 0) ?_ (fun x hx => by cases hx <;> (rw [hsz]; decide)) rfl (c3) rfl rfl ?_; (first | exact trivial | exact rfl); simp only [St.set, List.map_cons, List.map_nil, Nat.reduceAdd]) | (refine ol_call1d (k := 0) ?_ rfl (c3) rfl rfl ⟨0, List.mem_cons_self⟩ ?_; (first | exact trivial | exact rfl); simp only [St.set, List.map_cons, List.map_nil, Nat.reduceAdd])))
    refine aw_loopS [0, 4, 6, 7, 8, 22] (fun κ s' => [(κ, keyB s' 112 5), (κ + 1, keyB s' 112 7)]) (fun _ x => [(9, .d (iD (x.1 : Nat)))]) [0, 112] (fun κ x => [(0, some ((curP p x.2.1).map .d)), (112, some [.d (sD ((pickT c wordsL).1 ++ fmtN D.length)), .d (iD 6), .d (iD 0), .d (bD false), .d (.v (.slice none 0 0)), .own κ 9 1 (x.2.2.1.map fun s => [sD s]), .d (.v (.slice none 0 0)), .own (κ + 1) 3 1 (x.2.2.2.map fun n => [iD n])])]) [] (fun κ x => [(κ, some (x.2.2.1.length, 9, 1)), (κ + 1, some (x.2.2.2.length, 3, 1))]) (fun x : Nat × Cur × List ByteArray × List Int => (x.2.2.1.length + x.1 = m ∧ x.2.2.2.length = x.2.2.1.length ∧ x.2.1.b.length ≤ 1048576) ∧ seqC D.length x.1 x.2.1 x.2.2.1 x.2.2.2 = seqC D.length m (bel (pickT c wordsL).2 3).2 [] []) (fun x => x.1) ((m, (bel (pickT c wordsL).2 3).2, [], [])) hks (fun _ => rfl) ⟨⟨by simp, rfl, hb3⟩, rfl⟩ wkS ?_; intro x hx; refine headS ?_
    obtain ⟨i, c', ns, ks⟩ := x
    simp only at hx ⊢
    obtain ⟨⟨hx1, hx2, hx3⟩, hx4⟩ := hx
    refine walkS ?_
    refine aw_condS rfl (fun hc => ?_) (fun hc => ?_)
    · obtain ⟨i, rfl⟩ : ∃ j, i = j + 1 := ⟨i - 1, by omega⟩
      have q1 := pickT_c (p := p) c' hx3 (l := pqrL) (by decide) (by decide)
      have q2 : (pickT c' pqrL).1.size = 1 := pqr_size _ (pickT_mem c' (by decide))
      have q3 := fmtN_size (n := i + 1) (by omega)
      have f2 := fmtS_c (n := i + 1) (by omega)
      have hxb : (pickT c' pqrL).2.b.length ≤ 1048576 := by rw [pickT_b]; exact hx3
      have n2 := bel_c (p := p) (pickT c' pqrL).2 hxb D.length
      have e1 : IntKind.i64.wrap (((i + 1 : Nat) : Int) - 1) = (i : Int) := by rw [wrap_small (by omega) (by omega)]; omega
      (repeat (first | refine ctlS ?_ | (refine ol_go ?_ (fun K1 hK1 => ?_); (first | exact trivial | exact rfl); refine evS ?_; (try simp only [e1]); refine hK1 _ _ ?_; clear hK1 K1) | (refine ow_go ?_ (fun x hx => by cases hx <;> (rw [hsz]; decide)) (fun K1 hK1 => ?_); (first | exact trivial | exact rfl); refine evS ?_; (try simp only [e1]); refine hK1 _ ?_; clear hK1 K1) | refine skipS ?_ | (refine ol_call1r (k := 0) ?_ rfl (q1) rfl rfl ⟨0, List.mem_cons_self⟩ ?_; (first | exact trivial | exact rfl); simp only [St.set, List.map_cons, List.map_nil, Nat.reduceAdd, Nat.reduceMul]) | (refine ow_call1d (k := 0) ?_ (fun x hx => by cases hx <;> (rw [hsz]; decide)) rfl (q1) rfl rfl ?_; (first | exact trivial | exact rfl); simp only [St.set, List.map_cons, List.map_nil, Nat.reduceAdd]) | (refine ol_call1d (k := 0) ?_ rfl (q1) rfl rfl ⟨0, List.mem_cons_self⟩ ?_; (first | exact trivial | exact rfl); simp only [St.set, List.map_cons, List.map_nil, Nat.reduceAdd]) | (refine ol_call1r (k := 0) ?_ rfl (n2) rfl rfl ⟨0, List.mem_cons_self⟩ ?_; (first | exact trivial | exact rfl); simp only [St.set, List.map_cons, List.map_nil, Nat.reduceAdd, Nat.reduceMul]) | (refine ow_call1d (k := 0) ?_ (fun x hx => by cases hx <;> (rw [hsz]; decide)) rfl (n2) rfl rfl ?_; (first | exact trivial | exact rfl); simp only [St.set, List.map_cons, List.map_nil, Nat.reduceAdd]) | (refine ol_call1d (k := 0) ?_ rfl (n2) rfl rfl ⟨0, List.mem_cons_self⟩ ?_; (first | exact trivial | exact rfl); simp only [St.set, List.map_cons, List.map_nil, Nat.reduceAdd]) | (refine callPre ?_; (first | refine callN_funS rfl (f2) ?_)) | (refine callPreL ?_; (first | refine callL_funS rfl (f2) ?_))))
      refine ⟨(i, (bel (pickT c' pqrL).2 D.length).2, ns ++ [(pickT c' pqrL).1 ++ fmtN (i + 1)], ks ++ [(bel (pickT c' pqrL).2 D.length).1]), ⟨⟨by simp; omega, by simp; omega, by simp only; rw [bel_b]; exact hxb⟩, by rw [← hx4]; rfl⟩, by simp only; omega, ?_⟩
      exact wkS
    · obtain rfl : i = 0 := by omega
      refine walkS ?_
      rw [← hx4]
      (refine aw_ret ?_; (simp only [Fin, Try.results92]; refine finS ?_); refine ⟨_, [], .inr (.inl ⟨.agg [sD ((pickT c wordsL).1 ++ fmtN D.length), iD 6, iD 0, bD false, .sl 1 [], encS ns, .sl 1 [], encI ks], rfl, rfl, ?_⟩), _, (curP p c' : List Eng.D).map .d, [], rfl, toZL_d _ (curP p c'), by simp, rfl, rfl⟩; exact wkDS3)
  refine walkS ?_
  refine aw_condS rfl (fun h7 => ?_) (fun h7 => ?_)
  · subst h7
    have k3 := bel_c (p := p) (pickI (pickT c wordsL).2 (intIx D D.length)).2 hbi 3
    have gk := bel_in (pickI (pickT c wordsL).2 (intIx D D.length)).2 (n := 3) (by omega)
    have hbk : (bel (pickI (pickT c wordsL).2 (intIx D D.length)).2 3).2.b.length ≤ 1048576 := by rw [bel_b]; exact hbi
    obtain ⟨m, hm⟩ : ∃ m, m = (1 + (bel (pickI (pickT c wordsL).2 (intIx D D.length)).2 3).1).toNat := ⟨_, rfl⟩
    have hm1 : 1 + (bel (pickI (pickT c wordsL).2 (intIx D D.length)).2 3).1 = (m : Int) := by omega
    have hm3 : m ≤ 3 := by omega
    rw [mkR_7, ← hm]
    (repeat (first | refine ctlS ?_ | (refine ol_go ?_ (fun K1 hK1 => ?_); (first | exact trivial | exact rfl); refine evS ?_; (try simp only [hm1]); refine hK1 _ _ ?_; clear hK1 K1) | (refine ow_go ?_ (fun x hx => by cases hx <;> (rw [hsz]; decide)) (fun K1 hK1 => ?_); (first | exact trivial | exact rfl); refine evS ?_; (try simp only [hm1]); refine hK1 _ ?_; clear hK1 K1) | refine skipS ?_ | (refine ol_call1r (k := 0) ?_ rfl (i1) rfl rfl ⟨0, List.mem_cons_self⟩ ?_; (first | exact trivial | exact rfl); simp only [St.set, List.map_cons, List.map_nil, Nat.reduceAdd, Nat.reduceMul]) | (refine ow_call1d (k := 0) ?_ (fun x hx => by cases hx <;> (rw [hsz]; decide)) rfl (i1) rfl rfl ?_; (first | exact trivial | exact rfl); simp only [St.set, List.map_cons, List.map_nil, Nat.reduceAdd]) | (refine ol_call1d (k := 0) ?_ rfl (i1) rfl rfl ⟨0, List.mem_cons_self⟩ ?_; (first | exact trivial | exact rfl); simp only [St.set, List.map_cons, List.map_nil, Nat.reduceAdd]) | (refine ol_call1r (k := 0) ?_ rfl (k3) rfl rfl ⟨0, List.mem_cons_self⟩ ?_; (first | exact trivial | exact rfl); simp only [St.set, List.map_cons, List.map_nil, Nat.reduceAdd, Nat.reduceMul]) | (refine ow_call1d (k := 0) ?_ (fun x hx => by cases hx <;> (rw [hsz]; decide)) rfl (k3) rfl rfl ?_; (first | exact trivial | exact rfl); simp only [St.set, List.map_cons, List.map_nil, Nat.reduceAdd]) | (refine ol_call1d (k := 0) ?_ rfl (k3) rfl rfl ⟨0, List.mem_cons_self⟩ ?_; (first | exact trivial | exact rfl); simp only [St.set, List.map_cons, List.map_nil, Nat.reduceAdd])))
    refine aw_loopS [0, 6, 7, 8, 22] (fun κ s' => [(κ, keyB s' 112 6), (κ + 1, keyB s' 112 7)]) (fun _ x => [(10, .d (iD (x.1 : Nat)))]) [0, 112] (fun κ x => [(0, some ((curP p x.2.1).map .d)), (112, some [.d (sD ((pickT c wordsL).1 ++ fmtN D.length)), .d (iD 7), .d (iD 0), .d (bD false), .d (.v (.slice none 0 0)), .d (.v (.slice none 0 0)), .own κ 3 1 (x.2.2.1.map fun n => [iD n]), .own (κ + 1) 3 1 (x.2.2.2.map fun n => [iD n])])]) [144] (fun κ x => [(κ, some (x.2.2.1.length, 3, 1)), (κ + 1, some (x.2.2.2.length, 3, 1))]) (fun x : Nat × Cur × List Int × List Int => (x.2.2.1.length + x.1 = m ∧ x.2.2.2.length = x.2.2.1.length + 1 ∧ x.2.1.b.length ≤ 1048576) ∧ choC D.length x.1 x.2.1 x.2.2.1 x.2.2.2 = choC D.length m (bel (pickI (pickT c wordsL).2 (intIx D D.length)).2 3).2 [] [(pickI (pickT c wordsL).2 (intIx D D.length)).1]) (fun x => x.1) ((m, (bel (pickI (pickT c wordsL).2 (intIx D D.length)).2 3).2, [], [(pickI (pickT c wordsL).2 (intIx D D.length)).1])) hks (fun _ => rfl) ⟨⟨by simp, rfl, hbk⟩, rfl⟩ wkS ?_; intro x hx; refine headS ?_
    obtain ⟨i, c', ts, ks⟩ := x
    simp only at hx ⊢
    obtain ⟨⟨hx1, hx2, hx3⟩, hx4⟩ := hx
    refine walkS ?_
    refine aw_condS rfl (fun hc => ?_) (fun hc => ?_)
    · obtain ⟨i, rfl⟩ : ∃ j, i = j + 1 := ⟨i - 1, by omega⟩
      have q1 := bel_c (p := p) c' hx3 4
      have q2 := bel_in c' (n := 4) (by omega)
      have hxb : (bel c' 4).2.b.length ≤ 1048576 := by rw [bel_b]; exact hx3
      have n2 := bel_c (p := p) (bel c' 4).2 hxb D.length
      have e1 : IntKind.i64.wrap (((i + 1 : Nat) : Int) - 1) = (i : Int) := by rw [wrap_small (by omega) (by omega)]; omega
      have e2 : IntKind.i64.wrap (4 * (ts.length : Int)) = 4 * (ts.length : Int) := wrap_small (by omega) (by omega)
      have e3 : IntKind.i64.wrap (4 * (ts.length : Int) + (bel c' 4).1) = 4 * (ts.length : Int) + (bel c' 4).1 := wrap_small (by omega) (by omega)
      (repeat (first | refine ctlS ?_ | (refine ol_go ?_ (fun K1 hK1 => ?_); (first | exact trivial | exact rfl); refine evS ?_; (try simp only [e1, e2, e3]); refine hK1 _ _ ?_; clear hK1 K1) | (refine ow_go ?_ (fun x hx => by cases hx <;> (rw [hsz]; decide)) (fun K1 hK1 => ?_); (first | exact trivial | exact rfl); refine evS ?_; (try simp only [e1, e2, e3]); refine hK1 _ ?_; clear hK1 K1) | refine skipS ?_ | (refine ol_call1r (k := 0) ?_ rfl (q1) rfl rfl ⟨0, List.mem_cons_self⟩ ?_; (first | exact trivial | exact rfl); simp only [St.set, List.map_cons, List.map_nil, Nat.reduceAdd, Nat.reduceMul]) | (refine ow_call1d (k := 0) ?_ (fun x hx => by cases hx <;> (rw [hsz]; decide)) rfl (q1) rfl rfl ?_; (first | exact trivial | exact rfl); simp only [St.set, List.map_cons, List.map_nil, Nat.reduceAdd]) | (refine ol_call1d (k := 0) ?_ rfl (q1) rfl rfl ⟨0, List.mem_cons_self⟩ ?_; (first | exact trivial | exact rfl); simp only [St.set, List.map_cons, List.map_nil, Nat.reduceAdd]) | (refine ol_call1r (k := 0) ?_ rfl (n2) rfl rfl ⟨0, List.mem_cons_self⟩ ?_; (first | exact trivial | exact rfl); simp only [St.set, List.map_cons, List.map_nil, Nat.reduceAdd, Nat.reduceMul]) | (refine ow_call1d (k := 0) ?_ (fun x hx => by cases hx <;> (rw [hsz]; decide)) rfl (n2) rfl rfl ?_; (first | exact trivial | exact rfl); simp only [St.set, List.map_cons, List.map_nil, Nat.reduceAdd]) | (refine ol_call1d (k := 0) ?_ rfl (n2) rfl rfl ⟨0, List.mem_cons_self⟩ ?_; (first | exact trivial | exact rfl); simp only [St.set, List.map_cons, List.map_nil, Nat.reduceAdd])))
      refine ⟨(i, (bel (bel c' 4).2 D.length).2, ts ++ [4 * (ts.length : Int) + (bel c' 4).1], ks ++ [(bel (bel c' 4).2 D.length).1]), ⟨⟨by simp; omega, by simp; omega, by simp only; rw [bel_b]; exact hxb⟩, by rw [← hx4]; rfl⟩, by simp only; omega, ?_⟩
      exact wkS
    · obtain rfl : i = 0 := by omega
      refine walkS ?_
      rw [← hx4]
      (refine aw_ret ?_; (simp only [Fin, Try.results92]; refine finS ?_); refine ⟨_, [], .inr (.inl ⟨.agg [sD ((pickT c wordsL).1 ++ fmtN D.length), iD 7, iD 0, bD false, .sl 1 [], .sl 1 [], encI ts, encI ks], rfl, rfl, ?_⟩), _, (curP p c' : List Eng.D).map .d, [], rfl, toZL_d _ (curP p c'), by simp, rfl, rfl⟩; exact wkDS3)
  have n1 := bel_c (p := p) (pickT c wordsL).2 hb1 D.length
  have KN : (k = 8 ∨ k = 9) → True := fun _ => trivial
  refine walkS ?_
  refine aw_condS rfl (fun h8 => ?_) (fun h8 => ?_)
  · refine walkS ?_
    refine aw_condS rfl (fun hc => ?_) (fun hc => ?_)
    · (repeat (first | refine walkS ?_ | (refine ol_call1r (k := 0) ?_ rfl (n1) rfl rfl ⟨0, List.mem_cons_self⟩ ?_; (first | exact trivial | exact rfl); simp only [St.set, List.map_cons, List.map_nil, Nat.reduceAdd, Nat.reduceMul]) | (refine ow_call1d (k := 0) ?_ (fun x hx => by cases hx <;> (rw [hsz]; decide)) rfl (n1) rfl rfl ?_; (first | exact trivial | exact rfl); simp only [St.set, List.map_cons, List.map_nil, Nat.reduceAdd]) | (refine ol_call1d (k := 0) ?_ rfl (n1) rfl rfl ⟨0, List.mem_cons_self⟩ ?_; (first | exact trivial | exact rfl); simp only [St.set, List.map_cons, List.map_nil, Nat.reduceAdd])))
      (refine aw_ret ?_; (simp only [Fin, Try.results92]; refine finS ?_); refine ⟨_, [], .inr (.inl ⟨.agg [sD ((pickT c wordsL).1 ++ fmtN D.length), iD (k), iD (0), bD (false), .sl 1 [], .sl 1 [], .sl 1 [], .sl 1 [[iD ((bel (pickT c wordsL).2 D.length).1)]]], rfl, rfl, ?_⟩), _, (curP p (bel (pickT c wordsL).2 D.length).2 : List Eng.D).map .d, [], rfl, toZL_d _ (curP p (bel (pickT c wordsL).2 D.length).2), by simp, by rw [mkR_89 (.inl h8)]; rfl, by rw [mkR_89 (.inl h8)]⟩; exact wkDS3)
    · (first | exact absurd trivial hc | exact absurd rfl hc | (cases hc; done) | omega | exact absurd hc (by decide) | (simp at hc; done))
  refine walkS ?_
  refine aw_condS rfl (fun h9 => ?_) (fun h9 => ?_)
  · (repeat (first | refine walkS ?_ | (refine ol_call1r (k := 0) ?_ rfl (n1) rfl rfl ⟨0, List.mem_cons_self⟩ ?_; (first | exact trivial | exact rfl); simp only [St.set, List.map_cons, List.map_nil, Nat.reduceAdd, Nat.reduceMul]) | (refine ow_call1d (k := 0) ?_ (fun x hx => by cases hx <;> (rw [hsz]; decide)) rfl (n1) rfl rfl ?_; (first | exact trivial | exact rfl); simp only [St.set, List.map_cons, List.map_nil, Nat.reduceAdd]) | (refine ol_call1d (k := 0) ?_ rfl (n1) rfl rfl ⟨0, List.mem_cons_self⟩ ?_; (first | exact trivial | exact rfl); simp only [St.set, List.map_cons, List.map_nil, Nat.reduceAdd])))
    (refine aw_ret ?_; (simp only [Fin, Try.results92]; refine finS ?_); refine ⟨_, [], .inr (.inl ⟨.agg [sD ((pickT c wordsL).1 ++ fmtN D.length), iD (k), iD (0), bD (false), .sl 1 [], .sl 1 [], .sl 1 [], .sl 1 [[iD ((bel (pickT c wordsL).2 D.length).1)]]], rfl, rfl, ?_⟩), _, (curP p (bel (pickT c wordsL).2 D.length).2 : List Eng.D).map .d, [], rfl, toZL_d _ (curP p (bel (pickT c wordsL).2 D.length).2), by simp, by rw [mkR_89 (.inr h9)]; rfl, by rw [mkR_89 (.inr h9)]⟩; exact wkDS3)
  refine walkS ?_
  refine aw_condS rfl (fun h10 => ?_) (fun h10 => ?_)
  · subst h10
    have q1 := pickI_c (p := p) (pickT c wordsL).2 hb1 (l := [0, 10, 59, 255]) (by decide) (by decide)
    have q2 := pickI_mem (pickT c wordsL).2 (l := [0, 10, 59, 255]) (by decide)
    have q3 := u8_draw (n := (pickI (pickT c wordsL).2 [0, 10, 59, 255]).1) (by simp only [List.mem_cons, List.not_mem_nil, or_false] at q2; omega)
    (repeat (first | refine ctlS ?_ | (refine ol_go ?_ (fun K1 hK1 => ?_); (first | exact trivial | exact rfl); refine evS ?_; (try simp only [q3]); refine hK1 _ _ ?_; clear hK1 K1) | (refine ow_go ?_ (fun x hx => by cases hx <;> (rw [hsz]; decide)) (fun K1 hK1 => ?_); (first | exact trivial | exact rfl); refine evS ?_; (try simp only [q3]); refine hK1 _ ?_; clear hK1 K1) | refine skipS ?_ | (refine ol_call1r (k := 0) ?_ rfl (q1) rfl rfl ⟨0, List.mem_cons_self⟩ ?_; (first | exact trivial | exact rfl); simp only [St.set, List.map_cons, List.map_nil, Nat.reduceAdd, Nat.reduceMul]) | (refine ow_call1d (k := 0) ?_ (fun x hx => by cases hx <;> (rw [hsz]; decide)) rfl (q1) rfl rfl ?_; (first | exact trivial | exact rfl); simp only [St.set, List.map_cons, List.map_nil, Nat.reduceAdd]) | (refine ol_call1d (k := 0) ?_ rfl (q1) rfl rfl ⟨0, List.mem_cons_self⟩ ?_; (first | exact trivial | exact rfl); simp only [St.set, List.map_cons, List.map_nil, Nat.reduceAdd])))
    (refine aw_ret ?_; (simp only [Fin, Try.results92]; refine finS ?_); refine ⟨_, [], .inr (.inl ⟨.agg [sD ((pickT c wordsL).1 ++ fmtN D.length), iD (10), iD (0), bD (false), .sl 1 [[uD (UInt8.ofNat (pickI (pickT c wordsL).2 [0, 10, 59, 255]).1.toNat)]], .sl 1 [], .sl 1 [], .sl 1 []], rfl, rfl, ?_⟩), _, (curP p (pickI (pickT c wordsL).2 [0, 10, 59, 255]).2 : List Eng.D).map .d, [], rfl, toZL_d _ (curP p (pickI (pickT c wordsL).2 [0, 10, 59, 255]).2), by simp, by rw [mkR_10]; rfl, by rw [mkR_10]⟩; exact wkDS3)
  · refine walkS ?_
    (refine aw_ret ?_; (simp only [Fin, Try.results92]; refine finS ?_); refine ⟨_, [], .inr (.inl ⟨.agg [sD ((pickT c wordsL).1 ++ fmtN D.length), iD (k), iD (0), bD (false), .sl 1 [], .sl 1 [], .sl 1 [], .sl 1 []], rfl, rfl, ?_⟩), _, (curP p (pickT c wordsL).2 : List Eng.D).map .d, [], rfl, toZL_d _ (curP p (pickT c wordsL).2), by simp, by rw [mkR_no (by omega)]; rfl, by rw [mkR_no (by omega)]⟩; exact wkDS3)
end
end Go.Proofs.Ytnndpimlfibncaa.Eng
namespace Go.Proofs.Ytnndpimlfibncaa.Eng
open Go Go.RowKit

theorem AC.ivT {P : Program} {f : FuncId} {X : D} {xs : List A} {bx : Option (List Rz)} {Q : Rz → Option (List Rz) → Prop} (h : AC P f (.d (.iv (fun _ => True) X) :: xs) bx Q) : AC P f (.d X :: xs) bx Q :=
  ⟨h.1, fun w C β F0 vs hC hr hbo hn => h.2 w C β F0 vs hC (by
    unfold RepAL at hr ⊢
    obtain ⟨u, us, rfl, h1, h2⟩ := hr
    refine ⟨u, us, rfl, ?_, h2⟩
    unfold RepA at h1 ⊢
    rw [repD_iv]
    exact RepD.mono (fun b o v h => ⟨h, trivial⟩) _ _ h1) hbo hn⟩
theorem toZ_ptr {m : Mem} {k : Nat} {ds : List D} (h : m.bx k = some (ds.map .d)) : ToZ m (.ptr k 0) (.box ds) [k] := by unfold ToZ; exact ⟨ds, rfl, h, rfl, rfl⟩
theorem newH_small {B : List UInt8} (hB : B.length ≤ 1048576) (k : Nat) : 0 ≤ newH B k ∧ newH B k ≤ 1074790399 := by
  have := newH_in B k
  omega
theorem newC_v {B : List UInt8} (hB : B.length ≤ 1048576) (p : Nat → Prop) : AC Try.prog 49 [.d (.iv p (encB B))] none (fun r' _ => r' = .box [.iv p (encB B), iD ((0 : Nat) : Int), iD (newH B (min B.length 4000))]) := by
  refine calls_body Try.func49 rfl Try.call49 Try.ntmps49 (by simp) (by simp [ArgsOk]) (by simp [Rz.nkL, Rz.nk]) fun en hsz hks hk0 => ?_; refine enS ?_
  have e0 : IntKind.i64.wrap (193017 + (B.length : Int)) = 193017 + (B.length : Int) := wrap_small (by omega) (by omega)
  (repeat (first | refine ctlS ?_ | (refine ol_go ?_ (fun K1 hK1 => ?_); (first | exact trivial | exact rfl); refine evS ?_; (try simp only [e0]); refine hK1 _ _ ?_; clear hK1 K1) | (refine ow_go ?_ (fun x hx => by cases hx <;> (rw [hsz]; decide)) (fun K1 hK1 => ?_); (first | exact trivial | exact rfl); refine evS ?_; (try simp only [e0]); refine hK1 _ ?_; clear hK1 K1) | refine skipS ?_))
  refine aw_loopS [0, 2] (fun _ _ => []) (fun _ k => [(4, .d (iD (k : Nat))), (3, .d (iD (newH B k)))]) [] (fun _ _ => []) [] (fun _ _ => []) (fun k : Nat => k ≤ min B.length 4000) (fun k => min B.length 4000 - k) (0) hks (fun _ => rfl) (Nat.zero_le _) wkS ?_; intro x hx; refine headS ?_
  have hk : x ≤ min B.length 4000 := hx
  refine walkS ?_
  (refine ow_gd rfl rfl (fun x hx => by cases hx <;> (rw [hsz]; decide)) (fun hg K1 hK1 => ?_) (fun hg => ?_); ((try simp only [hg]); refine evS ?_;  refine hK1 _ ?_; clear hK1 K1); rotate_left; (simp only [Bool.not_true, Bool.not_false] at hg; simp only [St.set, hg]); rotate_left)
  · simp at hg
    refine walkS ?_
    refine aw_condS rfl (fun hc => ?_) (fun hc => ?_)
    · have hi : x < B.length := by omega
      have i1 : B[x]? = some B[x] := getE? hi
      have g1 := newH_small hB x
      have hbt := B[x].toNat_lt
      have e1 : IntKind.i64.wrap (newH B x * 137) = newH B x * 137 := wrap_small (by omega) (by omega)
      have e2 : IntKind.i64.wrap ((B[x].toNat : Nat) : Int) = (B[x].toNat : Int) := wrap_small (by omega) (by omega)
      have e3 : IntKind.i64.wrap (newH B x * 137 + (B[x].toNat : Int)) = newH B x * 137 + (B[x].toNat : Int) := wrap_small (by omega) (by omega)
      have e4 : IntKind.i64.wrap (newH B x * 137 + (B[x].toNat : Int) + 11) = newH B x * 137 + (B[x].toNat : Int) + 11 := wrap_small (by omega) (by omega)
      have e5 : newH B (x + 1) = IntKind.i64.wrap (((BitVec.ofInt IntKind.i64.bits (newH B x * 137 + (B[x].toNat : Int) + 11) &&& BitVec.ofInt IntKind.i64.bits 1073741823).toNat : Nat) : Int) := by
        rw [newH, and64, show B.getD x 0 = B[x] by simp [List.getD, hi]]
      (repeat (first | refine ctlS ?_ | (refine ol_go ?_ (fun K1 hK1 => ?_); (first | exact trivial | exact rfl); refine evS ?_; (try simp only [e1, e2, e3, e4]); refine hK1 _ _ ?_; clear hK1 K1) | (refine ow_go ?_ (fun x hx => by cases hx <;> (rw [hsz]; decide)) (fun K1 hK1 => ?_); (first | exact trivial | exact rfl); refine evS ?_; (try simp only [e1, e2, e3, e4]); refine hK1 _ ?_; clear hK1 K1) | refine skipS ?_))
      refine ⟨x + 1, by show x + 1 ≤ min B.length 4000; omega, by omega, ?_⟩
      rw [e5]
      exact wkS
    · obtain rfl : x = min B.length 4000 := by omega
      refine walkS ?_
      (refine aw_ret ?_; (simp only [Fin, Try.results49]; refine finS ?_); exact ⟨_, _, .inl (toZ_ptr rfl), by simp, rfl⟩)
  · simp at hg
    refine walkS ?_
    refine aw_condS rfl (fun hc => ?_) (fun hc => ?_)
    · (first | exact absurd trivial hc | exact absurd rfl hc | (cases hc; done) | omega | exact absurd hc (by decide) | (simp at hc; done))
    · obtain rfl : x = min B.length 4000 := by omega
      refine walkS ?_
      (refine aw_ret ?_; (simp only [Fin, Try.results49]; refine finS ?_); exact ⟨_, _, .inl (toZ_ptr rfl), by simp, rfl⟩)
theorem newC_c {B : List UInt8} (hB : B.length ≤ 1048576) : AC Try.prog 49 [.d (encB B)] none (fun r' _ => r' = .box (curP (fun _ => True) (newC B))) := (newC_v hB _).ivT
theorem encRc_mk (r : RuleD) : [sD r.name, iD r.kind, iD r.size, bD r.little, encB r.bytes, encS r.names, encI r.tags, encI r.kids] = encRc r := rfl
section
variable {p : Nat → Prop}
theorem descC_c (c : Cur) (hb : c.b.length ≤ 1048576) : AC Try.prog 50 [.ptr 0 0] (some ((curP p c).map .d)) (drwQ p (encD (descC c).1) (descC c).2) := by
  have m0 := mkR_c (p := p) (D := []) (c := c) ⟨by simp, fun r h => by cases h⟩ (by simp) hb 1 (fun h => absurd rfl h)
  have m1 : AC Try.prog 92 [.ptr 0 0, .d (.agg [.v (.slice none 0 0)]), .d (iD 1)] (some ((curP p c).map .d)) (drwQ p (encR (mkR c [] 1).1) (mkR c [] 1).2) := m0.w (by
    simp (decide := true) only [wkL_d, wkL, wkA, encD, encDs, List.map_nil, wkD_aggd, dleL_cons, dleL_nil, dle_nil, wkD_selfT, and_true, true_and]
    exact ⟨0, rfl, rfl⟩)
  have hb1 : (mkR c [] 1).2.b.length ≤ 1048576 := by rw [mkR_b]; exact hb
  have b6 := bel_c (p := p) (mkR c [] 1).2 hb1 6
  have hb2 : (bel (mkR c [] 1).2 6).2.b.length ≤ 1048576 := by rw [bel_b]; exact hb1
  have g6 := bel_in (mkR c [] 1).2 (n := 6) (by omega)
  obtain ⟨m, hm⟩ : ∃ m, m = (bel (mkR c [] 1).2 6).1.toNat := ⟨_, rfl⟩
  have hm1 : (bel (mkR c [] 1).2 6).1 = (m : Int) := by omega
  have hd : descC c = rulesC m (bel (mkR c [] 1).2 6).2 [(mkR c [] 1).1] := by rw [hm]; rfl
  refine calls_body Try.func50 rfl Try.call50 Try.ntmps50 (by simp) (by simp [ArgsOk]) (by simp [Rz.nkL, Rz.nk]) fun en hsz hks hk0 => ?_; refine enS ?_
  (repeat (first | refine ctlS ?_ | (refine ol_go ?_ (fun K1 hK1 => ?_); (first | exact trivial | exact rfl); refine evS ?_; (try simp only [hm1, encRc_mk]); refine hK1 _ _ ?_; clear hK1 K1) | (refine ow_go ?_ (fun x hx => by cases hx <;> (rw [hsz]; decide)) (fun K1 hK1 => ?_); (first | exact trivial | exact rfl); refine evS ?_; (try simp only [hm1, encRc_mk]); refine hK1 _ ?_; clear hK1 K1) | refine skipS ?_ | (refine ol_call1r (k := 0) ?_ rfl (m1) rfl rfl ⟨0, List.mem_cons_self⟩ ?_; (first | exact trivial | exact rfl); simp only [St.set, List.map_cons, List.map_nil, Nat.reduceAdd, Nat.reduceMul]) | (refine ow_call1d (k := 0) ?_ (fun x hx => by cases hx <;> (rw [hsz]; decide)) rfl (m1) rfl rfl ?_; (first | exact trivial | exact rfl); simp only [St.set, List.map_cons, List.map_nil, Nat.reduceAdd]) | (refine ol_call1d (k := 0) ?_ rfl (m1) rfl rfl ⟨0, List.mem_cons_self⟩ ?_; (first | exact trivial | exact rfl); simp only [St.set, List.map_cons, List.map_nil, Nat.reduceAdd]) | (refine ol_call1r (k := 0) ?_ rfl (b6) rfl rfl ⟨0, List.mem_cons_self⟩ ?_; (first | exact trivial | exact rfl); simp only [St.set, List.map_cons, List.map_nil, Nat.reduceAdd, Nat.reduceMul]) | (refine ow_call1d (k := 0) ?_ (fun x hx => by cases hx <;> (rw [hsz]; decide)) rfl (b6) rfl rfl ?_; (first | exact trivial | exact rfl); simp only [St.set, List.map_cons, List.map_nil, Nat.reduceAdd]) | (refine ol_call1d (k := 0) ?_ rfl (b6) rfl rfl ⟨0, List.mem_cons_self⟩ ?_; (first | exact trivial | exact rfl); simp only [St.set, List.map_cons, List.map_nil, Nat.reduceAdd])))
  refine aw_loopS [0, 2, 3] (fun κ s' => [(κ, keyB s' 48 0)]) (fun _ x => [(4, .d (iD (x.1 : Nat)))]) [0, 48] (fun κ x => [(0, some ((curP p x.2.1).map .d)), (48, some [.own κ 63 8 (x.2.2.map encRc)])]) [160] (fun κ x => [(κ, some (x.2.2.length, 63, 8))]) (fun x : Nat × Cur × List RuleD => (x.2.2.length + x.1 ≤ 6 ∧ DInv x.2.2 ∧ x.2.1.b.length ≤ 1048576) ∧ rulesC x.1 x.2.1 x.2.2 = rulesC m (bel (mkR c [] 1).2 6).2 [(mkR c [] 1).1]) (fun x => x.1) ((m, (bel (mkR c [] 1).2 6).2, [(mkR c [] 1).1])) hks (fun _ => rfl) ⟨⟨by simp only [List.length_singleton]; omega, DInv.one c, hb2⟩, rfl⟩ wkS ?_; intro x hx; refine headS ?_
  obtain ⟨i, c', D'⟩ := x
  simp only at hx ⊢
  obtain ⟨⟨hx1, hx2, hx3⟩, hx4⟩ := hx
  have hdb := DInv.db hx2 (by omega)
  have hl0 := hx2.len
  refine walkS ?_
  refine aw_condS rfl (fun hc => ?_) (fun hc => ?_)
  · obtain ⟨i, rfl⟩ : ∃ j, i = j + 1 := ⟨i - 1, by omega⟩
    have q1 := bel_c (p := p) c' hx3 10
    have q2 := bel_in c' (n := 10) (by omega)
    have hxb : (bel c' 10).2.b.length ≤ 1048576 := by rw [bel_b]; exact hx3
    have q3 := mkR_c (p := p) (c := (bel c' 10).2) hdb (by omega) hxb (1 + (bel c' 10).1) (fun _ => ⟨intIx_ne hx2.fst _ hx2.len, hx2.len⟩)
    have e1 : IntKind.i64.wrap (((i + 1 : Nat) : Int) - 1) = (i : Int) := by rw [wrap_small (by omega) (by omega)]; omega
    have e2 : IntKind.i64.wrap (1 + (bel c' 10).1) = 1 + (bel c' 10).1 := wrap_small (by omega) (by omega)
    (repeat (first | refine ctlS ?_ | (refine ol_go ?_ (fun K1 hK1 => ?_); (first | exact trivial | exact rfl); refine evS ?_; (try simp only [e1, e2, encRc_mk]); refine hK1 _ _ ?_; clear hK1 K1) | (refine ow_go ?_ (fun x hx => by cases hx <;> (rw [hsz]; decide)) (fun K1 hK1 => ?_); (first | exact trivial | exact rfl); refine evS ?_; (try simp only [e1, e2, encRc_mk]); refine hK1 _ ?_; clear hK1 K1) | refine skipS ?_ | (refine ol_call1r (k := 0) ?_ rfl (q1) rfl rfl ⟨0, List.mem_cons_self⟩ ?_; (first | exact trivial | exact rfl); simp only [St.set, List.map_cons, List.map_nil, Nat.reduceAdd, Nat.reduceMul]) | (refine ow_call1d (k := 0) ?_ (fun x hx => by cases hx <;> (rw [hsz]; decide)) rfl (q1) rfl rfl ?_; (first | exact trivial | exact rfl); simp only [St.set, List.map_cons, List.map_nil, Nat.reduceAdd]) | (refine ol_call1d (k := 0) ?_ rfl (q1) rfl rfl ⟨0, List.mem_cons_self⟩ ?_; (first | exact trivial | exact rfl); simp only [St.set, List.map_cons, List.map_nil, Nat.reduceAdd]) | (refine ol_call1r (k := 0) ?_ rfl (q3) rfl rfl ⟨0, List.mem_cons_self⟩ ?_; (first | exact trivial | exact rfl); simp only [St.set, List.map_cons, List.map_nil, Nat.reduceAdd, Nat.reduceMul]) | (refine ow_call1d (k := 0) ?_ (fun x hx => by cases hx <;> (rw [hsz]; decide)) rfl (q3) rfl rfl ?_; (first | exact trivial | exact rfl); simp only [St.set, List.map_cons, List.map_nil, Nat.reduceAdd]) | (refine ol_call1d (k := 0) ?_ rfl (q3) rfl rfl ⟨0, List.mem_cons_self⟩ ?_; (first | exact trivial | exact rfl); simp only [St.set, List.map_cons, List.map_nil, Nat.reduceAdd])))
    refine ⟨(i, (mkR (bel c' 10).2 D' (1 + (bel c' 10).1)).2, D' ++ [(mkR (bel c' 10).2 D' (1 + (bel c' 10).1)).1]), ⟨⟨by simp; omega, hx2.snoc (mkR_ok hx2 _ (by omega)), by simp only; rw [mkR_b]; exact hxb⟩, by rw [← hx4]; rfl⟩, by simp only; omega, ?_⟩
    exact wkS
  · obtain rfl : i = 0 := by omega
    refine walkS ?_
    rw [hd, ← hx4]
    (refine aw_ret ?_; (simp only [Fin, Try.results50]; refine finS ?_); refine ⟨_, [], .inr (.inl ⟨.agg [encDs D'], rfl, rfl, ?_⟩), _, (curP p c' : List Eng.D).map .d, [], rfl, toZL_d _ (curP p c'), by simp, rfl, rfl⟩; exact wkDS3)
end
end Go.Proofs.Ytnndpimlfibncaa.Eng
