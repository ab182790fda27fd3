/-
 The law: DescribeCode.
-/
import Derived.Test.YtaammoodcgfhpaaDoorKL
import Derived.Test.YtaammoodcgfhpaaDoorKM10
import Derived.Test.YtaammoodcgfhpaaDoorKNC13
set_option linter.unusedSimpArgs false
set_option linter.unusedVariables false
set_option linter.defProp false
set_option maxRecDepth 100000
set_option maxHeartbeats 4000000
namespace Go.Proofs.YtaammoodcgfhpaaDoor.Eng
open Go Go.RowKit

theorem cntR_bd {M:Nat}{r:RuleD} (h:RB M r):cntR r≤4+4*M:=by
 have h1:=h.lb
 have h2:=h.ln
 have h3:=h.lt
 have h4:=h.lk
 unfold cntR
 omega
theorem cntRs_lm {M:Nat}{D:List RuleD} (h:∀ r∈D,RB M r):cntRs D≤D.length*(4+4*M):=by
 induction D with
 | nil=>simp [cntRs]
 | cons r D ih=>
  have h1:=ih fun x hx=>h x (List.mem_cons_of_mem _ hx)
  have h2:=cntR_bd (h r (List.mem_cons_self ..))
  simp only [cntRs,List.length_cons]
  rw [Nat.add_mul]
  omega
theorem cntRs_D {D:List RuleD} (h:DB 1048576 D):cntRs D≤4398050705408:=by
 refine Nat.le_trans (cntRs_lm h.rule) (Nat.le_trans (Nat.mul_le_mul_right _ h.len) (by decide))
theorem ownS_ok (l:List ByteArray):rzOk (ownT' l):=by
 unfold rzOk
 exact flat_map _ _
theorem cmpB_small {D:List RuleD} (h:descP D) {n:Nat}{r:RuleD} (hr:D[n]?=some r) (start:Int) (es:List Int):(cmpB r start es).length≤40:=by
 have G:GoodR D n r:=good_of h hr
 have hn:n<D.length:=(List.getElem?_eq_some_iff.1 hr).1
 have hrn:ruleAt D n=some r:=by simp [ruleAt,hr]
 have hp:ruleP D n r:=by
  refine Classical.byContradiction fun hq=>?_
  have:=h.2 n hn
  rw [vRule_no hrn hq] at this
  exact Bool.noConfusion this
 have hk:=hp.2.2.2
 have h4:=cmpTags_len r.tags (start+r.tags.length+2)
 have h5:=cmpAlts_len es (r.kids.drop 1)
 rw [List.length_drop] at h5
 unfold cmpB
 split
 ·simp
 split
 ·rename_i _ h2
  rw [kl_2 h2] at hk
  simp only [Bool.and_eq_true,decide_eq_true_eq] at hk
  rw [List.length_map]
  omega
 split
 ·simp
 split
 ·simp
 split
 ·simp
 split
 ·rename_i h6
  have:=G.k6 h6
  rw [List.length_map]
  omega
 split
 ·rename_i h7
  rw [kl_7 h7] at hk
  simp only [Bool.and_eq_true] at hk
  have h8:=(tagsP_of hk.2).2.1.2
  have h9:=(G.k7 h7).1
  simp only [List.length_append,List.length_cons,List.length_nil,h4]
  omega
 all_goals (repeat' split)
 all_goals simp
theorem cmpD_small {D:List RuleD} (h:descP D):∀ n,n≤D.length→(cmpD D n).1.length≤2+n*41
 | 0,_=>by simp [cmpD]
 | n+1,hn=>by
  have h1:=cmpD_small h n (by omega)
  have hr:D[n]?=some D[n]:=List.getElem?_eq_getElem (by omega)
  have h2:=cmpB_small h hr ((cmpD D n).1.length:Int) (cmpD D n).2
  rw [cmpD,List.length_append,cmpR,List.length_append,List.length_singleton,ruleD_get hr]
  omega
theorem codeT_len {D:List RuleD} (hD:DB 1048576 D):(codeT D).length≤1000:=by
 unfold codeT
 split
 ·rename_i hv
  have hV:=descP_of hv
  have h1:=(cmpP_len hD hV.1.2).2
  have h2:=cmpD_small hV D.length (Nat.le_refl _)
  have h3:=hV.1.2
  rw [lnC_len]
  omega
 ·simp
private def tyF:=ai (ai (ai tg54 (ai tg22 tg26)) (ai tg28 (ai tg39 tg24))) (ai (ai tg30 (ai tg56 tg61)) (ai (ai tg3 tg4) (ai tg5 tg9)))
theorem lawCode_c {D:List RuleD} (hD:DB 9223372036854775807 D):AC Tryd.prog 3 [.d (encD D)] none (fun r' _=>r'=.d (bD true)):=by
 refine calls_bodyL Tryd.func3 rfl Tryd.call3 Tryd.ntmps3 (by simp) (by simp [ArgsOk]) fun en hsz hcok hX hks=>?_;refine enS ?_
 (repeat (first|refine walkS ?_|(refine callPre ?_;(first|refine callN_funS rfl (szDescription_c hD 1048576 (by omega)) ?_))|(refine callPreL ?_;(first|refine callL_funS rfl (szDescription_c hD 1048576 (by omega)) ?_))))
 refine aw_condS rfl (fun h1=>?_) (fun h1=>?_)
 ·refine walkS ?_
  (refine rtS Tryd.results3 ?_;exact ⟨_,_,.inl ⟨rfl,rfl⟩,List.nodup_nil,rfl⟩)
 have hDM:DB 1048576 D:=lftDs_ge (x:=1048576) (by omega) (by omega) (by omega)
 have hcn:=cntRs_D hDM
 have HS:=codeS_c hDM
 have HI:=codeI_c hDM
 have HN:=codeI_n hDM
 have hTl:=codeT_len hDM
 generalize codeT D=out at *
 (repeat (first|refine walkS ?_|(refine callPre ?_;(first|refine callN_funS rfl (toDescription_c hDM (Nat.le_refl _)) ?_))|(refine callPreL ?_;(first|refine callL_funS rfl (toDescription_c hDM (Nat.le_refl _)) ?_))))
 (refine ow_callDA [] [] ?_ dsS rfl (ACD.iv (HS.acd (ownS_ok _)) ?_) (fun n hn=>?_);exact trS;(repeat (first|exact IvL.nil|refine IvL.iv ?_|refine IvL.agg1 ?_|refine IvL.aggV ?_|refine IvL.agg3 ?_|refine IvL.same ?_));simp (decide:=true) only [St.bound,boundA_iv,boundA_sl,boundA_B,boundA_I,boundA_S,boundA_Ds,boundA_v,St.f,lk,St.set,rzI,rzIL,reduceIte,List.map_cons,List.map_nil,List.cons_append,List.nil_append,Option.map_some,Option.map_none])
 refine walkS ?_
 (refine ow_callDA [4] [16] ?_ dsS rfl (ACD.iv ((toDescription_n hDM (Nat.le_refl _)).acd) ?_) (fun n hn=>?_);exact trS;(repeat (first|exact IvL.nil|refine IvL.iv ?_|refine IvL.agg1 ?_|refine IvL.aggV ?_|refine IvL.agg3 ?_|refine IvL.same ?_));simp (decide:=true) only [St.bound,boundA_iv,boundA_sl,boundA_B,boundA_I,boundA_S,boundA_Ds,boundA_v,St.f,lk,St.set,rzI,rzIL,reduceIte,List.map_cons,List.map_nil,List.cons_append,List.nil_append,Option.map_some,Option.map_none])
 refine walkS ?_
 (refine ow_callDA [4] [16,64] ?_ dsS rfl (ACD.iv (HN) ?_) (fun n hn=>?_);exact trS;(repeat (first|exact IvL.nil|refine IvL.iv ?_|refine IvL.agg1 ?_|refine IvL.aggV ?_|refine IvL.agg3 ?_|refine IvL.same ?_));simp (decide:=true) only [St.bound,boundA_iv,boundA_sl,boundA_B,boundA_I,boundA_S,boundA_Ds,boundA_v,St.f,lk,St.set,rzI,rzIL,reduceIte,List.map_cons,List.map_nil,List.cons_append,List.nil_append,Option.map_some,Option.map_none])
 (repeat (first|refine walkS ?_|(refine callPre ?_;(first|refine callN_funS rfl (AC.iv (eqStringS_c (l:=out) (by omega))) ?_))|(refine callPreL ?_;(first|refine callL_funS rfl (AC.iv (eqStringS_c (l:=out) (by omega))) ?_))))
 refine aw_condS rfl (fun h2=>?_) (fun h2=>?_)
 ·(first|exact absurd trivial h2|exact absurd rfl h2|(cases h2;done)|omega|exact absurd h2 (by decide)|(simp at h2;done))
 (repeat (first|refine walkS ?_|(refine callPre ?_;(first|refine callN_funS rfl (AC.iv (toDescription_c hDM (Nat.le_refl _))) ?_|refine callN_funS rfl (AC.iv (eqDescription_c hDM (Nat.le_refl _))) ?_))|(refine callPreL ?_;(first|refine callL_funS rfl (AC.iv (toDescription_c hDM (Nat.le_refl _))) ?_|refine callL_funS rfl (AC.iv (eqDescription_c hDM (Nat.le_refl _))) ?_))))
 refine aw_condS rfl (fun h3=>?_) (fun h3=>?_)
 ·(first|exact absurd trivial h3|exact absurd rfl h3|(cases h3;done)|omega|exact absurd h3 (by decide)|(simp at h3;done))
 refine walkS ?_
 (refine ow_mark [1,2,4,6,7] [16] ?_ dsS rfl rfl rfl ⟨markD_1 (by omega),on_agg1,hcok,(by intro b h;(try dsimp only at h);omega),(by (repeat (refine And.intro (by first|exact Safe.v|exact Safe.ptr|exact Safe.iv (by intro b h1 h2;(try dsimp only at h1 h2);omega)|exact Safe.top) ?_));exact trivial),(by (repeat (refine And.intro (by intro cs hcs;cases hcs;(repeat (refine And.intro (by first|exact Safe.v|exact Safe.ptr|exact Safe.iv (by intro b h1 h2;(try dsimp only at h1 h2);omega)|exact Safe.top) ?_));exact trivial) ?_));exact trivial)⟩ ?_;exact trS;simp (decide:=true) only [St.keep,St.f,lk,St.set,reduceIte,List.map_cons,List.map_nil,List.cons_append,List.nil_append])
 have e1:decide (1+(cntRs D:Int)<0)=false:=decide_eq_false (by omega)
 (repeat (first|refine ctlS ?_|(refine ol_go ?_ (fun K1 hK1=>?_);exact trS;refine evS ?_;(try simp only [e1]);refine hK1 _ _ ?_;clear hK1 K1)|(refine ow_go ?_ dsS (fun K1 hK1=>?_);exact trS;refine evS ?_;(try simp only [e1]);refine hK1 _ ?_;clear hK1 K1)|refine skipS ?_|(refine callPre ?_;(first|refine callN_funS rfl (AC.iv (eqStringS_c (l:=out) (by omega))) ?_))|(refine callPreL ?_;(first|refine callL_funS rfl (AC.iv (eqStringS_c (l:=out) (by omega))) ?_))))
 refine aw_condS rfl (fun h5=>?_) (fun h5=>?_)
 ·(first|exact absurd trivial h5|exact absurd rfl h5|(cases h5;done)|omega|exact absurd h5 (by decide)|(simp at h5;done))
 (iterate 7 (first|refine aw_seq ?_|refine aw_region ?_|refine aw_block ?_|(refine aw_exit ?_;(try simp (decide:=true) only [reduceIte]))|(refine aw_skip ?_;try dsimp only)|(refine aw_any (by kernel_rfl) (by kernel_rfl) (by simp only [hsz];kernel_rfl) ?_)|(refine ow_nil ?_;try dsimp only)|(refine ol_go ?_ (fun K1 hK1=>?_);exact trS;refine evS ?_;refine hK1 _ _ ?_;clear hK1 K1)|(refine ol_skip rfl rfl ?_ ?_;(focus (intro hne;cases hne;done));simp only [St.set])|(refine ol_nil ⟨by kernel_rfl,?_⟩;try dsimp only)|(refine ow_go ?_ dsS (fun K1 hK1=>?_);exact trS;refine evS ?_;refine hK1 _ ?_;clear hK1 K1)|(refine ow_skip rfl rfl ?_ dsS ?_;(focus (intro hne;cases hne;done));simp only [St.set])))
 (refine ow_mark3 [1,2,4] [16] rfl rfl rfl rfl rfl rfl rfl rfl (by rw [hsz];decide) (by rw [hsz];decide) (by rw [hsz];decide) (by decide) rfl rfl rfl ⟨markS_x (l:=out) (k:=1) (by omega),on_iv,hcok,(by intro b h;(try dsimp only at h);omega),(by (repeat (refine And.intro (by first|exact Safe.v|exact Safe.ptr|exact Safe.iv (by intro b h1 h2;(try dsimp only at h1 h2);omega)|exact Safe.top) ?_));exact trivial),(by (repeat (refine And.intro (by intro cs hcs;cases hcs;(repeat (refine And.intro (by first|exact Safe.v|exact Safe.ptr|exact Safe.iv (by intro b h1 h2;(try dsimp only at h1 h2);omega)|exact Safe.top) ?_));exact trivial) ?_));exact trivial)⟩ ?_;simp (decide:=true) only [St.keep,St.f,lk,St.set,reduceIte,List.map_cons,List.map_nil,List.cons_append,List.nil_append])
 have HH:=heldS_c (k:=1) (n:=out.length) (by omega)
 (repeat (first|refine walkS ?_|(refine callPre ?_;(first|refine callN_funS rfl (AC.iv HH) ?_))|(refine callPreL ?_;(first|refine callL_funS rfl (AC.iv HH) ?_))))
 refine aw_condS rfl (fun h6=>?_) (fun h6=>?_)
 ·(first|exact absurd trivial h6|exact absurd rfl h6|(cases h6;done)|omega|exact absurd h6 (by decide)|(simp at h6;done))
 refine walkS ?_
 refine aw_condS rfl (fun h7=>?_) (fun h7=>?_)
 ·(first|exact absurd trivial h7|exact absurd rfl h7|(cases h7;done)|omega|exact absurd h7 (by decide)|(simp at h7;done))
 (repeat (first|refine walkS ?_|refine cS (HI) ?_|(refine callPre ?_;(first|refine callN_funS rfl (AC.iv (toDescription_c hDM (Nat.le_refl _))) ?_))|(refine callPreL ?_;(first|refine callL_funS rfl (AC.iv (toDescription_c hDM (Nat.le_refl _))) ?_))))
 (repeat (first|refine walkS ?_|(refine callPre ?_;(first|refine callN_funS rfl (AC.iv (eqStringS_c (l:=out) (by omega))) ?_))|(refine callPreL ?_;(first|refine callL_funS rfl (AC.iv (eqStringS_c (l:=out) (by omega))) ?_))))
 refine aw_condS rfl (fun h8=>?_) (fun h8=>?_)
 ·(first|exact absurd trivial h8|exact absurd rfl h8|(cases h8;done)|omega|exact absurd h8 (by decide)|(simp at h8;done))
 (repeat (first|refine walkS ?_|(refine callPre ?_;(first|refine callN_funS rfl (AC.iv HH) ?_))|(refine callPreL ?_;(first|refine callL_funS rfl (AC.iv HH) ?_))))
 refine aw_condS rfl (fun h9=>?_) (fun h9=>?_)
 ·(first|exact absurd trivial h9|exact absurd rfl h9|(cases h9;done)|omega|exact absurd h9 (by decide)|(simp at h9;done))
 refine walkS ?_
 refine aw_condS rfl (fun h10=>?_) (fun h10=>?_)
 ·(first|exact absurd trivial h10|exact absurd rfl h10|(cases h10;done)|omega|exact absurd h10 (by decide)|(simp at h10;done))
 ·refine walkS ?_
  (refine rtS Tryd.results3 ?_;exact ⟨_,_,.inl ⟨rfl,rfl⟩,List.nodup_nil,rfl⟩)
end Go.Proofs.YtaammoodcgfhpaaDoor.Eng
