/-
 Depths of rules, the program.
-/
import Derived.Test.YtomfggmmhkpeeaaDoorKNSZ
import Derived.Test.YtomfggmmhkpeeaaDoorKPure22
set_option linter.unusedSimpArgs false
set_option linter.unusedVariables false
set_option linter.defProp false
set_option maxRecDepth 100000
set_option maxHeartbeats 4000000
namespace Go.Proofs.YtomfggmmhkpeeaaDoor.Eng
open Go Go.RowKit
section
variable {D:List RuleD}{M:Nat}
theorem topN_take {ts:List Int}{a:Int}{ks:List Int}{j:Nat} (h:j<ks.length):topK ts a (ks.take (j+1))=maxF (topK ts a (ks.take j)) (atT ts ks[j]):=by
 unfold topK
 rw [List.take_succ_eq_append_getElem h,List.map_append,List.foldl_append]
 show max _ _=maxF _ _
 unfold maxF
 omega
def tabH (D:List RuleD) (n:Nat):List Int:=depS D n++List.replicate (24 - n) 0
def tabK (D:List RuleD) (n:Nat) (m:Int):List Int:=depS D n++m::List.replicate (24 - (n+1)) 0
theorem zrowH:z24.map (fun x=>A.d (.v x))=((tabH D 0).map iD).map A.d:=by simp [z24,tabH,depS,iD]
theorem tabH_K {n:Nat} (h:n<24):tabH D n=tabK D n 0:=by
 unfold tabH tabK
 rw [show 24 - n=(24 - (n+1))+1 by omega,List.replicate_succ]
theorem tabK_H {n:Nat}{m:Int} (h:topK (depS D n) 0 (ruleD D n).kids=m):tabK D n (m+1)=tabH D (n+1):=by
 unfold tabH tabK
 rw [depS,h,List.append_assoc]
 rfl
theorem tabK_len {n:Nat} (h:n<24) (m:Int):(tabK D n m).length=24:=by simp [tabK,depS_len];omega
theorem tabH_len {n:Nat} (h:n≤24):(tabH D n).length=24:=by simp [tabH,depS_len];omega
theorem tabK_set {n:Nat} (m m':Int):splice (((tabK D n m).map iD).map A.d) [.d (iD m')] n=((tabK D n m').map iD).map A.d:=by
 have hl:(((depS D n).map iD).map A.d).length=n:=by rw [List.length_map,List.length_map,depS_len]
 have e:∀ k:Int,((tabK D n k).map iD).map A.d=((depS D n).map iD).map A.d++.d (iD k)::((List.replicate (24 - (n+1)) 0).map iD).map A.d:=fun k=>by
  unfold tabK
  rw [List.map_append,List.map_append]
  rfl
 rw [e,e]
 have:=splice_mid (((depS D n).map iD).map A.d) (((List.replicate (24 - (n+1)) 0).map iD).map A.d) (.d (iD m)) (.d (iD m'))
 rwa [hl] at this
theorem tabK_at {n:Nat} (m:Int):(((tabK D n m).map iD).map A.d)[n]?=some (.d (iD m)):=by
 unfold tabK
 rw [List.getElem?_map,List.getElem?_map,List.getElem?_append_right (by rw [depS_len];exact Nat.le_refl _),depS_len]
 simp
theorem tabK_get {n:Nat} (m:Int) {k:Int} (h0:0≤k) (h:k<n):(((tabK D n m).map iD).map A.d)[k.toNat]?=some (.d (iD (atT (depS D n) k))):=by
 have hl:k.toNat<(depS D n).length:=by rw [depS_len];omega
 unfold tabK
 rw [List.getElem?_map,List.getElem?_map,List.getElem?_append_left hl,List.getElem?_eq_getElem hl]
 simp [atT,List.getD,hl]
noncomputable def depOf (D:List RuleD) (i:Int):Int:=if vKnown D i=true then atT (depS D D.length) i else 0
theorem depS_at (D:List RuleD) (n:Nat) (k:Int):0≤atT (depS D n) k∧atT (depS D n) k≤n:=by
 unfold atT
 by_cases hk:k.toNat<(depS D n).length
 ·rw [show (depS D n).getD k.toNat 0=(depS D n)[k.toNat] by simp [List.getD,hk]]
  exact depS_bd D n _ (List.getElem_mem hk)
 ·rw [show (depS D n).getD k.toNat 0=0 by simp [List.getD,Nat.le_of_not_lt hk]]
  omega
theorem depOf_in (D:List RuleD) (i:Int):0≤depOf D i∧depOf D i≤24:=by
 unfold depOf
 split
 ·rename_i hk
  unfold vKnown at hk
  simp only [Bool.and_eq_true,decide_eq_true_eq] at hk
  have:=depS_at D D.length i
  have:D.length≤24:=(descP_of hk.1).1.2
  omega
 ·omega
private def tyF:=ai (ai (ai tg59 (ai tg39 tg26)) (ai tg28 (ai tg40 tg30))) (ai (ai tg42 (ai tg3 tg4)) (ai tg5 (ai tg9 tzT)))
theorem depI_c (hD:DB M D) (hM:M≤1048576) (i:Int):AC Tryd.prog 28 [.d (encD D),.d (iD i)] none (fun r' _=>r'=.d (iD (depOf D i))):=by
 by_cases hk:vKnown D i=true
 ·have hk':=hk
  unfold vKnown at hk'
  simp only [Bool.and_eq_true,decide_eq_true_eq] at hk'
  obtain ⟨hv,h0,h1⟩:=hk'
  have hV:descP D:=descP_of hv
  have h24:D.length≤24:=hV.1.2
  have hDl:=hD.len
  have hz:=zrowH (D:=D)
  rw [show depOf D i=atT (depS D D.length) i from if_pos hk]
  refine cbS Tryd.func28 rfl Tryd.call28 Tryd.ntmps28 fun en hsz hks hk0=>?_;refine enS ?_
  (repeat (first|refine walkS ?_|(refine callPre ?_;(first|refine callN_funS rfl ((known_c hD hM i).eqv (r1:=.d (bD true)) (by rw [hk])) ?_))|(refine callPreL ?_;(first|refine callL_funS rfl ((known_c hD hM i).eqv (r1:=.d (bD true)) (by rw [hk])) ?_))))
  refine aw_condS rfl (fun h2=>?_) (fun h2=>?_)
  ·(first|exact absurd trivial h2|exact absurd rfl h2|(cases h2;done)|omega|exact absurd h2 (by decide)|(simp at h2;done))
  (repeat (first|refine ctlS ?_|(refine ol_go ?_ (fun K1 hK1=>?_);exact trS;refine evS ?_;(try simp only [hz]);refine hK1 _ _ ?_;clear hK1 K1)|(refine ow_go ?_ dsS (fun K1 hK1=>?_);exact trS;refine evS ?_;(try simp only [hz]);refine hK1 _ ?_;clear hK1 K1)|refine skipS ?_))
  refine aw_loopS [1,4,5,15,16] (fun _ _=>[]) (fun _ k=>[(17,.d (iD (k:Nat)))]) [48] (fun _ k=>[(48,some (((tabH D k).map iD).map A.d))]) [] (fun _ _=>[]) (fun k=>k≤D.length) (fun k=>D.length - k) (0) hks (fun _=>rfl) (Nat.zero_le _) wkS ?_;intro x hx;refine headS ?_
  refine walkS ?_
  generalize x=y at *
  refine aw_condS rfl (fun hj=>?_) (fun hj=>?_)
  ·have hx':y<D.length:=by omega
   obtain ⟨r,hr⟩:∃ r,D[y]?=some r:=⟨_,List.getElem?_eq_getElem hx'⟩
   have G:GoodR D y r:=good_of hV hr
   have hrb:=hD.rule r (List.mem_of_getElem? hr)
   have hrD:=ruleD_get hr
   have hlk:=hrb.lk
   have hbd:=depS_bd D y
   have hKH:∀ m,topK (depS D y) 0 r.kids=m→tabK D y (m+1)=tabH D (y+1):=fun m hm=>tabK_H (by rw [hrD];exact hm)
   rw [tabH_K (by omega)]
   refine walkS ?_
   refine aw_loopS [1,4,5,6,17,23,24] (fun _ _=>[]) (fun _ z=>[(25,.d (iD (z.1:Nat))),(15,.d (encDs D)),(16,.d (iD (D.length:Nat)))]) [48] (fun _ z=>[(48,some (((tabK D y z.2).map iD).map A.d))]) [] (fun _ _=>[]) (fun z:Nat × Int=>z.1≤r.kids.length∧z.2=topK (depS D y) 0 (r.kids.take z.1)) (fun z=>r.kids.length - z.1) ((0,0)) hks (fun _=>rfl) ⟨Nat.zero_le _,rfl⟩ wkS ?_;intro x hx;refine headS ?_
   obtain ⟨j,m⟩:=x
   simp only at hx ⊢
   obtain ⟨hx1,hx2⟩:=hx
   refine walkS ?_
   refine aw_condS rfl (fun hj=>?_) (fun hj=>?_)
   ·have hjl:j<r.kids.length:=by omega
    have i2:r.kids[j]?=some r.kids[j]:=List.getElem?_eq_getElem hjl
    have hs:=topN_take (ts:=depS D y) (a:=0) hjl
    obtain ⟨g3,g4⟩:=G.kid j hjl
    generalize r.kids[j]=ke at *
    have hA0:=tabK_len (D:=D) (n:=y) (by omega) m
    have hA1:=tabK_at (D:=D) (n:=y) m
    have hA2:=tabK_get (D:=D) (n:=y) m g3 g4
    have hA3:=tabK_set (D:=D) (n:=y) m (maxF m (atT (depS D y) ke))
    (repeat (first|refine ctlS ?_|(refine ol_go ?_ (fun K1 hK1=>?_);exact trS;refine evS ?_;(try simp only [partA_at hA1,partA_at hA2,hA3]);refine hK1 _ _ ?_;clear hK1 K1)|(refine ow_go ?_ dsS (fun K1 hK1=>?_);exact trS;refine evS ?_;(try simp only [partA_at hA1,partA_at hA2,hA3]);refine hK1 _ ?_;clear hK1 K1)|refine skipS ?_|refine cS (maxI_c m (atT (depS D y) ke)) ?_))
    refine ⟨(j+1,maxF m (atT (depS D y) ke)),⟨by simp only;omega,by simp only;rw [hs,hx2]⟩,by simp only;omega,?_⟩
    exact wkS
   ·rw [List.take_of_length_le (by omega)] at hx2
    have hb:=topK_bd hbd (by omega) r.kids 0 (by omega)
    rw [←hx2] at hb
    have hA0:=tabK_len (D:=D) (n:=y) (by omega) m
    have hA1:=tabK_at (D:=D) (n:=y) m
    have hA3:=(tabK_set (D:=D) (n:=y) m (m+1)).trans (congrArg (fun l=>(l.map iD).map A.d) (hKH m hx2.symm))
    (repeat (first|refine ctlS ?_|(refine ol_go ?_ (fun K1 hK1=>?_);exact trS;refine evS ?_;(try simp only [partA_at hA1,hA3]);refine hK1 _ _ ?_;clear hK1 K1)|(refine ow_go ?_ dsS (fun K1 hK1=>?_);exact trS;refine evS ?_;(try simp only [partA_at hA1,hA3]);refine hK1 _ ?_;clear hK1 K1)|refine skipS ?_))
    refine ⟨y+1,by omega,by omega,?_⟩
    exact wkS
  ·obtain rfl:y=D.length:=by omega
   have hat:(((tabH D D.length).map iD).map A.d)[i.toNat]?=some (.d (iD (atT (depS D D.length) i))):=by
    have hl:i.toNat<(depS D D.length).length:=by rw [depS_len];omega
    unfold tabH
    rw [List.getElem?_map,List.getElem?_map,List.getElem?_append_left hl,List.getElem?_eq_getElem hl]
    simp [atT,List.getD,hl]
   have hT:=tabH_len (D:=D) (n:=D.length) h24
   (repeat (first|refine ctlS ?_|(refine ol_go ?_ (fun K1 hK1=>?_);exact trS;refine evS ?_;(try simp only [partA_at hat]);refine hK1 _ _ ?_;clear hK1 K1)|(refine ow_go ?_ dsS (fun K1 hK1=>?_);exact trS;refine evS ?_;(try simp only [partA_at hat]);refine hK1 _ ?_;clear hK1 K1)|refine skipS ?_))
   (refine rtS Tryd.results28 ?_;exact ⟨_,_,.inl ⟨rfl,rfl⟩,List.nodup_nil,rfl⟩)
 ·have hk2:vKnown D i=false:=by simpa using hk
  rw [show depOf D i=0 from if_neg hk]
  refine cbS Tryd.func28 rfl Tryd.call28 Tryd.ntmps28 fun en hsz hks hk0=>?_;refine enS ?_
  (repeat (first|refine walkS ?_|(refine callPre ?_;(first|refine callN_funS rfl ((known_c hD hM i).eqv (r1:=.d (bD false)) (by rw [hk2])) ?_))|(refine callPreL ?_;(first|refine callL_funS rfl ((known_c hD hM i).eqv (r1:=.d (bD false)) (by rw [hk2])) ?_))))
  refine aw_condS rfl (fun h2=>?_) (fun h2=>?_)
  ·refine walkS ?_
   (refine rtS Tryd.results28 ?_;exact ⟨_,_,.inl ⟨rfl,rfl⟩,List.nodup_nil,rfl⟩)
  ·(first|exact absurd trivial h2|exact absurd rfl h2|(cases h2;done)|omega|exact absurd h2 (by decide)|(simp at h2;done))
end
end Go.Proofs.YtomfggmmhkpeeaaDoor.Eng
