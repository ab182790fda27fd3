/-
 A value's fields, values of a rule: the program.

 Values of a rule: the program.
-/
import Derived.Test.YtodkkldopciagaaGreatDoorKN38
import Derived.Test.YtodkkldopciagaaGreatDoorKE4
set_option linter.unusedSimpArgs false
set_option linter.unusedVariables false
set_option linter.defProp false
set_option maxRecDepth 100000
set_option maxHeartbeats 4000000
namespace Go.Proofs.YtodkkldopciagaaGreatDoor.Eng
open Go Go.RowKit

def fitV (D:List RuleD) (i:Nat) (r:RuleD) (n:Int) (lb lv:Nat):Bool:=
 if r.kind=7 then decide (lb=0∧lv=1∧0≤n∧n≤limD D (kid0 r))
 else if r.kind=1 then decide (0≤n∧n≤limD D i∧lb=0∧lv=0)
 else ownV D r n lb lv
section
variable {D:List RuleD}{i:Nat}{r:RuleD}{n:Int}{lb lv:Nat}
theorem fitV_1 (h:r.kind=1):fitV D i r n lb lv=decide (0≤n∧n≤limD D i∧lb=0∧lv=0):=by rw [fitV,if_neg (by omega),if_pos h]
theorem fitV_7 (h:r.kind=7):fitV D i r n lb lv=decide (lb=0∧lv=1∧0≤n∧n≤limD D (kid0 r)):=by rw [fitV,if_pos h]
theorem fitV_o (h7:r.kind≠7) (h1:r.kind≠1):fitV D i r n lb lv=ownV D r n lb lv:=by rw [fitV,if_neg h7,if_neg h1]
end
def tailF (r:RuleD) (n:Int) (lb lv:Nat) (z:Int × Int × Int):Bool:=
 (!(r.kind==6 || r.kind==7 || r.kind==9) || ((lv:Int)==z.2.2)) && ((decide (0≤n) && decide (n≤z.1)) && (decide ((lb:Int)≤z.2.1) && decide ((lv:Int)≤z.2.2)))
theorem tailF_iff (r:RuleD) (n:Int) (lb lv:Nat) (z:Int × Int × Int):tailF r n lb lv z=true↔((r.kind=6∨r.kind=7∨r.kind=9→(lv:Int)=z.2.2)∧0≤n∧n≤z.1∧(lb:Int)≤z.2.1∧(lv:Int)≤z.2.2):=by
 unfold tailF
 simp only [Bool.and_eq_true,Bool.or_eq_true,Bool.not_eq_true',decide_eq_true_eq,beq_iff_eq,Bool.or_eq_false_iff,beq_eq_false_iff_ne]
 constructor
 ·rintro ⟨h1,⟨h2,h3⟩,h4,h5⟩
  exact ⟨fun h=>by rcases h1 with h1|h1<;>omega,h2,h3,h4,h5⟩
 ·rintro ⟨h1,h2,h3,h4,h5⟩
  refine ⟨?_,⟨h2,h3⟩,h4,h5⟩
  by_cases h:r.kind=6∨r.kind=7∨r.kind=9
  ·exact .inr (h1 h)
  ·exact .inl (by omega)
section
variable {M:Nat}{D:List RuleD}
private def tyF:=ai (ai (ai tg22 (ai tg24 tg38)) (ai tg58 (ai tg60 tg26))) (ai (ai tg40 (ai tg62 tg3)) (ai (ai tg4 tg5) (ai tg84 tg9)))
theorem fits_c (hD:DB M D) (hM:M≤1048576) {i:Nat}{r:RuleD} (hi:D[i]?=some r) (G:GoodR D i r) {n:Int}{bs:List UInt8}{vs:List V} (hv:VB 1048576 (.mk n bs vs)):AC Tryz.prog 108 [.d (encD D),.d (iD i),.d (.rp (encVc (.mk n bs vs)))] none (fun r' _=>r'=.d (bD (fitV D i r n bs.length vs.length))):=by
 unfold VB at hv
 obtain ⟨v1,v2,_⟩:=hv
 have hrk:=(hD.rule r (List.mem_of_getElem? hi)).lk
 have hDl:=hD.len
 obtain ⟨kd1,kd2⟩:=G.kd
 rw [encVc_mk,encVs_eq]
 refine cbS Tryz.func108 rfl Tryz.call108 Tryz.ntmps108 fun en hsz hks hk0=>?_;refine enS ?_
 refine walkJS ?_
 refine aw_joinS [2,6,7] (fun _ _=>[]) (fun _ z=>[(8,.d (iD z.1)),(9,.d (iD z.2.1)),(10,.d (iD z.2.2))]) [] (fun _ _=>[]) [] (fun _ _=>[]) (fun z:Int × Int × Int=>fitV D i r n bs.length vs.length=tailF r n bs.length vs.length z) hks (fun _=>rfl) (fun x hx=>?_) ?_;rotate_left
 ·refine walkS ?_
  refine aw_condS rfl (fun n1=>?_) (fun n1=>?_)
  ·(repeat (first|refine walkS ?_|refine cS (limI_c hD hM i) ?_))
   refine ⟨(limD D i,0,0),(by rw [Bool.eq_iff_iff,fitV_1 n1,decide_eq_true_eq,tailF_iff];simp only;omega),?_⟩
   exact wkS
  refine walkS ?_
  refine aw_condS rfl (fun n3=>?_) (fun n3=>?_)
  ·refine walkS ?_
   refine aw_condS rfl (fun hne=>?_) (fun hne=>?_)
   ·refine walkS ?_
    (refine rtS Tryz.results108 ?_;exact ⟨_,_,.inl ⟨rfl,rfl⟩,List.nodup_nil,by rw [fitV_o (by omega) (by omega),ownV_3 n3,decide_eq_false (by omega)]⟩)
   ·refine walkS ?_
    refine ⟨(0,r.size,0),(by rw [fitV_o (by omega) (by omega),ownV_3 n3,Bool.eq_iff_iff,decide_eq_true_eq,tailF_iff];simp only;omega),?_⟩
    exact wkS
  refine walkS ?_
  refine aw_condS rfl (fun n4=>?_) (fun n4=>?_)
  ·have k0:=kids0 (r:=r) (by have:=(G.k4 n4).1;omega)
   (repeat (first|refine walkS ?_|refine cS (limI_c hD hM (kid0 r)) ?_|refine cS (minI_c 400 (limD D (kid0 r))) ?_))
   refine ⟨(0,minF 400 (limD D (kid0 r)),0),(by rw [fitV_o (by omega) (by omega),ownV_4 n4,Bool.eq_iff_iff,decide_eq_true_eq,tailF_iff];simp only;unfold minF;split<;>omega),?_⟩
   exact wkS
  refine walkS ?_
  refine aw_condS rfl (fun n10=>?_) (fun n10=>?_)
  ·refine walkS ?_
   refine ⟨(0,400,0),(by rw [fitV_o (by omega) (by omega),ownV_10 n10,Bool.eq_iff_iff,decide_eq_true_eq,tailF_iff];simp only;omega),?_⟩
   exact wkS
  refine walkS ?_
  refine aw_condS rfl (fun n5=>?_) (fun n5=>?_)
  ·have k0:=kids0 (r:=r) (by have:=(G.k5 n5).1;omega)
   (repeat (first|refine walkS ?_|refine cS (limI_c hD hM (kid0 r)) ?_|refine cS (minI_c 40 (limD D (kid0 r))) ?_))
   refine ⟨(0,0,minF 40 (limD D (kid0 r))),(by rw [fitV_o (by omega) (by omega),ownV_5 n5,Bool.eq_iff_iff,decide_eq_true_eq,tailF_iff];simp only;unfold minF;split<;>omega),?_⟩
   exact wkS
  refine walkS ?_
  refine aw_condS rfl (fun n6=>?_) (fun n6=>?_)
  ·refine walkS ?_
   refine ⟨(0,0,r.kids.length),(by rw [fitV_o (by omega) (by omega),ownV_6 n6,Bool.eq_iff_iff,decide_eq_true_eq,tailF_iff];simp only;omega),?_⟩
   exact wkS
  refine walkS ?_
  refine aw_condS rfl (fun n7=>?_) (fun n7=>?_)
  ·have k0:=kids0 (r:=r) (by have:=(G.k7 n7).1;omega)
   (repeat (first|refine walkS ?_|refine cS (limI_c hD hM (kid0 r)) ?_))
   refine ⟨(limD D (kid0 r),0,1),(by rw [Bool.eq_iff_iff,fitV_7 n7,decide_eq_true_eq,tailF_iff];simp only;omega),?_⟩
   exact wkS
  refine walkS ?_
  refine aw_condS rfl (fun n8=>?_) (fun n8=>?_)
  ·refine walkS ?_
   refine aw_condS rfl (fun n8b=>?_) (fun n8b=>?_)
   ·refine walkS ?_
    refine ⟨(0,0,1),(by rw [fitV_o (by omega) (by omega),ownV_8 n8,Bool.eq_iff_iff,decide_eq_true_eq,tailF_iff];simp only;omega),?_⟩
    exact wkS
   ·exact absurd n8 n8b
  refine walkS ?_
  refine aw_condS rfl (fun n9=>?_) (fun n9=>?_)
  ·refine walkS ?_
   refine ⟨(0,0,1),(by rw [fitV_o (by omega) (by omega),ownV_9 n9,Bool.eq_iff_iff,decide_eq_true_eq,tailF_iff];simp only;omega),?_⟩
   exact wkS
  ·have n2:r.kind=2:=by omega
   refine walkS ?_
   refine ⟨(0,0,0),(by rw [fitV_o (by omega) (by omega),ownV_2 n2,Bool.eq_iff_iff,decide_eq_true_eq,tailF_iff];simp only;omega),?_⟩
   exact wkS
 obtain ⟨za,zb,zc⟩:=x
 simp only at hx ⊢
 rw [hx]
 clear hx
 refine headS ?_
 refine aw_joinS [2,6,8,9,10] (fun _ _=>[]) (fun _ _=>[]) [] (fun _ _=>[]) [] (fun _ _=>[]) (fun _:Unit=>tailF r n bs.length vs.length (za,zb,zc)=((decide (0≤n) && decide (n≤za)) && (decide ((bs.length:Int)≤zb) && decide ((vs.length:Int)≤zc)))) hks (fun _=>rfl) (fun x hx=>?_) ?_;rotate_left
 ·cases f6:(r.kind==6) with
  | true=>
   have nn:r.kind=6:=by simpa using f6
   (repeat (first|refine ctlS ?_|(refine ol_go ?_ (fun K1 hK1=>?_);exact trS;refine evS ?_;(try simp only [f6]);refine hK1 _ _ ?_;clear hK1 K1)|(refine ow_go ?_ dsS (fun K1 hK1=>?_);exact trS;refine evS ?_;(try simp only [f6]);refine hK1 _ ?_;clear hK1 K1)|refine skipS ?_))
   refine aw_condS rfl (fun hne=>?_) (fun hne=>?_)
   ·refine walkS ?_
    (refine rtS Tryz.results108 ?_;exact ⟨_,_,.inl ⟨rfl,rfl⟩,List.nodup_nil,by rw [Bool.eq_false_iff.2 (fun h=>absurd (((tailF_iff _ _ _ _ _).1 h).1 (by omega)) (by simpa using hne))]⟩)
   ·refine walkS ?_
    refine ⟨(),(by rw [Bool.eq_iff_iff,tailF_iff];simp only [Bool.and_eq_true,decide_eq_true_eq];(try simp only [ne_eq,Decidable.not_not] at hne);omega),?_⟩
    exact wkS
  | false=>
   cases f7:(r.kind==7) with
   | true=>
    have nn:r.kind=7:=by simpa using f7
    (repeat (first|refine ctlS ?_|(refine ol_go ?_ (fun K1 hK1=>?_);exact trS;refine evS ?_;(try simp only [f6,f7]);refine hK1 _ _ ?_;clear hK1 K1)|(refine ow_go ?_ dsS (fun K1 hK1=>?_);exact trS;refine evS ?_;(try simp only [f6,f7]);refine hK1 _ ?_;clear hK1 K1)|refine skipS ?_))
    refine aw_condS rfl (fun hne=>?_) (fun hne=>?_)
    ·refine walkS ?_
     (refine rtS Tryz.results108 ?_;exact ⟨_,_,.inl ⟨rfl,rfl⟩,List.nodup_nil,by rw [Bool.eq_false_iff.2 (fun h=>absurd (((tailF_iff _ _ _ _ _).1 h).1 (by omega)) (by simpa using hne))]⟩)
    ·refine walkS ?_
     refine ⟨(),(by rw [Bool.eq_iff_iff,tailF_iff];simp only [Bool.and_eq_true,decide_eq_true_eq];(try simp only [ne_eq,Decidable.not_not] at hne);omega),?_⟩
     exact wkS
   | false=>
    cases f9:(r.kind==9) with
    | true=>
     have nn:r.kind=9:=by simpa using f9
     (repeat (first|refine ctlS ?_|(refine ol_go ?_ (fun K1 hK1=>?_);exact trS;refine evS ?_;(try simp only [f6,f7,f9]);refine hK1 _ _ ?_;clear hK1 K1)|(refine ow_go ?_ dsS (fun K1 hK1=>?_);exact trS;refine evS ?_;(try simp only [f6,f7,f9]);refine hK1 _ ?_;clear hK1 K1)|refine skipS ?_))
     refine aw_condS rfl (fun hne=>?_) (fun hne=>?_)
     ·refine walkS ?_
      (refine rtS Tryz.results108 ?_;exact ⟨_,_,.inl ⟨rfl,rfl⟩,List.nodup_nil,by rw [Bool.eq_false_iff.2 (fun h=>absurd (((tailF_iff _ _ _ _ _).1 h).1 (by omega)) (by simpa using hne))]⟩)
     ·refine walkS ?_
      refine ⟨(),(by rw [Bool.eq_iff_iff,tailF_iff];simp only [Bool.and_eq_true,decide_eq_true_eq];(try simp only [ne_eq,Decidable.not_not] at hne);omega),?_⟩
      exact wkS
    | false=>
     have n6:r.kind≠6:=by simpa using f6
     have n7:r.kind≠7:=by simpa using f7
     have n9:r.kind≠9:=by simpa using f9
     (repeat (first|refine ctlS ?_|(refine ol_go ?_ (fun K1 hK1=>?_);exact trS;refine evS ?_;(try simp only [f6,f7,f9]);refine hK1 _ _ ?_;clear hK1 K1)|(refine ow_go ?_ dsS (fun K1 hK1=>?_);exact trS;refine evS ?_;(try simp only [f6,f7,f9]);refine hK1 _ ?_;clear hK1 K1)|refine skipS ?_))
     refine aw_condS rfl (fun hc=>?_) (fun hc=>?_)
     ·(first|exact absurd trivial hc|exact absurd rfl hc|(cases hc;done)|omega|exact absurd hc (by decide)|(simp at hc;done))
     ·refine walkS ?_
      refine ⟨(),(by rw [Bool.eq_iff_iff,tailF_iff];simp only [Bool.and_eq_true,decide_eq_true_eq];omega),?_⟩
      exact wkS
 rw [hx]
 clear hx
 refine headS ?_
 cases eA:(decide (0≤n) && decide (n≤za)) with
 | false=>
  (repeat (first|refine walkS ?_|(refine callPre ?_;(first|refine callN_funS rfl ((inRange_c n 0 za).eqv (r1:=.d (bD false)) (by rw [eA])) ?_))|(refine callPreL ?_;(first|refine callL_funS rfl ((inRange_c n 0 za).eqv (r1:=.d (bD false)) (by rw [eA])) ?_))))
  (refine rtS Tryz.results108 ?_;exact ⟨_,_,.inl ⟨rfl,rfl⟩,List.nodup_nil,by rfl⟩)
 | true=>
  cases eB:decide ((bs.length:Int)≤zb) with
  | false=>
   (repeat (first|refine ctlS ?_|(refine ol_go ?_ (fun K1 hK1=>?_);exact trS;refine evS ?_;(try simp only [eB]);refine hK1 _ _ ?_;clear hK1 K1)|(refine ow_go ?_ dsS (fun K1 hK1=>?_);exact trS;refine evS ?_;(try simp only [eB]);refine hK1 _ ?_;clear hK1 K1)|refine skipS ?_|(refine callPre ?_;(first|refine callN_funS rfl ((inRange_c n 0 za).eqv (r1:=.d (bD true)) (by rw [eA])) ?_))|(refine callPreL ?_;(first|refine callL_funS rfl ((inRange_c n 0 za).eqv (r1:=.d (bD true)) (by rw [eA])) ?_))))
   (refine rtS Tryz.results108 ?_;exact ⟨_,_,.inl ⟨rfl,rfl⟩,List.nodup_nil,by rfl⟩)
  | true=>
   (repeat (first|refine ctlS ?_|(refine ol_go ?_ (fun K1 hK1=>?_);exact trS;refine evS ?_;(try simp only [eB]);refine hK1 _ _ ?_;clear hK1 K1)|(refine ow_go ?_ dsS (fun K1 hK1=>?_);exact trS;refine evS ?_;(try simp only [eB]);refine hK1 _ ?_;clear hK1 K1)|refine skipS ?_|(refine callPre ?_;(first|refine callN_funS rfl ((inRange_c n 0 za).eqv (r1:=.d (bD true)) (by rw [eA])) ?_))|(refine callPreL ?_;(first|refine callL_funS rfl ((inRange_c n 0 za).eqv (r1:=.d (bD true)) (by rw [eA])) ?_))))
   (refine rtS Tryz.results108 ?_;exact ⟨_,_,.inl ⟨rfl,rfl⟩,List.nodup_nil,by rfl⟩)
end
end Go.Proofs.YtodkkldopciagaaGreatDoor.Eng
namespace Go.Proofs.YtodkkldopciagaaGreatDoor.Eng
open Go Go.RowKit

theorem tags_of {D:List RuleD} (h:descP D) {n:Nat}{r:RuleD} (hr:D[n]?=some r) (h7:r.kind=7):∀ t∈r.tags,0≤t∧t≤limD D (kid0 r):=by
 have hn:n<D.length:=(List.getElem?_eq_some_iff.1 hr).1
 have hrn:ruleAt D n=some r:=by simp [ruleAt,hr]
 have hp:ruleP D n r:=by
  refine Classical.byContradiction fun hq=>?_
  have:=h.2 n hn
  rw [vRule_no hrn hq] at this
  exact Bool.noConfusion this
 obtain ⟨_,_,hkid,hk⟩:=hp
 rw [kl_7 h7] at hk
 simp only [Bool.and_eq_true] at hk
 obtain ⟨h1,h2,h3⟩:=tagsP_of hk.2
 intro t ht
 obtain ⟨j,hj,rfl⟩:=List.getElem_of_mem ht
 have:=h3 j hj
 exact this.1
theorem fit_of_own {D:List RuleD}{i:Nat}{r:RuleD} (hV:descP D) (hr:D[i]?=some r) (G:GoodR D i r) {n:Int}{lb lv:Nat} (h:ownV D r n lb lv=true):fitV D i r n lb lv=true:=by
 by_cases h7:r.kind=7
 ·rw [ownV_7 h7,decide_eq_true_eq] at h
  obtain ⟨a1,a2,a3⟩:=h
  rw [fitV_7 h7,decide_eq_true_eq]
  cases ht:tagIx r.tags n with
  | none=>rw [itemK_7n h7 ht] at a3;omega
  | some t=>
   have hlt:=tagIx_lt ht
   have e:r.tags[t]=n:=by
    unfold tagIx at ht
    rw [List.findIdx?_eq_some_iff_getElem] at ht
    obtain ⟨_,h2,_⟩:=ht
    simpa using h2
   have:=tags_of hV hr h7 _ (List.getElem_mem hlt)
   rw [e] at this
   exact ⟨a1,a2,this⟩
 by_cases h1:r.kind=1
 ·rw [ownV_1 h1,decide_eq_true_eq] at h
  rw [fitV_1 h1,decide_eq_true_eq,limD_good (r:=r) (by simp [ruleAt,hr]) ⟨h1,G.k1 h1⟩]
  exact h
 ·rw [fitV_o h7 h1];exact h
theorem own_of_fit {D:List RuleD}{i:Nat}{r:RuleD} (hr:D[i]?=some r) (G:GoodR D i r) {n:Int}{lb lv:Nat} (h:fitV D i r n lb lv=true) (h0:ownV D r n lb lv=false):lv=1∧itemK r n 0<0:=by
 by_cases h7:r.kind=7
 ·rw [fitV_7 h7,decide_eq_true_eq] at h
  rw [ownV_7 h7,decide_eq_false_iff_not] at h0
  omega
 by_cases h1:r.kind=1
 ·rw [fitV_1 h1,decide_eq_true_eq,limD_good (r:=r) (by simp [ruleAt,hr]) ⟨h1,G.k1 h1⟩] at h
  rw [ownV_1 h1,decide_eq_false_iff_not] at h0
  exact absurd h h0
 ·rw [fitV_o h7 h1,h0] at h
  cases h

section
variable {M:Nat}{D:List RuleD}
theorem child_c (hD:DB M D) (hM:M≤1048576) {i:Nat}{r:RuleD} (hi:D[i]?=some r) (v:V) {n:Int}{bs:List UInt8}{vs:List V} (hv:v=.mk n bs vs) (k:Nat) (h5:r.kind=5→2≤r.kids.length) (h7:r.kind=7→r.kids.length=r.tags.length+1) (h8:r.kind=8∨r.kind=9→1≤r.kids.length):AC Tryz.prog 109 [.d (encD D),.d (iD i),.d (.rp (encVc v)),.d (iD k)] none (fun r' _=>r'=.d (iD (itemK r n k))):=by
 subst hv
 have hrb:=hD.rule r (List.mem_of_getElem? hi)
 have hrk:=hrb.lk
 have hrt:=hrb.lt
 have hDl:=hD.len
 rw [encVc_mk]
 refine cbS Tryz.func109 rfl Tryz.call109 Tryz.ntmps109 fun en hsz hks hk0=>?_;refine enS ?_
 refine walkS ?_
 refine aw_condS rfl (fun n5=>?_) (fun n5=>?_)
 ·have k1:=kids1 (h5 n5)
  refine walkS ?_
  (refine rtS Tryz.results109 ?_;exact ⟨_,_,.inl ⟨rfl,rfl⟩,List.nodup_nil,by rw [itemK_5 n5]⟩)
 refine walkS ?_
 refine aw_condS rfl (fun n6=>?_) (fun n6=>?_)
 ·refine walkS ?_
  refine aw_condS rfl (fun hk=>?_) (fun hk=>?_)
  ·refine walkS ?_
   (refine rtS Tryz.results109 ?_;exact ⟨_,_,.inl ⟨rfl,rfl⟩,List.nodup_nil,by rw [itemK_6 n6 (by omega)]⟩)
  ·refine walkS ?_
   (refine rtS Tryz.results109 ?_;exact ⟨_,_,.inl ⟨rfl,rfl⟩,List.nodup_nil,by rw [itemK_6n n6 (by omega)]⟩)
 refine walkS ?_
 refine aw_condS rfl (fun n7=>?_) (fun n7=>?_)
 ·have hl:=h7 n7
  refine walkS ?_
  refine aw_loopS [2,8,9,19,49,50] (fun _ _=>[]) (fun _ k=>[(51,.d (iD (k:Nat)))]) [] (fun _ _=>[]) [] (fun _ _=>[]) (fun k=>k≤r.tags.length∧∀ j (hj:j<r.tags.length),j<k→r.tags[j]≠n) (fun k=>r.tags.length - k) (0) hks (fun _=>rfl) ⟨Nat.zero_le _,fun _ _ h=>absurd h (Nat.not_lt_zero _)⟩ wkS ?_;intro x hx;refine headS ?_
  obtain ⟨hx1,hx2⟩:=hx
  refine walkS ?_
  refine aw_condS rfl (fun hk=>?_) (fun hk=>?_)
  ·refine walkS ?_
   refine aw_condS rfl (fun he=>?_) (fun he=>?_)
   ·refine walkS ?_
    (refine rtS Tryz.results109 ?_;exact ⟨_,_,.inl ⟨rfl,rfl⟩,List.nodup_nil,by rw [itemK_7 n7 (tagIx_hit (by omega) he (fun j hj h=>hx2 j hj h)) (by omega)]⟩)
   ·refine walkS ?_
    refine ⟨x+1,⟨by omega,upto_succ (fun h=>he) hx2⟩,by omega,?_⟩
    exact wkS
  ·refine walkS ?_
   (refine rtS Tryz.results109 ?_;exact ⟨_,_,.inl ⟨rfl,rfl⟩,List.nodup_nil,by rw [itemK_7n n7 (tagIx_none (k:=x) (by omega) (fun j hj h=>hx2 j hj (by omega)))]⟩)
 refine walkS ?_
 refine aw_condS rfl (fun n8=>?_) (fun n8=>?_)
 ·refine walkS ?_
  refine aw_condS rfl (fun n8b=>?_) (fun n8b=>?_)
  ·have k0:=kids0 (h8 (.inl n8))
   refine walkS ?_
   (refine rtS Tryz.results109 ?_;exact ⟨_,_,.inl ⟨rfl,rfl⟩,List.nodup_nil,by rw [itemK_8 (.inl n8)]⟩)
  ·exact absurd n8 n8b
 ·refine walkS ?_
  refine aw_condS rfl (fun n9=>?_) (fun n9=>?_)
  ·have k0:=kids0 (h8 (.inr n9))
   refine walkS ?_
   (refine rtS Tryz.results109 ?_;exact ⟨_,_,.inl ⟨rfl,rfl⟩,List.nodup_nil,by rw [itemK_8 (.inr n9)]⟩)
  ·refine walkS ?_
   (refine rtS Tryz.results109 ?_;exact ⟨_,_,.inl ⟨rfl,rfl⟩,List.nodup_nil,by rw [itemK_no (by omega)]⟩)

theorem validI_step (hD:DB M D) (hM:M≤1048576) (hV:descP D) {i:Nat} (hi:i<D.length) {n:Int}{bs:List UInt8}{vs:List V} (hv:VB 1048576 (.mk n bs vs)) (H:∀ v∈vs,∀ j:Nat,j<D.length→AC Tryz.prog 78 [.d (encD D),.d (iD j),.d (.rp (encVc v))] none (fun r' _=>r'=.d (bD (validV D j v)))):AC Tryz.prog 78 [.d (encD D),.d (iD i),.d (.rp (encVc (.mk n bs vs)))] none (fun r' _=>r'=.d (bD (validV D i (.mk n bs vs)))):=by
 obtain ⟨r,hr⟩:∃ r,D[i]?=some r:=⟨_,List.getElem?_eq_getElem hi⟩
 have G:GoodR D i r:=good_of hV hr
 have HF:=fits_c hD hM hr G hv
 have hl:vs.length≤1048576:=by unfold VB at hv;exact hv.2.1
 have hval:validV D i (.mk n bs vs)=(ownV D r n bs.length vs.length && validVs D r n 0 vs):=by rw [validV,ruleD_get hr]
 obtain ⟨h5,h7,h8⟩:=good_items G
 have HC:∀ k:Nat,AC Tryz.prog 109 [.d (encD D),.d (iD i),.d (.rp (encVc (.mk n bs vs))),.d (iD k)] none (fun r' _=>r'=.d (iD (itemK r n k))):=fun k=>child_c hD hM hr _ rfl k h5 h7 h8
 rw [encVc_mk,encVs_eq] at HF ⊢
 simp only [encVc_mk,encVs_eq] at HC
 cases hF:fitV D i r n bs.length vs.length with
 | false=>
  have hO:ownV D r n bs.length vs.length=false:=by
   cases hO:ownV D r n bs.length vs.length with
   | false=>rfl
   | true=>rw [fit_of_own hV hr G hO] at hF;cases hF
  rw [hF] at HF
  refine cbS Tryz.func78 rfl Tryz.call78 Tryz.ntmps78 fun en hsz hks hk0=>?_;refine enS ?_
  (repeat (first|refine walkS ?_|refine cS (HF) ?_))
  refine aw_condS rfl (fun hc=>?_) (fun hc=>?_)
  ·refine walkS ?_
   (refine rtS Tryz.results78 ?_;exact ⟨_,_,.inl ⟨rfl,rfl⟩,List.nodup_nil,by rw [hval,hO];rfl⟩)
  ·(first|exact absurd trivial hc|exact absurd rfl hc|(cases hc;done)|omega|exact absurd hc (by decide)|(simp at hc;done))
 | true=>
  rw [hF] at HF
  cases hO:ownV D r n bs.length vs.length with
  | false=>
   obtain ⟨e1,e2⟩:=own_of_fit hr G hF hO
   have e3:decide (itemK r n 0<0)=true:=decide_eq_true e2
   refine cbS Tryz.func78 rfl Tryz.call78 Tryz.ntmps78 fun en hsz hks hk0=>?_;refine enS ?_
   (repeat (first|refine walkS ?_|refine cS (HF) ?_))
   refine aw_condS rfl (fun hc=>?_) (fun hc=>?_)
   ·(first|exact absurd trivial hc|exact absurd rfl hc|(cases hc;done)|omega|exact absurd hc (by decide)|(simp at hc;done))
   refine walkS ?_
   refine aw_loopS [1,2,3,6,18] (fun _ _=>[]) (fun _ k=>[(19,.d (iD (k:Nat)))]) [] (fun _ _=>[]) [] (fun _ _=>[]) (fun k=>k=0) (fun k=>vs.length - k) (0) hks (fun _=>rfl) rfl wkS ?_;intro x hx;refine headS ?_
   subst hx
   refine walkS ?_
   refine aw_condS rfl (fun hk=>?_) (fun hk=>?_)
   ·(repeat (first|refine ctlS ?_|(refine ol_go ?_ (fun K1 hK1=>?_);exact trS;refine evS ?_;(try simp only [e3]);refine hK1 _ _ ?_;clear hK1 K1)|(refine ow_go ?_ dsS (fun K1 hK1=>?_);exact trS;refine evS ?_;(try simp only [e3]);refine hK1 _ ?_;clear hK1 K1)|refine skipS ?_|refine cS (HC 0) ?_))
    refine aw_condS rfl (fun hc=>?_) (fun hc=>?_)
    ·refine walkS ?_
     (refine rtS Tryz.results78 ?_;exact ⟨_,_,.inl ⟨rfl,rfl⟩,List.nodup_nil,by rw [hval,hO];rfl⟩)
    ·(first|exact absurd trivial hc|exact absurd rfl hc|(cases hc;done)|omega|exact absurd hc (by decide)|(simp at hc;done))
   ·omega
  | true=>
   have hkid:∀ k (h:k<vs.length),∃ j:Nat,itemK r n k=j∧j<D.length:=fun k h=>own_kid G hi hO h
   rw [hO,Bool.true_and] at hval
   refine cbS Tryz.func78 rfl Tryz.call78 Tryz.ntmps78 fun en hsz hks hk0=>?_;refine enS ?_
   (repeat (first|refine walkS ?_|refine cS (HF) ?_))
   refine aw_condS rfl (fun hc=>?_) (fun hc=>?_)
   ·(first|exact absurd trivial hc|exact absurd rfl hc|(cases hc;done)|omega|exact absurd hc (by decide)|(simp at hc;done))
   refine walkS ?_
   refine aw_loopS [1,2,3,6,18] (fun _ _=>[]) (fun _ k=>[(19,.d (iD (k:Nat)))]) [] (fun _ _=>[]) [] (fun _ _=>[]) (fun k=>k≤vs.length∧validVs D r n 0 vs=validVs D r n k (vs.drop k)) (fun k=>vs.length - k) (0) hks (fun _=>rfl) ⟨Nat.zero_le _,rfl⟩ wkS ?_;intro x hx;refine headS ?_
   obtain ⟨hx1,hx2⟩:=hx
   refine walkS ?_
   refine aw_condS rfl (fun hk=>?_) (fun hk=>?_)
   ·obtain ⟨j,hj1,hj2⟩:=hkid x (by omega)
    have HV:=H (vs[x]'(by omega)) (List.getElem_mem _) j hj2
    have HCx:=HC x
    rw [hj1] at HCx
    have e3:decide ((j:Int)<0)=false:=decide_eq_false (by omega)
    rw [List.drop_eq_getElem_cons (show x<vs.length by omega),validVs,hj1] at hx2
    cases he:validV D j (vs[x]'(by omega)) with
    | false=>
     rw [he] at hx2 HV
     (repeat (first|refine ctlS ?_|(refine ol_go ?_ (fun K1 hK1=>?_);exact trS;refine evS ?_;(try simp only [e3]);refine hK1 _ _ ?_;clear hK1 K1)|(refine ow_go ?_ dsS (fun K1 hK1=>?_);exact trS;refine evS ?_;(try simp only [e3]);refine hK1 _ ?_;clear hK1 K1)|refine skipS ?_|refine cS (HCx) ?_|refine cS (HV) ?_))
     refine aw_condS rfl (fun hc=>?_) (fun hc=>?_)
     ·refine walkS ?_
      (refine rtS Tryz.results78 ?_;exact ⟨_,_,.inl ⟨rfl,rfl⟩,List.nodup_nil,by rw [hval,hx2];rfl⟩)
     ·(first|exact absurd trivial hc|exact absurd rfl hc|(cases hc;done)|omega|exact absurd hc (by decide)|(simp at hc;done))
    | true=>
     rw [he,Bool.true_and] at hx2
     rw [he] at HV
     (repeat (first|refine ctlS ?_|(refine ol_go ?_ (fun K1 hK1=>?_);exact trS;refine evS ?_;(try simp only [e3]);refine hK1 _ _ ?_;clear hK1 K1)|(refine ow_go ?_ dsS (fun K1 hK1=>?_);exact trS;refine evS ?_;(try simp only [e3]);refine hK1 _ ?_;clear hK1 K1)|refine skipS ?_|refine cS (HCx) ?_|refine cS (HV) ?_))
     refine aw_condS rfl (fun hc=>?_) (fun hc=>?_)
     ·(first|exact absurd trivial hc|exact absurd rfl hc|(cases hc;done)|omega|exact absurd hc (by decide)|(simp at hc;done))
     ·refine walkS ?_
      refine ⟨x+1,⟨by omega,hx2⟩,by omega,?_⟩
      exact wkS
   ·rw [List.drop_eq_nil_of_le (by omega),validVs] at hx2
    refine walkS ?_
    (refine rtS Tryz.results78 ?_;exact ⟨_,_,.inl ⟨rfl,rfl⟩,List.nodup_nil,by rw [hval,hx2]⟩)
theorem validI_all (hD:DB M D) (hM:M≤1048576) (hV:descP D):∀ N:Nat,∀ {v:V}{i:Nat},i<D.length→SizeOf.sizeOf v≤N→VB 1048576 v→AC Tryz.prog 78 [.d (encD D),.d (iD i),.d (.rp (encVc v))] none (fun r' _=>r'=.d (bD (validV D i v)))
 | 0,.mk n bs vs,i,_,h,_=>by simp only [V.mk.sizeOf_spec] at h;omega
 | N+1,.mk n bs vs,i,hi,h,hv=>validI_step hD hM hV hi hv fun v hvm j hj=>validI_all hD hM hV N hj (by have:=item_lt (n:=n) (bs:=bs) hvm;omega) (by unfold VB at hv;exact hv.2.2.el v hvm)
end
end Go.Proofs.YtodkkldopciagaaGreatDoor.Eng
