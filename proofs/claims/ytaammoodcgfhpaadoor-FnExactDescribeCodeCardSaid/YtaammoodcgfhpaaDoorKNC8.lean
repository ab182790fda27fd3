/-
 The reference's compiler: the code of a rule.
-/
import Derived.Test.YtaammoodcgfhpaaDoorKNC7
import Derived.Test.YtaammoodcgfhpaaDoorKNC6
set_option linter.unusedSimpArgs false
set_option linter.unusedVariables false
set_option linter.defProp false
set_option maxRecDepth 100000
set_option maxHeartbeats 4000000
namespace Go.Proofs.YtaammoodcgfhpaaDoor.Eng
open Go Go.RowKit

section
variable {D:List RuleD}{st:Int}{es:List Int}{r:RuleD}{i:Nat}
theorem ownC_snoc (B:List Ins) (x:Ins):ownC (B++[x])=.own 46 3 (B.map insC++[insC x]):=by simp only [ownC,List.map_append,List.map_cons,List.map_nil]
private def tyF:=ai (ai (ai tg54 (ai tg26 tg28)) (ai tg38 (ai tg39 tg30))) (ai (ai tg46 (ai tg61 tg3)) (ai tg4 (ai tg5 tg9)))
theorem compRS_1 (hD:DB 1048576 D) (hV:descP D) (hr:D[i]?=some r) (he:es.length=i) (hs:0≤st∧st≤200000000) (hk:r.kind=1):AC Tryd.prog 29 [.d (encD D),.d (iD (i:Nat)),.d (iD st),.d (encI es)] none (fun r' _=>r'=ownC (cmpR r st es)):=by
 have G:GoodR D i r:=good_of hV hr
 have hrb:=hD.rule r (List.mem_of_getElem? hr)
 have hil:i<D.length:=(List.getElem?_eq_some_iff.1 hr).1
 have hkk:=kids_in G he
 have hw:cmpB r st es=[(1,r.size,if r.little then 1 else 0)]:=by
  unfold cmpB
  rw [if_pos hk]
 have HL:=littleS_c r
 simp only [encR,encRc,hk] at HL
 have HA:=opS_c 1 r.size (if r.little then 1 else 0)
 have HK:=(l7Rule_c hD (Nat.le_refl _) (i:Int)).eqv (r1:=.d (bD true)) (by rw [vKnown_yes (vDesc_yes hV) ⟨by omega,by omega⟩])
 have d1:decide ((es.length:Int)<(i:Int))=false:=decide_eq_false (by omega)
 have HO:=opS_c 10 0 0
 obtain ⟨W,hW⟩:∃ W,W=cmpR r st es:=⟨_,rfl⟩
 rw [←hW]
 unfold cmpR at hW
 rw [hw] at hW
 refine cbS Tryd.func29 rfl Tryd.call29 Tryd.ntmps29 fun en hsz hks hk0=>?_;refine enS ?_
 (repeat (first|refine walkS ?_|refine cS (HK) ?_))
 refine aw_condS rfl (fun h=>?_) (fun h=>?_)
 ·omega
 refine walkS ?_
 simp only [hk]
 (repeat (first|refine walkS ?_|refine cS (HL) ?_|refine cS (HA) ?_|refine cS (HO) ?_|refine aw_condT rfl ?_|refine aw_condF rfl ?_))
 (refine rtS Tryd.results29 ?_;exact ⟨_,_,.inl (toZ_own (by simp [lk,St.mem])),by simp,by rw [hW];rfl⟩)
theorem compRS_2 (hD:DB 1048576 D) (hV:descP D) (hr:D[i]?=some r) (he:es.length=i) (hs:0≤st∧st≤200000000) (hk:r.kind=2):AC Tryd.prog 29 [.d (encD D),.d (iD (i:Nat)),.d (iD st),.d (encI es)] none (fun r' _=>r'=ownC (cmpR r st es)):=by
 have G:GoodR D i r:=good_of hV hr
 have hrb:=hD.rule r (List.mem_of_getElem? hr)
 have hil:i<D.length:=(List.getElem?_eq_some_iff.1 hr).1
 have hkk:=kids_in G he
 have hw:cmpB r st es=r.bytes.map fun x=>(2,(x.toNat:Int),0):=by
  unfold cmpB
  rw [if_neg (by omega),if_pos hk]
 have HK:=(l7Rule_c hD (Nat.le_refl _) (i:Int)).eqv (r1:=.d (bD true)) (by rw [vKnown_yes (vDesc_yes hV) ⟨by omega,by omega⟩])
 have d1:decide ((es.length:Int)<(i:Int))=false:=decide_eq_false (by omega)
 have HO:=opS_c 10 0 0
 obtain ⟨W,hW⟩:∃ W,W=cmpR r st es:=⟨_,rfl⟩
 rw [←hW]
 unfold cmpR at hW
 rw [hw] at hW
 refine cbS Tryd.func29 rfl Tryd.call29 Tryd.ntmps29 fun en hsz hks hk0=>?_;refine enS ?_
 (repeat (first|refine walkS ?_|refine cS (HK) ?_))
 refine aw_condS rfl (fun h=>?_) (fun h=>?_)
 ·omega
 refine walkS ?_
 simp only [hk]
 (repeat (first|refine walkS ?_|refine aw_condT rfl ?_|refine aw_condF rfl ?_))
 refine aw_loopS [2,3,8,10,31] (fun κ s'=>[(κ,keyOf (s'.f 9))]) (fun κ x=>[(11,.d (iD (x.1:Nat))),(9,.own κ 46 3 (x.2.map insC))]) [] (fun _ _=>[]) [32] (fun κ x=>[(κ,some (x.2.length,46,3))]) (fun x:Nat × List Ins=>x.1≤r.bytes.length∧x.2=(r.bytes.take x.1).map fun x=>(2,(x.toNat:Int),0)) (fun x=>r.bytes.length - x.1) ((0,[])) hks (fun _=>rfl) ⟨Nat.zero_le _,rfl⟩ wkS ?_;intro x hx;refine headS ?_
 obtain ⟨y,acc⟩:=x
 simp only at hx ⊢
 obtain ⟨hx1,hx2⟩:=hx
 have hl:acc.length=y:=by rw [hx2,List.length_map,List.length_take];omega
 have hlb:=hrb.lb
 refine walkS ?_
 refine aw_condS rfl (fun h2=>?_) (fun h2=>?_)
 ·have hy:y<r.bytes.length:=by omega
  have i1:r.bytes[y]?=some (r.bytes[y]):=List.getElem?_eq_getElem hy
  have e0:=u8_w3 (r.bytes[y])
  have HA:=opS_c 2 (((r.bytes[y]).toNat:Nat):Int) 0
  (repeat (first|refine ctlS ?_|(refine ol_go ?_ (fun K1 hK1=>?_);exact trS;refine evS ?_;(first|refine ⟨_,i1,?_⟩|skip);(try simp only [e0]);refine hK1 _ _ ?_;clear hK1 K1)|(refine ow_go ?_ dsS (fun K1 hK1=>?_);exact trS;refine evS ?_;(first|refine ⟨_,i1,?_⟩|skip);(try simp only [e0]);refine hK1 _ ?_;clear hK1 K1)|refine skipS ?_|refine cS (HA) ?_))
  rw [show ([[iD 2,iD (((r.bytes[y]).toNat:Nat):Int),iD 0]]:List (List Eng.D))=[insC (2,(((r.bytes[y]).toNat:Nat):Int),0)] from rfl]
  refine ⟨(y+1,acc++[(2,((r.bytes[y]).toNat:Int),0)]),⟨by simp only;omega,by simp only;rw [List.take_succ_eq_append_getElem hy,List.map_append,←hx2];rfl⟩,by simp only;omega,?_⟩
  exact wkS
 ·obtain rfl:y=r.bytes.length:=by omega
  rw [List.take_length] at hx2
  rw [←hx2] at hW
  (repeat (first|refine walkS ?_|refine cS (HO) ?_|refine aw_condT rfl ?_|refine aw_condF rfl ?_))
  (refine rtS Tryd.results29 ?_;exact ⟨_,_,.inl (toZ_own (by simp [lk,St.mem])),by simp,by rw [hW];exact (ownC_snoc acc (10,0,0)).symm⟩)
theorem compRS_3 (hD:DB 1048576 D) (hV:descP D) (hr:D[i]?=some r) (he:es.length=i) (hs:0≤st∧st≤200000000) (hk:r.kind=3):AC Tryd.prog 29 [.d (encD D),.d (iD (i:Nat)),.d (iD st),.d (encI es)] none (fun r' _=>r'=ownC (cmpR r st es)):=by
 have G:GoodR D i r:=good_of hV hr
 have hrb:=hD.rule r (List.mem_of_getElem? hr)
 have hil:i<D.length:=(List.getElem?_eq_some_iff.1 hr).1
 have hkk:=kids_in G he
 have hw:cmpB r st es=[(3,r.size,0)]:=by
  unfold cmpB
  rw [if_neg (by omega),if_neg (by omega),if_pos hk]
 have HA:=opS_c 3 r.size 0
 have HK:=(l7Rule_c hD (Nat.le_refl _) (i:Int)).eqv (r1:=.d (bD true)) (by rw [vKnown_yes (vDesc_yes hV) ⟨by omega,by omega⟩])
 have d1:decide ((es.length:Int)<(i:Int))=false:=decide_eq_false (by omega)
 have HO:=opS_c 10 0 0
 obtain ⟨W,hW⟩:∃ W,W=cmpR r st es:=⟨_,rfl⟩
 rw [←hW]
 unfold cmpR at hW
 rw [hw] at hW
 refine cbS Tryd.func29 rfl Tryd.call29 Tryd.ntmps29 fun en hsz hks hk0=>?_;refine enS ?_
 (repeat (first|refine walkS ?_|refine cS (HK) ?_))
 refine aw_condS rfl (fun h=>?_) (fun h=>?_)
 ·omega
 refine walkS ?_
 simp only [hk]
 (repeat (first|refine walkS ?_|refine cS (HA) ?_|refine cS (HO) ?_|refine aw_condT rfl ?_|refine aw_condF rfl ?_))
 (refine rtS Tryd.results29 ?_;exact ⟨_,_,.inl (toZ_own (by simp [lk,St.mem])),by simp,by rw [hW];rfl⟩)
theorem compRS_4 (hD:DB 1048576 D) (hV:descP D) (hr:D[i]?=some r) (he:es.length=i) (hs:0≤st∧st≤200000000) (hk:r.kind=4):AC Tryd.prog 29 [.d (encD D),.d (iD (i:Nat)),.d (iD st),.d (encI es)] none (fun r' _=>r'=ownC (cmpR r st es)):=by
 have G:GoodR D i r:=good_of hV hr
 have hrb:=hD.rule r (List.mem_of_getElem? hr)
 have hil:i<D.length:=(List.getElem?_eq_some_iff.1 hr).1
 have hkk:=kids_in G he
 have hkl:=(G.k4 hk).1
 obtain ⟨k0,q0,h0⟩:=hkk 0 (by omega)
 have i0:r.kids[0]?=some (k0:Int):=by rw [List.getElem?_eq_getElem (by omega),q0]
 have e0:kid0 r=k0:=by unfold kid0;cases hq:r.kids with|nil=>rw [hq] at i0;simp at i0|cons a b=>rw [hq] at i0;simpa using i0
 have H0:=callS_c (es:=es) h0
 have hw:cmpB r st es=[insCall es k0,(4,0,0)]:=by
  unfold cmpB
  rw [if_neg (by omega),if_neg (by omega),if_neg (by omega),if_pos hk,e0]
 have HA:=opS_c 4 0 0
 have HK:=(l7Rule_c hD (Nat.le_refl _) (i:Int)).eqv (r1:=.d (bD true)) (by rw [vKnown_yes (vDesc_yes hV) ⟨by omega,by omega⟩])
 have d1:decide ((es.length:Int)<(i:Int))=false:=decide_eq_false (by omega)
 have HO:=opS_c 10 0 0
 obtain ⟨W,hW⟩:∃ W,W=cmpR r st es:=⟨_,rfl⟩
 rw [←hW]
 unfold cmpR at hW
 rw [hw] at hW
 refine cbS Tryd.func29 rfl Tryd.call29 Tryd.ntmps29 fun en hsz hks hk0=>?_;refine enS ?_
 (repeat (first|refine walkS ?_|refine cS (HK) ?_))
 refine aw_condS rfl (fun h=>?_) (fun h=>?_)
 ·omega
 refine walkS ?_
 simp only [hk]
 (repeat (first|refine walkS ?_|refine cS (H0) ?_|refine cS (HA) ?_|refine cS (HO) ?_|refine aw_condT rfl ?_|refine aw_condF rfl ?_))
 (refine rtS Tryd.results29 ?_;exact ⟨_,_,.inl (toZ_own (by simp [lk,St.mem])),by simp,by rw [hW];rfl⟩)
theorem compRS_5 (hD:DB 1048576 D) (hV:descP D) (hr:D[i]?=some r) (he:es.length=i) (hs:0≤st∧st≤200000000) (hk:r.kind=5):AC Tryd.prog 29 [.d (encD D),.d (iD (i:Nat)),.d (iD st),.d (encI es)] none (fun r' _=>r'=ownC (cmpR r st es)):=by
 have G:GoodR D i r:=good_of hV hr
 have hrb:=hD.rule r (List.mem_of_getElem? hr)
 have hil:i<D.length:=(List.getElem?_eq_some_iff.1 hr).1
 have hkk:=kids_in G he
 have hkl:=(G.k5 hk).1
 obtain ⟨k0,q0,h0⟩:=hkk 0 (by omega)
 have i0:r.kids[0]?=some (k0:Int):=by rw [List.getElem?_eq_getElem (by omega),q0]
 have e0:kid0 r=k0:=by unfold kid0;cases hq:r.kids with|nil=>rw [hq] at i0;simp at i0|cons a b=>rw [hq] at i0;simpa using i0
 have H0:=callS_c (es:=es) h0
 obtain ⟨k1,q1,h1⟩:=hkk 1 (by omega)
 have i1:r.kids[1]?=some (k1:Int):=by rw [List.getElem?_eq_getElem (by omega),q1]
 have e1:kid1 r=k1:=by
  have:=kids1 (r:=r) (by omega)
  rw [i1] at this
  exact (Option.some.inj this).symm
 have H1:=callS_c (es:=es) h1
 have hw:cmpB r st es=[insCall es k0,(5,40,0),(6,0,0),(7,st+6,0),insCall es k1,(8,st+3,0)]:=by
  unfold cmpB
  rw [if_neg (by omega),if_neg (by omega),if_neg (by omega),if_neg (by omega),if_pos hk,e0,e1]
 have HA:=opS_c 5 40 0
 have HB:=opS_c 6 0 0
 have HC:=opS_c 7 (st+6) 0
 have HE:=opS_c 8 (st+3) 0
 have HK:=(l7Rule_c hD (Nat.le_refl _) (i:Int)).eqv (r1:=.d (bD true)) (by rw [vKnown_yes (vDesc_yes hV) ⟨by omega,by omega⟩])
 have d1:decide ((es.length:Int)<(i:Int))=false:=decide_eq_false (by omega)
 have HO:=opS_c 10 0 0
 obtain ⟨W,hW⟩:∃ W,W=cmpR r st es:=⟨_,rfl⟩
 rw [←hW]
 unfold cmpR at hW
 rw [hw] at hW
 refine cbS Tryd.func29 rfl Tryd.call29 Tryd.ntmps29 fun en hsz hks hk0=>?_;refine enS ?_
 (repeat (first|refine walkS ?_|refine cS (HK) ?_))
 refine aw_condS rfl (fun h=>?_) (fun h=>?_)
 ·omega
 refine walkS ?_
 simp only [hk]
 (repeat (first|refine walkS ?_|refine cS (H0) ?_|refine cS (H1) ?_|refine cS (HA) ?_|refine cS (HB) ?_|refine cS (HC) ?_|refine cS (HE) ?_|refine cS (HO) ?_|refine aw_condT rfl ?_|refine aw_condF rfl ?_))
 (refine rtS Tryd.results29 ?_;exact ⟨_,_,.inl (toZ_own (by simp [lk,St.mem])),by simp,by rw [hW];rfl⟩)
theorem compRS_6 (hD:DB 1048576 D) (hV:descP D) (hr:D[i]?=some r) (he:es.length=i) (hs:0≤st∧st≤200000000) (hk:r.kind=6):AC Tryd.prog 29 [.d (encD D),.d (iD (i:Nat)),.d (iD st),.d (encI es)] none (fun r' _=>r'=ownC (cmpR r st es)):=by
 have G:GoodR D i r:=good_of hV hr
 have hrb:=hD.rule r (List.mem_of_getElem? hr)
 have hil:i<D.length:=(List.getElem?_eq_some_iff.1 hr).1
 have hkk:=kids_in G he
 have hw:cmpB r st es=r.kids.map (insCall es):=by
  unfold cmpB
  rw [if_neg (by omega),if_neg (by omega),if_neg (by omega),if_neg (by omega),if_neg (by omega),if_pos hk]
 have HK:=(l7Rule_c hD (Nat.le_refl _) (i:Int)).eqv (r1:=.d (bD true)) (by rw [vKnown_yes (vDesc_yes hV) ⟨by omega,by omega⟩])
 have d1:decide ((es.length:Int)<(i:Int))=false:=decide_eq_false (by omega)
 have HO:=opS_c 10 0 0
 obtain ⟨W,hW⟩:∃ W,W=cmpR r st es:=⟨_,rfl⟩
 rw [←hW]
 unfold cmpR at hW
 rw [hw] at hW
 refine cbS Tryd.func29 rfl Tryd.call29 Tryd.ntmps29 fun en hsz hks hk0=>?_;refine enS ?_
 (repeat (first|refine walkS ?_|refine cS (HK) ?_))
 refine aw_condS rfl (fun h=>?_) (fun h=>?_)
 ·omega
 refine walkS ?_
 simp only [hk]
 (repeat (first|refine walkS ?_|refine aw_condT rfl ?_|refine aw_condF rfl ?_))
 refine aw_loopS [2,3,8,10,31] (fun κ s'=>[(κ,keyOf (s'.f 9))]) (fun κ x=>[(12,.d (iD (x.1:Nat))),(9,.own κ 46 3 (x.2.map insC))]) [] (fun _ _=>[]) [32] (fun κ x=>[(κ,some (x.2.length,46,3))]) (fun x:Nat × List Ins=>x.1≤r.kids.length∧x.2=(r.kids.take x.1).map (insCall es)) (fun x=>r.kids.length - x.1) ((0,[])) hks (fun _=>rfl) ⟨Nat.zero_le _,rfl⟩ wkS ?_;intro x hx;refine headS ?_
 obtain ⟨y,acc⟩:=x
 simp only at hx ⊢
 obtain ⟨hx1,hx2⟩:=hx
 have hl:acc.length=y:=by rw [hx2,List.length_map,List.length_take];omega
 have hlb:=hrb.lk
 refine walkS ?_
 refine aw_condS rfl (fun h2=>?_) (fun h2=>?_)
 ·have hy:y<r.kids.length:=by omega
  obtain ⟨k,hk1,hk2⟩:=hkk y hy
  have i1:r.kids[y]?=some (k:Int):=by rw [List.getElem?_eq_getElem hy,hk1]
  have HA:=callS_c (es:=es) hk2
  (repeat (first|refine ctlS ?_|(refine ol_go ?_ (fun K1 hK1=>?_);exact trS;refine evS ?_;(first|refine ⟨_,i1,?_⟩|skip);refine hK1 _ _ ?_;clear hK1 K1)|(refine ow_go ?_ dsS (fun K1 hK1=>?_);exact trS;refine evS ?_;(first|refine ⟨_,i1,?_⟩|skip);refine hK1 _ ?_;clear hK1 K1)|refine skipS ?_|refine cS (HA) ?_))
  rw [show ([[iD 9,iD (atT es k),iD 0]]:List (List Eng.D))=[insC (insCall es k)] from rfl]
  refine ⟨(y+1,acc++[insCall es k]),⟨by simp only;omega,by simp only;rw [List.take_succ_eq_append_getElem hy,List.map_append,←hx2,hk1];rfl⟩,by simp only;omega,?_⟩
  exact wkS
 ·obtain rfl:y=r.kids.length:=by omega
  rw [List.take_length] at hx2
  rw [←hx2] at hW
  (repeat (first|refine walkS ?_|refine cS (HO) ?_|refine aw_condT rfl ?_|refine aw_condF rfl ?_))
  (refine rtS Tryd.results29 ?_;exact ⟨_,_,.inl (toZ_own (by simp [lk,St.mem])),by simp,by rw [hW];exact (ownC_snoc acc (10,0,0)).symm⟩)
theorem compRS_7 (hD:DB 1048576 D) (hV:descP D) (hr:D[i]?=some r) (he:es.length=i) (hs:0≤st∧st≤200000000) (hk:r.kind=7):AC Tryd.prog 29 [.d (encD D),.d (iD (i:Nat)),.d (iD st),.d (encI es)] none (fun r' _=>r'=ownC (cmpR r st es)):=by
 have G:GoodR D i r:=good_of hV hr
 have hrb:=hD.rule r (List.mem_of_getElem? hr)
 have hil:i<D.length:=(List.getElem?_eq_some_iff.1 hr).1
 have hkk:=kids_in G he
 have hw:cmpB r st es=insCall es (kid0 r)::cmpTags r.tags (st+r.tags.length+2)++[(12,3,0)]++cmpAlts es (r.kids.drop 1):=by
  unfold cmpB
  rw [if_neg (by omega),if_neg (by omega),if_neg (by omega),if_neg (by omega),if_neg (by omega),if_neg (by omega),if_pos hk]
 have hB:=cmpB_len hrb st es
 have HC:=choiceS_c (G.k7 hk).1 hkk hrb.lk hs
 rw [←hw] at HC
 rw [hw] at hB
 simp only [encR,encRc,hk] at HC
 have HK:=(l7Rule_c hD (Nat.le_refl _) (i:Int)).eqv (r1:=.d (bD true)) (by rw [vKnown_yes (vDesc_yes hV) ⟨by omega,by omega⟩])
 have d1:decide ((es.length:Int)<(i:Int))=false:=decide_eq_false (by omega)
 have HO:=opS_c 10 0 0
 obtain ⟨W,hW⟩:∃ W,W=cmpR r st es:=⟨_,rfl⟩
 rw [←hW]
 unfold cmpR at hW
 rw [hw] at hW
 refine cbS Tryd.func29 rfl Tryd.call29 Tryd.ntmps29 fun en hsz hks hk0=>?_;refine enS ?_
 (repeat (first|refine walkS ?_|refine cS (HK) ?_))
 refine aw_condS rfl (fun h=>?_) (fun h=>?_)
 ·omega
 refine walkS ?_
 simp only [hk]
 rw [←hw] at hW hB
 generalize cmpB r st es=B at *
 (repeat (first|refine walkS ?_|refine cS (HC) ?_|refine cS (HO) ?_|refine aw_condT rfl ?_|refine aw_condF rfl ?_))
 (refine rtS Tryd.results29 ?_;exact ⟨_,_,.inl (toZ_own (by simp [lk,St.mem])),by simp,by rw [hW];exact (ownC_snoc B (10,0,0)).symm⟩)
theorem compRS_8 (hD:DB 1048576 D) (hV:descP D) (hr:D[i]?=some r) (he:es.length=i) (hs:0≤st∧st≤200000000) (hk:r.kind=8):AC Tryd.prog 29 [.d (encD D),.d (iD (i:Nat)),.d (iD st),.d (encI es)] none (fun r' _=>r'=ownC (cmpR r st es)):=by
 have G:GoodR D i r:=good_of hV hr
 have hrb:=hD.rule r (List.mem_of_getElem? hr)
 have hil:i<D.length:=(List.getElem?_eq_some_iff.1 hr).1
 have hkk:=kids_in G he
 have hkl:=G.k8 hk
 obtain ⟨k0,q0,h0⟩:=hkk 0 (by omega)
 have i0:r.kids[0]?=some (k0:Int):=by rw [List.getElem?_eq_getElem (by omega),q0]
 have e0:kid0 r=k0:=by unfold kid0;cases hq:r.kids with|nil=>rw [hq] at i0;simp at i0|cons a b=>rw [hq] at i0;simpa using i0
 have H0:=callS_c (es:=es) h0
 have hw:cmpB r st es=[(13,st+2,0),insCall es k0]:=by
  unfold cmpB
  rw [if_neg (by omega),if_neg (by omega),if_neg (by omega),if_neg (by omega),if_neg (by omega),if_neg (by omega),if_neg (by omega),if_pos hk,e0]
 have HA:=opS_c 13 (st+2) 0
 have HK:=(l7Rule_c hD (Nat.le_refl _) (i:Int)).eqv (r1:=.d (bD true)) (by rw [vKnown_yes (vDesc_yes hV) ⟨by omega,by omega⟩])
 have d1:decide ((es.length:Int)<(i:Int))=false:=decide_eq_false (by omega)
 have HO:=opS_c 10 0 0
 obtain ⟨W,hW⟩:∃ W,W=cmpR r st es:=⟨_,rfl⟩
 rw [←hW]
 unfold cmpR at hW
 rw [hw] at hW
 refine cbS Tryd.func29 rfl Tryd.call29 Tryd.ntmps29 fun en hsz hks hk0=>?_;refine enS ?_
 (repeat (first|refine walkS ?_|refine cS (HK) ?_))
 refine aw_condS rfl (fun h=>?_) (fun h=>?_)
 ·omega
 refine walkS ?_
 simp only [hk]
 (repeat (first|refine walkS ?_|refine cS (H0) ?_|refine cS (HA) ?_|refine cS (HO) ?_|refine aw_condT rfl ?_|refine aw_condF rfl ?_))
 (refine rtS Tryd.results29 ?_;exact ⟨_,_,.inl (toZ_own (by simp [lk,St.mem])),by simp,by rw [hW];rfl⟩)
theorem compRS_9 (hD:DB 1048576 D) (hV:descP D) (hr:D[i]?=some r) (he:es.length=i) (hs:0≤st∧st≤200000000) (hk:r.kind=9):AC Tryd.prog 29 [.d (encD D),.d (iD (i:Nat)),.d (iD st),.d (encI es)] none (fun r' _=>r'=ownC (cmpR r st es)):=by
 have G:GoodR D i r:=good_of hV hr
 have hrb:=hD.rule r (List.mem_of_getElem? hr)
 have hil:i<D.length:=(List.getElem?_eq_some_iff.1 hr).1
 have hkk:=kids_in G he
 have hkl:=G.k9 hk
 obtain ⟨k0,q0,h0⟩:=hkk 0 (by omega)
 have i0:r.kids[0]?=some (k0:Int):=by rw [List.getElem?_eq_getElem (by omega),q0]
 have e0:kid0 r=k0:=by unfold kid0;cases hq:r.kids with|nil=>rw [hq] at i0;simp at i0|cons a b=>rw [hq] at i0;simpa using i0
 have H0:=callS_c (es:=es) h0
 have hw:cmpB r st es=[(14,0,0),insCall es k0,(15,0,0)]:=by
  unfold cmpB
  rw [if_neg (by omega),if_neg (by omega),if_neg (by omega),if_neg (by omega),if_neg (by omega),if_neg (by omega),if_neg (by omega),if_neg (by omega),if_pos hk,e0]
 have HA:=opS_c 14 0 0
 have HB:=opS_c 15 0 0
 have HK:=(l7Rule_c hD (Nat.le_refl _) (i:Int)).eqv (r1:=.d (bD true)) (by rw [vKnown_yes (vDesc_yes hV) ⟨by omega,by omega⟩])
 have d1:decide ((es.length:Int)<(i:Int))=false:=decide_eq_false (by omega)
 have HO:=opS_c 10 0 0
 obtain ⟨W,hW⟩:∃ W,W=cmpR r st es:=⟨_,rfl⟩
 rw [←hW]
 unfold cmpR at hW
 rw [hw] at hW
 refine cbS Tryd.func29 rfl Tryd.call29 Tryd.ntmps29 fun en hsz hks hk0=>?_;refine enS ?_
 (repeat (first|refine walkS ?_|refine cS (HK) ?_))
 refine aw_condS rfl (fun h=>?_) (fun h=>?_)
 ·omega
 refine walkS ?_
 simp only [hk]
 (repeat (first|refine walkS ?_|refine cS (H0) ?_|refine cS (HA) ?_|refine cS (HB) ?_|refine cS (HO) ?_|refine aw_condT rfl ?_|refine aw_condF rfl ?_))
 (refine rtS Tryd.results29 ?_;exact ⟨_,_,.inl (toZ_own (by simp [lk,St.mem])),by simp,by rw [hW];rfl⟩)
theorem compRS_10 (hD:DB 1048576 D) (hV:descP D) (hr:D[i]?=some r) (he:es.length=i) (hs:0≤st∧st≤200000000) (hk:r.kind=10):AC Tryd.prog 29 [.d (encD D),.d (iD (i:Nat)),.d (iD st),.d (encI es)] none (fun r' _=>r'=ownC (cmpR r st es)):=by
 have G:GoodR D i r:=good_of hV hr
 have hrb:=hD.rule r (List.mem_of_getElem? hr)
 have hil:i<D.length:=(List.getElem?_eq_some_iff.1 hr).1
 have hkk:=kids_in G he
 obtain ⟨c,hc⟩:∃ c,r.bytes=[c]:=List.length_eq_one_iff.1 (G.k10 hk)
 have i1:r.bytes[0]?=some c:=by rw [hc];rfl
 have e0:=u8_w3 c
 have hw:cmpB r st es=[(16,((c.toNat:Nat):Int),0)]:=by
  unfold cmpB
  rw [if_neg (by omega),if_neg (by omega),if_neg (by omega),if_neg (by omega),if_neg (by omega),if_neg (by omega),if_neg (by omega),if_neg (by omega),if_neg (by omega),i1]
  rfl
 have HA:=opS_c 16 ((c.toNat:Nat):Int) 0
 have HK:=(l7Rule_c hD (Nat.le_refl _) (i:Int)).eqv (r1:=.d (bD true)) (by rw [vKnown_yes (vDesc_yes hV) ⟨by omega,by omega⟩])
 have d1:decide ((es.length:Int)<(i:Int))=false:=decide_eq_false (by omega)
 have HO:=opS_c 10 0 0
 obtain ⟨W,hW⟩:∃ W,W=cmpR r st es:=⟨_,rfl⟩
 rw [←hW]
 unfold cmpR at hW
 rw [hw] at hW
 refine cbS Tryd.func29 rfl Tryd.call29 Tryd.ntmps29 fun en hsz hks hk0=>?_;refine enS ?_
 (repeat (first|refine walkS ?_|refine cS (HK) ?_))
 refine aw_condS rfl (fun h=>?_) (fun h=>?_)
 ·omega
 refine walkS ?_
 simp only [hk]
 (repeat (first|refine ctlS ?_|(refine ol_go ?_ (fun K1 hK1=>?_);exact trS;refine evS ?_;(first|refine ⟨_,i1,?_⟩|skip);(try simp only [e0]);refine hK1 _ _ ?_;clear hK1 K1)|(refine ow_go ?_ dsS (fun K1 hK1=>?_);exact trS;refine evS ?_;(first|refine ⟨_,i1,?_⟩|skip);(try simp only [e0]);refine hK1 _ ?_;clear hK1 K1)|refine skipS ?_|refine cS (HA) ?_|refine cS (HO) ?_|refine aw_condT rfl ?_|refine aw_condF rfl ?_))
 (refine rtS Tryd.results29 ?_;exact ⟨_,_,.inl (toZ_own (by simp [lk,St.mem])),by simp,by rw [hW];rfl⟩)
theorem compRS_c (hD:DB 1048576 D) (hV:descP D) (hr:D[i]?=some r) (he:es.length=i) (hs:0≤st∧st≤200000000):AC Tryd.prog 29 [.d (encD D),.d (iD (i:Nat)),.d (iD st),.d (encI es)] none (fun r' _=>r'=ownC (cmpR r st es)):=by
 have G:GoodR D i r:=good_of hV hr
 have hk:=G.kd
 have h10:r.kind=1∨r.kind=2∨r.kind=3∨r.kind=4∨r.kind=5∨r.kind=6∨r.kind=7∨r.kind=8∨r.kind=9∨r.kind=10:=by omega
 rcases h10 with h|h|h|h|h|h|h|h|h|h
 ·exact compRS_1 hD hV hr he hs h
 ·exact compRS_2 hD hV hr he hs h
 ·exact compRS_3 hD hV hr he hs h
 ·exact compRS_4 hD hV hr he hs h
 ·exact compRS_5 hD hV hr he hs h
 ·exact compRS_6 hD hV hr he hs h
 ·exact compRS_7 hD hV hr he hs h
 ·exact compRS_8 hD hV hr he hs h
 ·exact compRS_9 hD hV hr he hs h
 ·exact compRS_10 hD hV hr he hs h
end
end Go.Proofs.YtaammoodcgfhpaaDoor.Eng
