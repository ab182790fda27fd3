/-
 Printing: the reference.
-/
import Derived.Test.YtndnefealooolaaGreatDoorKPure14
import Derived.Test.YtndnefealooolaaGreatDoorKNR1
set_option linter.unusedSimpArgs false
set_option linter.unusedVariables false
set_option linter.defProp false
set_option maxRecDepth 100000
set_option maxHeartbeats 4000000
namespace Go.Proofs.YtndnefealooolaaGreatDoor.Eng
open Go Go.RowKit

theorem escS_step {t c:UInt8}{l:List UInt8}:escB t (c::l)=(if c=t∨c=92 then [92,c] else [c])++escB t l:=by
 rw [escB]
 split<;>rfl
theorem k92S:D.v (Value.int IntKind.u8 92)=uD 92:=rfl
theorem sumR_takeS {l:List UInt8}{k:Nat} (h:k<l.length):sumR (l.take (k+1))=sumR (l.take k)+(l[k]).toNat:=by
 rw [List.take_succ_eq_append_getElem h,sumR_snoc]
private def tyF:=ai (ai (ai tg22 (ai tg24 tg37)) (ai tg57 (ai tg65 tg26))) (ai (ai tg39 (ai tg97 tg3)) (ai tg4 (ai tg5 tg9)))
theorem sumSX_c {l:List UInt8} (hl:l.length≤268435456):AC Tryz.prog 78 [.d (encB l)] none (fun r' _=>r'=.d (iD (sumB l))):=by
 have e0:sumB l=sumR l % 256:=rfl
 refine cbS Tryz.func78 rfl Tryz.call78 Tryz.ntmps78 fun en hsz hks hk0=>?_;refine enS ?_
 refine walkS ?_
 refine aw_loopS [0,2] (fun _ _=>[]) (fun κ x=>[(4,.d (iD (x:Nat))),(3,.d (iD (sumR (l.take x) % 256:Nat)))]) [] (fun _ _=>[]) [] (fun _ _=>[]) (fun x=>x≤l.length) (fun x=>l.length - x) (0) hks (fun _=>rfl) (Nat.zero_le _) wkS ?_;intro x hx;refine headS ?_
 refine walkS ?_
 refine aw_condS rfl (fun hk=>?_) (fun hk=>?_)
 ·have hk':x<l.length:=by omega
  have e:=sumR_takeS hk'
  have hc:=(l[x]).toNat_lt
  have e2:((sumR (l.take (x+1)) % 256:Nat):Int)=Int.tmod (((sumR (l.take x) % 256:Nat):Int)+((l[x]).toNat:Int)) 256:=by
   rw [Int.tmod_eq_emod_of_nonneg (by omega)]
   omega
  refine walkS ?_
  refine ⟨x+1,by omega,by omega,?_⟩
  rw [e2]
  exact wkS
 ·rw [List.take_of_length_le (by omega)]
  refine walkS ?_
  (refine rtS Tryz.results78 ?_;exact ⟨_,_,.inl ⟨rfl,rfl⟩,List.nodup_nil,by rw [e0]⟩)
theorem headB_1 {D:List RuleD}{r:RuleD}{n:Int}{bs:List UInt8}{lv:Nat} (h:r.kind=1):headB D r n bs lv=intB r n.toNat:=by rw [headB,if_pos h]
theorem headB_2 {D:List RuleD}{r:RuleD}{n:Int}{bs:List UInt8}{lv:Nat} (h:r.kind=2):headB D r n bs lv=r.bytes:=by rw [headB,if_neg (by omega),if_pos h]
theorem headB_3 {D:List RuleD}{r:RuleD}{n:Int}{bs:List UInt8}{lv:Nat} (h:r.kind=3):headB D r n bs lv=bs:=by rw [headB,if_neg (by omega),if_neg (by omega),if_pos h]
theorem headB_4 {D:List RuleD}{r:RuleD}{n:Int}{bs:List UInt8}{lv:Nat} (h:r.kind=4):headB D r n bs lv=intB (ruleD D (kid0 r)) bs.length++bs:=by rw [headB,if_neg (by omega),if_neg (by omega),if_neg (by omega),if_pos h]
theorem headB_5 {D:List RuleD}{r:RuleD}{n:Int}{bs:List UInt8}{lv:Nat} (h:r.kind=5):headB D r n bs lv=intB (ruleD D (kid0 r)) lv:=by rw [headB,if_neg (by omega),if_neg (by omega),if_neg (by omega),if_neg (by omega),if_pos h]
theorem headB_7 {D:List RuleD}{r:RuleD}{n:Int}{bs:List UInt8}{lv:Nat} (h:r.kind=7):headB D r n bs lv=intB (ruleD D (kid0 r)) n.toNat:=by rw [headB,if_neg (by omega),if_neg (by omega),if_neg (by omega),if_neg (by omega),if_neg (by omega),if_pos h]
theorem headB_8 {D:List RuleD}{r:RuleD}{n:Int}{bs:List UInt8}{lv:Nat} (h:r.kind=8):headB D r n bs lv=[UInt8.ofNat lv]:=by rw [headB,if_neg (by omega),if_neg (by omega),if_neg (by omega),if_neg (by omega),if_neg (by omega),if_neg (by omega),if_pos h]
theorem headB_10 {D:List RuleD}{r:RuleD}{n:Int}{bs:List UInt8}{lv:Nat} (h:r.kind=10):headB D r n bs lv=escB (r.bytes.headD 0) bs:=by rw [headB,if_neg (by omega),if_neg (by omega),if_neg (by omega),if_neg (by omega),if_neg (by omega),if_neg (by omega),if_neg (by omega),if_pos h]
theorem headB_no {D:List RuleD}{r:RuleD}{n:Int}{bs:List UInt8}{lv:Nat} (h:r.kind=6∨r.kind=9):headB D r n bs lv=[]:=by rw [headB,if_neg (by omega),if_neg (by omega),if_neg (by omega),if_neg (by omega),if_neg (by omega),if_neg (by omega),if_neg (by omega),if_neg (by omega)]
theorem tailB_no {r:RuleD}{x:List UInt8} (h:r.kind≠9):tailB r x=[]:=by rw [tailB,if_neg h]
theorem tailB_9 {r:RuleD}{x:List UInt8} (h:r.kind=9):tailB r x=[UInt8.ofNat (sumB x)]:=by rw [tailB,if_pos h]
theorem u8_len (n:Nat):IntKind.u8.wrap (n:Int)=((UInt8.ofNat n).toNat:Int):=by
 have h1:IntKind.u8.wrap (n:Int)=(n:Int) % 256:=by
  simp [IntKind.wrap,IntKind.bits,IntKind.signed]
 rw [h1,UInt8.toNat_ofNat']
 omega
section
variable {M:Nat}{D:List RuleD}
theorem own_num (hV:descP D) {i:Nat}{r:RuleD} (hr:D[i]?=some r) (G:GoodR D i r) (h7:r.kind=7) {n:Int}{lb lv:Nat} (h:ownV D r n lb lv=true):0≤n∧n≤limD D (kid0 r):=by
 rw [ownV_7 h7,decide_eq_true_eq] at h
 obtain ⟨a1,a2,a3⟩:=h
 cases ht:tagIx r.tags n with
 | none=>rw [itemK_7n h7 ht] at a3;omega
 | some t=>
  have hlt:=tagIx_lt ht
  have e:r.tags[t]=n:=by
   unfold tagIx at ht
   rw [List.findIdx?_eq_some_iff_getElem] at ht
   obtain ⟨_,h2,_⟩:=ht
   simpa using h2
  have hn:i<D.length:=(List.getElem?_eq_some_iff.1 hr).1
  have hrn:ruleAt D i=some r:=by simp [ruleAt,hr]
  have hp:ruleP D i r:=by
   refine Classical.byContradiction fun hq=>?_
   have:=hV.2 i hn
   rw [vRule_no hrn hq] at this
   exact Bool.noConfusion this
  obtain ⟨_,_,hkid,hk⟩:=hp
  rw [kl_7 h7] at hk
  simp only [Bool.and_eq_true] at hk
  obtain ⟨h1,h2,h3⟩:=tagsP_of hk.2
  have:=(h3 t hlt).1
  rw [e] at this
  exact this
def PrS (D:List RuleD) (v:V):Prop:=∀ i:Nat,i<D.length→validV D i v=true→capV v≤268435456→AC Tryz.prog 54 [.d (encD D),.d (iD i),.d (encV v)] none (fun r' _=>r'=.own 5 1 ((prV D i v).map fun c=>[uD c]))
theorem printS_step (hD:DB M D) (hM:M≤1048576) (hV:descP D) {n:Int}{bs:List UInt8}{vs:List V} (hv:VB 1048576 (.mk n bs vs)) (H:∀ v∈vs,PrS D v):PrS D (.mk n bs vs):=by
 intro i hi hval hcap
 obtain ⟨r,hr⟩:∃ r,D[i]?=some r:=⟨_,List.getElem?_eq_getElem hi⟩
 have G:GoodR D i r:=good_of hV hr
 obtain ⟨kd1,kd2⟩:=G.kd
 have hrb:=hD.rule r (List.mem_of_getElem? hr)
 obtain ⟨v1,v2,_⟩:bs.length≤1048576∧vs.length≤1048576∧VBs 1048576 vs:=by unfold VB at hv;exact hv
 rw [validV,ruleD_get hr,Bool.and_eq_true] at hval
 obtain ⟨hO,hvs⟩:=hval
 have hkid:∀ k (h:k<vs.length),∃ j:Nat,itemK r n k=j∧j<D.length:=fun k h=>own_kid G hi hO h
 have hlen:=prVs_le hV r n vs 0 (fun k hk=>by rw [Nat.zero_add];exact hkid k hk) hvs
 have hhead:=headB_len hV hr G hO
 rw [capV_mk] at hcap
 have hpr:prV D i (.mk n bs vs)=headB D r n bs vs.length++(prVs D r n 0 vs++tailB r (prVs D r n 0 vs)):=by rw [prV,ruleD_get hr]
 rw [hpr]
 obtain ⟨h5,h7,h8⟩:=good_items G
 rw [encV_mk,encVs_eq]
 generalize hI:prVs D r n 0 vs=inner at hlen
 refine cbS Tryz.func54 rfl Tryz.call54 Tryz.ntmps54 fun en hsz hks hk0=>?_;refine enS ?_
 refine walkS ?_
 refine aw_loopS [3,5,6,7] (fun κ s'=>[(κ,keyOf (s'.f 8))]) (fun κ x=>[(9,.d (iD (x.1:Nat))),(8,.own κ 5 1 (x.2.map fun c=>[uD c]))]) [] (fun _ _=>[]) [64] (fun κ x=>[(κ,some (x.2.length,5,1))]) (fun x:Nat × List UInt8=>x.1≤vs.length∧inner=x.2++prVs D r n x.1 (vs.drop x.1)∧validVs D r n x.1 (vs.drop x.1)=true) (fun x=>vs.length - x.1) ((0,[])) hks (fun _=>rfl) ⟨Nat.zero_le _,hI.symm,hvs⟩ wkS ?_;intro x hx;refine headS ?_
 obtain ⟨k,acc⟩:=x
 simp only at hx ⊢
 obtain ⟨hx1,hx2,hx3⟩:=hx
 refine walkS ?_
 refine aw_condS rfl (fun hk=>?_) (fun hk=>?_)
 ·have hk':k<vs.length:=by omega
  obtain ⟨j,hj1,hj2⟩:=hkid k hk'
  rw [List.drop_eq_getElem_cons hk',validVs,Bool.and_eq_true,hj1] at hx3
  rw [List.drop_eq_getElem_cons hk',prVs,hj1,←List.append_assoc] at hx2
  have hl2:=congrArg List.length hx2
  simp only [List.length_append] at hl2
  have HV:=H (vs[k]'hk') (List.getElem_mem _) j hj2 hx3.1 (by
   have:totV (vs[k]'hk')≤totVs vs:=totV_mem (List.getElem_mem _)
   unfold capV
   omega)
  (repeat (first|refine walkS ?_|refine cS (HV) ?_|(refine callPre ?_;(first|refine callN_funS rfl ((l9Item_c hrb hM n k h5 h7 h8).eqv (r1:=.d (iD (j:Nat))) (by rw [hj1])) ?_))|(refine callPreL ?_;(first|refine callL_funS rfl ((l9Item_c hrb hM n k h5 h7 h8).eqv (r1:=.d (iD (j:Nat))) (by rw [hj1])) ?_))))
  refine ⟨(k+1,acc++prV D j (vs[k]'hk')),⟨by simp only;omega,hx2,hx3.2⟩,by simp only;omega,?_⟩
  exact wkS
 rw [List.drop_eq_nil_of_le (by omega),prVs,List.append_nil] at hx2
 subst hx2
 refine walkS ?_
 refine aw_condS rfl (fun n1=>?_) (fun n1=>?_)
 ·rw [ownV_1 n1,decide_eq_true_eq] at hO
  obtain ⟨m,rfl⟩:∃ m:Nat,n=m:=⟨n.toNat,by omega⟩
  have hi0:inner=[]:=by rw [←hI,List.eq_nil_of_length_eq_zero hO.2.2.2,prVs]
  (repeat (first|refine walkS ?_|(refine callPre ?_;(first|refine callN_funS rfl (l8Int_o (r:=r) (n:=m) (G.k1 n1) (by omega)) ?_))|(refine callPreL ?_;(first|refine callL_funS rfl (l8Int_o (r:=r) (n:=m) (G.k1 n1) (by omega)) ?_))))
  (refine rtS Tryz.results54 ?_;exact ⟨_,_,.inl (toZ_own (by simp [lk,St.mem])),by simp,by rw [headB_1 n1,hi0,tailB_no (by omega)];simp⟩)
 refine walkS ?_
 refine aw_condS rfl (fun n2=>?_) (fun n2=>?_)
 ·rw [ownV_2 n2,decide_eq_true_eq] at hO
  have hi0:inner=[]:=by rw [←hI,List.eq_nil_of_length_eq_zero hO.2.2,prVs]
  have hcl:=const_le hV hr n2
  refine walkS ?_
  (refine rtS Tryz.results54 ?_;exact ⟨_,_,.inl (toZ_own (by simp [lk,St.mem])),by simp,by rw [headB_2 n2,hi0,tailB_no (by omega)];simp⟩)
 refine walkS ?_
 refine aw_condS rfl (fun n4=>?_) (fun n4=>?_)
 ·rw [ownV_4 n4,decide_eq_true_eq] at hO
  have hi0:inner=[]:=by rw [←hI,List.eq_nil_of_length_eq_zero hO.2.2.2,prVs]
  obtain ⟨j,q,ej,hj,hq,hqr,hlim⟩:=head_kid G (.inl n4)
  have hk0:r.kids[0]?=some (j:Int):=by rw [kids0 (by have:=(G.k4 n4).1;omega),ej]
  have hil:=intB_len q bs.length
  (repeat (first|refine walkS ?_|(refine callPre ?_;(first|refine callN_funS rfl (l8Int_o (r:=q) (n:=bs.length) hq (by omega)) ?_))|(refine callPreL ?_;(first|refine callL_funS rfl (l8Int_o (r:=q) (n:=bs.length) hq (by omega)) ?_))))
  (refine rtS Tryz.results54 ?_;exact ⟨_,_,.inl (toZ_own (by simp [lk,St.mem])),by simp,by rw [headB_4 n4,hi0,tailB_no (by omega),hqr];simp⟩)
 refine walkS ?_
 refine aw_condS rfl (fun n5=>?_) (fun n5=>?_)
 ·rw [ownV_5 n5,decide_eq_true_eq] at hO
  obtain ⟨j,q,ej,hj,hq,hqr,hlim⟩:=head_kid G (.inr (.inl n5))
  have hk0:r.kids[0]?=some (j:Int):=by rw [kids0 (by have:=(G.k5 n5).1;omega),ej]
  have hil:=intB_len q vs.length
  (repeat (first|refine walkS ?_|(refine callPre ?_;(first|refine callN_funS rfl (l8Int_o (r:=q) (n:=vs.length) hq (by omega)) ?_))|(refine callPreL ?_;(first|refine callL_funS rfl (l8Int_o (r:=q) (n:=vs.length) hq (by omega)) ?_))))
  (refine rtS Tryz.results54 ?_;exact ⟨_,_,.inl (toZ_own (by simp [lk,St.mem])),by simp,by rw [headB_5 n5,tailB_no (by omega),hqr];simp⟩)
 refine walkS ?_
 refine aw_condS rfl (fun n7=>?_) (fun n7=>?_)
 ·obtain ⟨j,q,ej,hj,hq,hqr,hlim⟩:=head_kid G (.inr (.inr n7))
  have hn:=own_num hV hr G n7 hO
  obtain ⟨m,rfl⟩:∃ m:Nat,n=m:=⟨n.toNat,by omega⟩
  have hk0:r.kids[0]?=some (j:Int):=by rw [kids0 (by have:=(G.k7 n7).1;omega),ej]
  have hil:=intB_len q m
  (repeat (first|refine walkS ?_|(refine callPre ?_;(first|refine callN_funS rfl (l8Int_o (r:=q) (n:=m) hq (by omega)) ?_))|(refine callPreL ?_;(first|refine callL_funS rfl (l8Int_o (r:=q) (n:=m) hq (by omega)) ?_))))
  (refine rtS Tryz.results54 ?_;exact ⟨_,_,.inl (toZ_own (by simp [lk,St.mem])),by simp,by rw [headB_7 n7,tailB_no (by omega),hqr];simp⟩)
 refine walkS ?_
 refine aw_condS rfl (fun n8=>?_) (fun n8=>?_)
 ·refine walkS ?_
  (refine rtS Tryz.results54 ?_;exact ⟨_,_,.inl (toZ_own (by simp [lk,St.mem])),by simp,by rw [headB_8 n8,tailB_no (by omega),u8_len];simp⟩)
 refine walkS ?_
 refine aw_condS rfl (fun n9=>?_) (fun n9=>?_)
 ·have hl:inner.length≤268435456:=by omega
  have hb8:IntKind.u8.wrap ((sumB inner:Nat):Int)=((UInt8.ofNat (sumB inner)).toNat:Int):=u8_len _
  (repeat (first|refine walkS ?_|refine cS (sumSX_c hl) ?_))
  (refine rtS Tryz.results54 ?_;exact ⟨_,_,.inl (toZ_own (by simp [lk,St.mem])),by simp,by rw [headB_no (.inr n9),tailB_9 n9,hb8];simp⟩)
 refine walkS ?_
 refine aw_condS rfl (fun n10=>?_) (fun n10=>?_)
 ·rw [ownV_10 n10,decide_eq_true_eq] at hO
  have hi0:inner=[]:=by rw [←hI,List.eq_nil_of_length_eq_zero hO.2.2,prVs]
  subst hi0
  obtain ⟨t,ht⟩:∃ t,r.bytes=[t]:=List.length_eq_one_iff.1 (G.k10 n10)
  have hh:r.bytes.headD 0=t:=by rw [ht];rfl
  have ht0:r.bytes[0]?=some t:=by rw [ht];rfl
  refine walkS ?_
  refine aw_loopS [5,6,7,39] (fun κ s'=>[(κ,keyOf (s'.f 8))]) (fun κ x=>[(10,.d (iD (x.1:Nat))),(8,.own κ 5 1 (x.2.map fun c=>[uD c]))]) [] (fun _ _=>[]) [80] (fun κ x=>[(κ,some (x.2.length,5,1))]) (fun x:Nat × List UInt8=>x.1≤bs.length∧x.2++escB t (bs.drop x.1)=escB t bs∧x.2.length≤2*x.1) (fun x=>bs.length - x.1) ((0,[])) hks (fun _=>rfl) ⟨Nat.zero_le _,rfl,Nat.zero_le _⟩ wkS ?_;intro x hx;refine headS ?_
  obtain ⟨k,acc⟩:=x
  simp only at hx ⊢
  obtain ⟨hx1,hx2,hx3⟩:=hx
  refine walkS ?_
  refine aw_condS rfl (fun hk=>?_) (fun hk=>?_)
  ·have hk':k<bs.length:=by omega
   rw [List.drop_eq_getElem_cons hk',escS_step,←List.append_assoc] at hx2
   generalize hc:bs[k]=c at hx2
   by_cases h1:c=t
   ·have e1:((c.toNat:Int)==(t.toNat:Int))=true:=by rw [h1];simp
    rw [if_pos (.inl h1)] at hx2
    (repeat (first|refine ctlS ?_|(refine ol_go ?_ (fun K1 hK1=>?_);exact trS;refine evS ?_;(try simp only [hc,e1]);refine hK1 _ _ ?_;clear hK1 K1)|(refine ow_go ?_ dsS (fun K1 hK1=>?_);exact trS;refine evS ?_;(try simp only [hc,e1]);refine hK1 _ ?_;clear hK1 K1)|refine skipS ?_))
    refine aw_condS rfl (fun h2=>?_) (fun h2=>?_)
    ·(repeat (first|refine ctlS ?_|(refine ol_go ?_ (fun K1 hK1=>?_);exact trS;refine evS ?_;(try simp only [hc,k92S]);refine hK1 _ _ ?_;clear hK1 K1)|(refine ow_go ?_ dsS (fun K1 hK1=>?_);exact trS;refine evS ?_;(try simp only [hc,k92S]);refine hK1 _ ?_;clear hK1 K1)|refine skipS ?_))
     refine ⟨(k+1,acc++[92]++[c]),⟨by simp only;omega,(by simpa only [List.append_assoc,List.cons_append,List.nil_append] using hx2),by simp;omega⟩,by simp only;omega,?_⟩
     exact wkS
    ·(first|exact absurd trivial h2|exact absurd rfl h2|(cases h2;done)|omega|exact absurd h2 (by decide)|(simp at h2;done))
   ·have e1:((c.toNat:Int)==(t.toNat:Int))=false:=by
     rw [beq_eq_false_iff_ne]
     intro h
     exact h1 (UInt8.toNat_inj.1 (by omega))
    by_cases h9:c=92
    ·have e2:((c.toNat:Int)==(92:Int))=true:=by rw [h9];rfl
     rw [if_pos (.inr h9)] at hx2
     (repeat (first|refine ctlS ?_|(refine ol_go ?_ (fun K1 hK1=>?_);exact trS;refine evS ?_;(try simp only [hc,e1,e2]);refine hK1 _ _ ?_;clear hK1 K1)|(refine ow_go ?_ dsS (fun K1 hK1=>?_);exact trS;refine evS ?_;(try simp only [hc,e1,e2]);refine hK1 _ ?_;clear hK1 K1)|refine skipS ?_))
     refine aw_condS rfl (fun h2=>?_) (fun h2=>?_)
     ·(repeat (first|refine ctlS ?_|(refine ol_go ?_ (fun K1 hK1=>?_);exact trS;refine evS ?_;(try simp only [hc,k92S]);refine hK1 _ _ ?_;clear hK1 K1)|(refine ow_go ?_ dsS (fun K1 hK1=>?_);exact trS;refine evS ?_;(try simp only [hc,k92S]);refine hK1 _ ?_;clear hK1 K1)|refine skipS ?_))
      refine ⟨(k+1,acc++[92]++[c]),⟨by simp only;omega,(by simpa only [List.append_assoc,List.cons_append,List.nil_append] using hx2),by simp;omega⟩,by simp only;omega,?_⟩
      exact wkS
     ·(first|exact absurd trivial h2|exact absurd rfl h2|(cases h2;done)|omega|exact absurd h2 (by decide)|(simp at h2;done))
    ·have e2:((c.toNat:Int)==(92:Int))=false:=by
      rw [beq_eq_false_iff_ne]
      intro h
      exact h9 (UInt8.toNat_inj.1 (by show c.toNat=92;omega))
     rw [if_neg (by rintro (h|h)<;>contradiction)] at hx2
     (repeat (first|refine ctlS ?_|(refine ol_go ?_ (fun K1 hK1=>?_);exact trS;refine evS ?_;(try simp only [hc,e1,e2]);refine hK1 _ _ ?_;clear hK1 K1)|(refine ow_go ?_ dsS (fun K1 hK1=>?_);exact trS;refine evS ?_;(try simp only [hc,e1,e2]);refine hK1 _ ?_;clear hK1 K1)|refine skipS ?_))
     refine aw_condS rfl (fun h2=>?_) (fun h2=>?_)
     ·(first|exact absurd trivial h2|exact absurd rfl h2|(cases h2;done)|omega|exact absurd h2 (by decide)|(simp at h2;done))
     ·(repeat (first|refine ctlS ?_|(refine ol_go ?_ (fun K1 hK1=>?_);exact trS;refine evS ?_;(try simp only [hc,k92S]);refine hK1 _ _ ?_;clear hK1 K1)|(refine ow_go ?_ dsS (fun K1 hK1=>?_);exact trS;refine evS ?_;(try simp only [hc,k92S]);refine hK1 _ ?_;clear hK1 K1)|refine skipS ?_))
      refine ⟨(k+1,acc++[c]),⟨by simp only;omega,hx2,by simp;omega⟩,by simp only;omega,?_⟩
      exact wkS
  ·rw [List.drop_eq_nil_of_le (by omega),show escB t []=[t] from rfl] at hx2
   refine walkS ?_
   (refine rtS Tryz.results54 ?_;exact ⟨_,_,.inl (toZ_own (by simp [lk,St.mem])),by simp,by rw [headB_10 n10,tailB_no (by omega),hh,←hx2];simp⟩)
 refine walkS ?_
 refine aw_condS rfl (fun n3=>?_) (fun n3=>?_)
 ·rw [ownV_3 n3,decide_eq_true_eq] at hO
  have hi0:inner=[]:=by rw [←hI,List.eq_nil_of_length_eq_zero hO.2.2,prVs]
  refine walkS ?_
  (refine rtS Tryz.results54 ?_;exact ⟨_,_,.inl (toZ_own (by simp [lk,St.mem])),by simp,by rw [headB_3 n3,hi0,tailB_no (by omega)];simp⟩)
 ·have n6:r.kind=6:=by omega
  refine walkS ?_
  (refine rtS Tryz.results54 ?_;exact ⟨_,_,.inl (toZ_own (by simp [lk,St.mem])),by simp,by rw [headB_no (.inl n6),tailB_no (by omega)];simp⟩)
end
section
variable {M:Nat}{D:List RuleD}
theorem printS_all (hD:DB M D) (hM:M≤1048576) (hV:descP D):∀ N:Nat,∀ {v:V},SizeOf.sizeOf v≤N→VB 1048576 v→PrS D v
 | 0,.mk n bs vs,h,_=>by simp only [V.mk.sizeOf_spec] at h;omega
 | N+1,.mk n bs vs,h,hv=>printS_step hD hM hV hv fun v hvm=>printS_all hD hM hV N (by have:=item_lt (n:=n) (bs:=bs) hvm;omega) (by unfold VB at hv;exact hv.2.2.el v hvm)
end
end Go.Proofs.YtndnefealooolaaGreatDoor.Eng
