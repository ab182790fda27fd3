/-
 Plain functions: how long an encoding may grow.

 Terminated bytes written: the program.

 The printer: put, full.

 The printer: items.
-/
import Derived.Test.YtodkkldopciagaaGreatDoorKN38
import Derived.Test.YtodkkldopciagaaGreatDoorKP2
import Derived.Test.YtodkkldopciagaaGreatDoorKN45
import Derived.Test.YtodkkldopciagaaGreatDoorKE5
import Derived.Test.YtodkkldopciagaaGreatDoorKN41
set_option linter.unusedSimpArgs false
set_option linter.unusedVariables false
set_option linter.defProp false
set_option maxRecDepth 100000
set_option maxHeartbeats 4000000
namespace Go.Proofs.YtodkkldopciagaaGreatDoor.Eng
open Go.RowKit

theorem const_le {D:List RuleD} (h:descP D) {n:Nat}{r:RuleD} (hr:D[n]?=some r) (h2:r.kind=2):r.bytes.length≤16:=by
 have hn:n<D.length:=(List.getElem?_eq_some_iff.1 hr).1
 have hrn:ruleAt D n=some r:=by simp [ruleAt,hr]
 have hp:ruleP D n r:=by
  refine Classical.byContradiction fun hq=>?_
  have:=h.2 n hn
  rw [vRule_no hrn hq] at this
  exact Bool.noConfusion this
 obtain ⟨_,_,_,hk⟩:=hp
 rw [kl_2 h2] at hk
 simp only [Bool.and_eq_true,decide_eq_true_eq] at hk
 exact hk.2.2
theorem head_kid {D:List RuleD}{i:Nat}{r:RuleD} (G:GoodR D i r) (hk:r.kind=4∨r.kind=5∨r.kind=7):∃ (j:Nat) (q:RuleD),kid0 r=j∧D[j]?=some q∧(1≤q.size∧q.size≤4)∧ruleD D (kid0 r)=q∧limD D (kid0 r)=2 ^ (8*q.size.toNat) - 1:=by
 have h0:0≤limD D (kid0 r):=by
  rcases hk with h|h|h
  ·have:=(G.k4 h).2;omega
  ·have:=(G.k5 h).2;omega
  ·exact (G.k7 h).2
 obtain ⟨q',h1,h2,h3⟩:=limD_rule h0
 obtain ⟨j,q,ej,hj,hq,hqr⟩:=kid_int h0
 refine ⟨j,q,ej,hj,hq,hqr,?_⟩
 have hx:ruleAt D (kid0 r)=some q:=by rw [ej];simp [ruleAt,hj]
 have:q'=q:=by rw [hx] at h1;exact (Option.some.inj h1).symm
 subst this
 exact limD_good hx ⟨h2,h3⟩
theorem headB_len {D:List RuleD} (hV:descP D) {i:Nat}{r:RuleD} (hr:D[i]?=some r) (G:GoodR D i r) {n:Int}{bs:List UInt8}{lv:Nat} (h:ownV D r n bs.length lv=true):(headB D r n bs lv).length≤68+2*bs.length:=by
 have hq:(r.kind=4∨r.kind=5∨r.kind=7)→∀ m,(intB (ruleD D (kid0 r)) m).length≤4:=fun hk m=>by
  obtain ⟨j,q,_,_,hq,hqr,_⟩:=head_kid G hk
  rw [hqr,intB_len]
  omega
 unfold headB
 split
 ·rename_i h1
  rw [intB_len]
  have:=G.k1 h1
  omega
 split
 ·rename_i h1
  have:=const_le hV hr h1
  omega
 split
 ·omega
 split
 ·rename_i h1
  have:=hq (.inl h1) bs.length
  simp only [List.length_append]
  omega
 split
 ·rename_i h1
  have:=hq (.inr (.inl h1)) lv
  omega
 split
 ·rename_i h1
  have:=hq (.inr (.inr h1)) n.toNat
  omega
 split
 ·rw [List.length_singleton];omega
 split
 ·have:=escB_len (r.bytes.headD 0) bs
  omega
 ·simp
theorem tailB_le (r:RuleD) (x:List UInt8):(tailB r x).length≤1:=by
 unfold tailB
 split<;>simp
def capV (v:V):Nat:=70+70*totV v
theorem capV_mk (n:Int) (bs:List UInt8) (vs:List V):capV (.mk n bs vs)=70+70*(bs.length+vs.length+totVs vs):=by rw [capV,totV]
theorem totVs_cons (v:V) (vs:List V):totVs (v::vs)=totV v+totVs vs:=by rw [totVs]
theorem totV_mem:∀ {vs:List V}{v:V},v∈vs→totV v≤totVs vs
 | [],_,h=>by cases h
 | x::vs,v,h=>by
  rw [totVs_cons]
  rcases List.mem_cons.1 h with rfl|h
  ·omega
  ·have:=totV_mem h
   omega
section
variable {D:List RuleD}
mutual
theorem prI_le (hV:descP D):∀ (v:V) (i:Nat) (out:List UInt8),i<D.length→validV D i v=true→(prI D i out v).length≤out.length+capV v
 | .mk n bs vs,i,out,hi,hv=>by
  obtain ⟨r,hr⟩:∃ r,D[i]?=some r:=⟨_,List.getElem?_eq_getElem hi⟩
  have G:GoodR D i r:=good_of hV hr
  rw [validV,ruleD_get hr,Bool.and_eq_true] at hv
  obtain ⟨ho,hs⟩:=hv
  have hh:=headB_len hV hr G ho
  have:=prIs_le hV r n vs 0 (out++headB D r n bs vs.length) (fun k hk=>by rw [Nat.zero_add];exact own_kid G hi ho hk) hs
  unfold prI
  rw [ruleD_get hr,capV_mk]
  have ht:=tailB_le r ((prIs D r n 0 (out++headB D r n bs vs.length) vs).drop (out++headB D r n bs vs.length).length)
  simp only [List.length_append] at this ht ⊢
  omega
theorem prIs_le (hV:descP D) (r:RuleD) (n:Int):∀ (vs:List V) (k:Nat) (out:List UInt8),(∀ j,j<vs.length→∃ x:Nat,itemK r n (k+j:Nat)=x∧x<D.length)→validVs D r n k vs=true→(prIs D r n k out vs).length≤out.length+70*(vs.length+totVs vs)
 | [],k,out,_,_=>by unfold prIs;omega
 | v::vs,k,out,hk,hv=>by
  unfold prIs
  rw [validVs,Bool.and_eq_true] at hv
  rw [totVs_cons,List.length_cons]
  split
  ·omega
  ·obtain ⟨x,hx,hxl⟩:=hk 0 (by simp)
   rw [Nat.add_zero] at hx
   rw [hx] at hv ⊢
   have h1:=prI_le hV v x out hxl hv.1
   have h2:=prIs_le hV r n vs (k+1) (prI D x out v) (fun j hj=>by
    have:=hk (j+1) (by simp;omega)
    rw [show k+1+j=k+(j+1) by omega]
    exact this) hv.2
   unfold capV at h1
   omega
end
mutual
theorem prV_le (hV:descP D):∀ (v:V) (i:Nat),i<D.length→validV D i v=true→(prV D i v).length≤capV v
 | .mk n bs vs,i,hi,hv=>by
  obtain ⟨r,hr⟩:∃ r,D[i]?=some r:=⟨_,List.getElem?_eq_getElem hi⟩
  have G:GoodR D i r:=good_of hV hr
  rw [validV,ruleD_get hr,Bool.and_eq_true] at hv
  obtain ⟨ho,hs⟩:=hv
  have hh:=headB_len hV hr G ho
  have:=prVs_le hV r n vs 0 (fun k hk=>by rw [Nat.zero_add];exact own_kid G hi ho hk) hs
  unfold prV
  rw [ruleD_get hr,capV_mk]
  have ht:=tailB_le r (prVs D r n 0 vs)
  simp only [List.length_append]
  omega
theorem prVs_le (hV:descP D) (r:RuleD) (n:Int):∀ (vs:List V) (k:Nat),(∀ j,j<vs.length→∃ x:Nat,itemK r n (k+j:Nat)=x∧x<D.length)→validVs D r n k vs=true→(prVs D r n k vs).length≤70*(vs.length+totVs vs)
 | [],k,_,_=>by unfold prVs;simp
 | v::vs,k,hk,hv=>by
  unfold prVs
  rw [validVs,Bool.and_eq_true] at hv
  rw [totVs_cons,List.length_cons,List.length_append]
  obtain ⟨x,hx,hxl⟩:=hk 0 (by simp)
  rw [Nat.add_zero] at hx
  rw [hx] at hv ⊢
  have h1:=prV_le hV v x hxl hv.1
  have h2:=prVs_le hV r n vs (k+1) (fun j hj=>by
   have:=hk (j+1) (by simp;omega)
   rw [show k+1+j=k+(j+1) by omega]
   exact this) hv.2
  unfold capV at h1
  omega
end
end
end Go.Proofs.YtodkkldopciagaaGreatDoor.Eng
namespace Go.Proofs.YtodkkldopciagaaGreatDoor.Eng
open Go Go.RowKit

theorem escB_step {t c:UInt8}{l:List UInt8}:escB t (c::l)=(if c=t∨c=92 then [92,c] else [c])++escB t l:=by
 rw [escB]
 split<;>rfl
theorem k92:D.v (Value.int IntKind.u8 92)=uD 92:=rfl
private def tyF:=ai (ai (ai tg22 (ai tg24 tg38)) (ai (ai tg58 tg60) (ai tg26 tg40))) (ai (ai (ai tg62 tg82) (ai tg3 tg4)) (ai (ai tg5 tg80) (ai tg84 tg9)))
theorem escI_c {l:List UInt8} (hl:l.length≤1048576) (t:UInt8):AC Tryz.prog 82 [.d (encB l),.d (uD t)] none (fun r' _=>r'=.d (encB (escB t l))):=by
 refine cbS Tryz.func82 rfl Tryz.call82 Tryz.ntmps82 fun en hsz hks hk0=>?_;refine enS ?_
 (repeat (first|refine walkS ?_|(refine ow_make ?_ dsS rfl rfl ?_ te22 tr5 tz5 ?_;exact trS;omega;refine stS0 ?_)))
 (refine ow_make0 (n:=l.length+1) ?_ dsS rfl rfl rfl ?_ te22 tr5 ?_;exact trS;omega;refine stS0 ?_)
 (repeat (first|refine walkS ?_|(refine ow_make ?_ dsS rfl rfl ?_ te22 tr5 tz5 ?_;exact trS;omega;refine stS0 ?_)))
 refine aw_loopS [1,4,12,13] (fun κ s'=>[(κ,keyOf (s'.f 5))]) (fun κ x=>[(14,.d (iD (x.1:Nat))),(5,.own κ 5 1 (x.2.map fun c=>[uD c]))]) [] (fun _ _=>[]) [16] (fun κ x=>[(κ,some (x.2.length,5,1))]) (fun x:Nat × List UInt8=>x.1≤l.length∧x.2++escB t (l.drop x.1)=escB t l∧x.2.length≤2*x.1) (fun x=>l.length - x.1) ((0,[])) hks (fun _=>rfl) ⟨Nat.zero_le _,rfl,Nat.zero_le _⟩ wkS ?_;intro x hx;refine headS ?_
 obtain ⟨k,acc⟩:=x
 simp only at hx ⊢
 obtain ⟨hx1,hx2,hx3⟩:=hx
 (repeat (first|refine walkS ?_|(refine ow_make ?_ dsS rfl rfl ?_ te22 tr5 tz5 ?_;exact trS;omega;refine stS0 ?_)))
 refine aw_condS rfl (fun hk=>?_) (fun hk=>?_)
 ·have hk':k<l.length:=by omega
  rw [List.drop_eq_getElem_cons hk',escB_step,←List.append_assoc] at hx2
  generalize hc:l[k]=c at hx2
  by_cases h1:c=t
  ·have e1:((c.toNat:Int)==(t.toNat:Int))=true:=by rw [h1];simp
   rw [if_pos (.inl h1)] at hx2
   (repeat (first|refine ctlS ?_|(refine ol_go ?_ (fun K1 hK1=>?_);exact trS;refine evS ?_;(try simp only [hc,e1]);refine hK1 _ _ ?_;clear hK1 K1)|(refine ow_go ?_ dsS (fun K1 hK1=>?_);exact trS;refine evS ?_;(try simp only [hc,e1]);refine hK1 _ ?_;clear hK1 K1)|refine skipS ?_|(refine ow_make ?_ dsS rfl rfl ?_ te22 tr5 tz5 ?_;exact trS;omega;refine stS0 ?_)))
   refine aw_condS rfl (fun h2=>?_) (fun h2=>?_)
   ·(repeat (first|refine ctlS ?_|(refine ol_go ?_ (fun K1 hK1=>?_);exact trS;refine evS ?_;(try simp only [hc,k92]);refine hK1 _ _ ?_;clear hK1 K1)|(refine ow_go ?_ dsS (fun K1 hK1=>?_);exact trS;refine evS ?_;(try simp only [hc,k92]);refine hK1 _ ?_;clear hK1 K1)|refine skipS ?_|(refine ow_make ?_ dsS rfl rfl ?_ te22 tr5 tz5 ?_;exact trS;omega;refine stS0 ?_)))
    refine ⟨(k+1,acc++[92]++[c]),⟨by simp only;omega,(by simpa only [List.append_assoc,List.cons_append,List.nil_append] using hx2),by simp;omega⟩,by simp only;omega,?_⟩
    exact wkS
   ·(first|exact absurd trivial h2|exact absurd rfl h2|(cases h2;done)|omega|exact absurd h2 (by decide)|(simp at h2;done))
  ·have e1:((c.toNat:Int)==(t.toNat:Int))=false:=by
    rw [beq_eq_false_iff_ne]
    intro h
    exact h1 (UInt8.toNat_inj.1 (by omega))
   by_cases h9:c=92
   ·have e2:((c.toNat:Int)==(92:Int))=true:=by rw [h9];rfl
    rw [if_pos (.inr h9)] at hx2
    (repeat (first|refine ctlS ?_|(refine ol_go ?_ (fun K1 hK1=>?_);exact trS;refine evS ?_;(try simp only [hc,e1,e2]);refine hK1 _ _ ?_;clear hK1 K1)|(refine ow_go ?_ dsS (fun K1 hK1=>?_);exact trS;refine evS ?_;(try simp only [hc,e1,e2]);refine hK1 _ ?_;clear hK1 K1)|refine skipS ?_|(refine ow_make ?_ dsS rfl rfl ?_ te22 tr5 tz5 ?_;exact trS;omega;refine stS0 ?_)))
    refine aw_condS rfl (fun h2=>?_) (fun h2=>?_)
    ·(repeat (first|refine ctlS ?_|(refine ol_go ?_ (fun K1 hK1=>?_);exact trS;refine evS ?_;(try simp only [hc,k92]);refine hK1 _ _ ?_;clear hK1 K1)|(refine ow_go ?_ dsS (fun K1 hK1=>?_);exact trS;refine evS ?_;(try simp only [hc,k92]);refine hK1 _ ?_;clear hK1 K1)|refine skipS ?_|(refine ow_make ?_ dsS rfl rfl ?_ te22 tr5 tz5 ?_;exact trS;omega;refine stS0 ?_)))
     refine ⟨(k+1,acc++[92]++[c]),⟨by simp only;omega,(by simpa only [List.append_assoc,List.cons_append,List.nil_append] using hx2),by simp;omega⟩,by simp only;omega,?_⟩
     exact wkS
    ·(first|exact absurd trivial h2|exact absurd rfl h2|(cases h2;done)|omega|exact absurd h2 (by decide)|(simp at h2;done))
   ·have e2:((c.toNat:Int)==(92:Int))=false:=by
     rw [beq_eq_false_iff_ne]
     intro h
     exact h9 (UInt8.toNat_inj.1 (by show c.toNat=92;omega))
    rw [if_neg (by rintro (h|h)<;>contradiction)] at hx2
    (repeat (first|refine ctlS ?_|(refine ol_go ?_ (fun K1 hK1=>?_);exact trS;refine evS ?_;(try simp only [hc,e1,e2]);refine hK1 _ _ ?_;clear hK1 K1)|(refine ow_go ?_ dsS (fun K1 hK1=>?_);exact trS;refine evS ?_;(try simp only [hc,e1,e2]);refine hK1 _ ?_;clear hK1 K1)|refine skipS ?_|(refine ow_make ?_ dsS rfl rfl ?_ te22 tr5 tz5 ?_;exact trS;omega;refine stS0 ?_)))
    refine aw_condS rfl (fun h2=>?_) (fun h2=>?_)
    ·(first|exact absurd trivial h2|exact absurd rfl h2|(cases h2;done)|omega|exact absurd h2 (by decide)|(simp at h2;done))
    ·(repeat (first|refine ctlS ?_|(refine ol_go ?_ (fun K1 hK1=>?_);exact trS;refine evS ?_;(try simp only [hc,k92]);refine hK1 _ _ ?_;clear hK1 K1)|(refine ow_go ?_ dsS (fun K1 hK1=>?_);exact trS;refine evS ?_;(try simp only [hc,k92]);refine hK1 _ ?_;clear hK1 K1)|refine skipS ?_|(refine ow_make ?_ dsS rfl rfl ?_ te22 tr5 tz5 ?_;exact trS;omega;refine stS0 ?_)))
     refine ⟨(k+1,acc++[c]),⟨by simp only;omega,hx2,by simp;omega⟩,by simp only;omega,?_⟩
     exact wkS
 ·rw [List.drop_eq_nil_of_le (by omega),show escB t []=[t] from rfl] at hx2
  rw [←hx2]
  (repeat (first|refine walkS ?_|(refine ow_make ?_ dsS rfl rfl ?_ te22 tr5 tz5 ?_;exact trS;omega;refine stS0 ?_)))
  refine aw_ret ?_
  (simp only [Fin,Tryz.results82];refine finS ?_)
  refine ⟨_,[],.inr (.inl ⟨encB (acc++[t]),rfl,rfl,?_⟩),List.nodup_nil,rfl⟩
  show wkD (.sl 1 ((acc++[t]).map fun c=>[uD c])) _
  rw [List.map_append]
  unfold wkD
  exact .inr ⟨_,_,_,rfl,dleLL_refl _⟩
end Go.Proofs.YtodkkldopciagaaGreatDoor.Eng
namespace Go.Proofs.YtodkkldopciagaaGreatDoor.Eng
open Go Go.RowKit

abbrev prn (D:List RuleD) (es:List UInt8):List Rz:=[.d (encDs D),.own 5 1 (es.map fun c=>[uD c])]

theorem full_c (D:List RuleD) {es:List UInt8} (he:es.length≤268435456):AC Tryz.prog 51 [.ptr 0 0] (some (prn D es)) (fun r' b'=>r'=.d (bD (decide (400<es.length)))∧b'=some (prn D es)):=by
 have e1:decide (400<es.length)=decide (400<(es.length:Int)):=decide_eq_decide.2 (by omega)
 refine cbS Tryz.func51 rfl Tryz.call51 Tryz.ntmps51 fun en hsz hks hk0=>?_;refine enS ?_
 refine walkS ?_
 ((try refine aw_ret ?_);(simp only [Fin,Tryz.results51];refine finS ?_);exact ⟨_,[],.inl ⟨rfl,rfl⟩,_,(prn D es),[_],rfl,toZL_p (by simp only [List.length_append,List.length_map]<;>rfl),by simp,⟨by rw [e1],rfl⟩⟩)
theorem put_c (D:List RuleD) {es b:List UInt8} (he:es.length+b.length≤268435456):AC Tryz.prog 80 [.ptr 0 0,.d (encB b)] (some (prn D es)) (fun r' b'=>r'=.d (.tup [])∧b'=some (prn D (es++b))):=by
 refine cbS Tryz.func80 rfl Tryz.call80 Tryz.ntmps80 fun en hsz hks hk0=>?_;refine enS ?_
 refine walkS ?_
 ((try refine aw_ret ?_);(simp only [Fin,Tryz.results80];refine finS ?_);exact ⟨_,[],.inl ⟨rfl,rfl⟩,_,([.d (encDs D),.own 5 1 (es.map (fun c=>[uD c])++b.map fun c=>[uD c])]),[_],rfl,toZL_p (by simp only [List.length_append,List.length_map]<;>rfl),by simp,⟨rfl,by rw [prn,List.map_append]⟩⟩)
end Go.Proofs.YtodkkldopciagaaGreatDoor.Eng
namespace Go.Proofs.YtodkkldopciagaaGreatDoor.Eng
open Go Go.RowKit

theorem sumR_take {l:List UInt8}{k:Nat} (h:k<l.length):sumR (l.take (k+1))=sumR (l.take k)+(l[k]).toNat:=by
 rw [List.take_succ_eq_append_getElem h,sumR_snoc]
theorem sumB_R (l:List UInt8):sumB l=sumR l % 256:=rfl
theorem sumIX_c {l:List UInt8} (hl:l.length≤268435456):AC Tryz.prog 84 [.d (encB l)] none (fun r' _=>r'=.d (iD (sumB l))):=by
 refine cbS Tryz.func84 rfl Tryz.call84 Tryz.ntmps84 fun en hsz hks hk0=>?_;refine enS ?_
 refine walkS ?_
 refine aw_loopS [2,6,7] (fun _ _=>[]) (fun κ x=>[(8,.d (iD (x:Nat))),(3,.d (iD (sumR (l.take x):Nat)))]) [] (fun _ _=>[]) [] (fun _ _=>[]) (fun x=>x≤l.length) (fun x=>l.length - x) (0) hks (fun _=>rfl) (Nat.zero_le _) wkS ?_;intro x hx;refine headS ?_
 have hle:=sumR_le (l.take x)
 rw [List.length_take,Nat.min_eq_left hx] at hle
 refine walkS ?_
 refine aw_condS rfl (fun hk=>?_) (fun hk=>?_)
 ·have hk':x<l.length:=by omega
  have e:=sumR_take hk'
  have hc:=(l[x]).toNat_lt
  refine walkS ?_
  refine ⟨x+1,by omega,by omega,?_⟩
  rw [e]
  exact wkS
 ·rw [List.take_of_length_le (by omega)]
  refine walkS ?_
  (refine rtS Tryz.results84 ?_;exact ⟨_,_,.inl ⟨rfl,rfl⟩,List.nodup_nil,by rw [sumB_R];rfl⟩)
section
variable {M:Nat}{D:List RuleD}
def PrOK (D:List RuleD) (v:V):Prop:=∀ (i:Nat) (out:List UInt8),i<D.length→validV D i v=true→out.length+capV v≤268435456→AC Tryz.prog 50 [.ptr 0 0,.d (iD i),.d (.rp (encVc v))] (some (prn D out)) (fun r' b'=>r'=.d (.tup [])∧b'=some (prn D (prI D i out v)))
theorem itemsP_c (hD:DB M D) (hM:M≤1048576) (hV:descP D) {i:Nat}{r:RuleD} (hr:D[i]?=some r) {n:Int}{bs:List UInt8}{vs:List V} (hv:VB 1048576 (.mk n bs vs)) (hkid:∀ k,k<vs.length→∃ j:Nat,itemK r n k=j∧j<D.length) (hval:validVs D r n 0 vs=true) (H:∀ v∈vs,PrOK D v) (out:List UInt8) (ho:out.length+70*(vs.length+totVs vs)≤268435456):AC Tryz.prog 83 [.ptr 0 0,.d (iD i),.d (.rp (encVc (.mk n bs vs)))] (some (prn D out)) (fun r' b'=>r'=.d (.tup [])∧b'=some (prn D (prIs D r n 0 out vs))):=by
 have G:GoodR D i r:=good_of hV hr
 have hl:vs.length≤1048576:=by unfold VB at hv;exact hv.2.1
 obtain ⟨h5,h7,h8⟩:=good_items G
 have HC:∀ k:Nat,AC Tryz.prog 109 [.d (encD D),.d (iD i),.d (.rp (encVc (.mk n bs vs))),.d (iD k)] none (fun r' _=>r'=.d (iD (itemK r n k))):=fun k=>child_c hD hM hr _ rfl k h5 h7 h8
 simp only [encVc_mk,encVs_eq] at HC ⊢
 refine cbS Tryz.func83 rfl Tryz.call83 Tryz.ntmps83 fun en hsz hks hk0=>?_;refine enS ?_
 refine walkS ?_
 refine aw_loopS [0,1,2,6,14] (fun κ s'=>[(κ,keyB s' 0 1)]) (fun κ x=>[(15,.d (iD (x.1:Nat)))]) [0] (fun κ x=>[(0,some [.d (encDs D),.own κ 5 1 (x.2.map fun c=>[uD c])])]) [16] (fun κ x=>[(κ,some (x.2.length,5,1))]) (fun x:Nat × List UInt8=>x.1≤vs.length∧prIs D r n 0 out vs=prIs D r n x.1 x.2 (vs.drop x.1)∧x.2.length+70*((vs.drop x.1).length+totVs (vs.drop x.1))≤268435456∧validVs D r n x.1 (vs.drop x.1)=true) (fun x=>vs.length - x.1) ((0,out)) hks (fun _=>rfl) ⟨Nat.zero_le _,rfl,ho,hval⟩ wkS ?_;intro x hx;refine headS ?_
 obtain ⟨k,acc⟩:=x
 simp only at hx ⊢
 obtain ⟨hx1,hx2,hx3,hx4⟩:=hx
 refine walkS ?_
 refine aw_condS rfl (fun hk=>?_) (fun hk=>?_)
 ·have hk':k<vs.length:=by omega
  have hF:=full_c D (es:=acc) (by omega)
  (repeat (first|refine walkS ?_|(refine ow_call1p (k:=0) ?_ dsS rfl rfl (hF) rfl rfl (by first|rfl|(simp only [List.length_map,List.length_append]<;>rfl)) (by decide) ?_;exact trS;simp only [St.set,List.map_cons,List.map_nil,List.length_map,List.length_append,Nat.reduceAdd])|(refine ow_call1pV (k:=0) ?_ dsS rfl rfl rfl (hF) rfl rfl (by first|rfl|(simp only [List.length_map,List.length_append]<;>rfl)) (by decide) ?_;exact trS;simp only [St.set,List.map_cons,List.map_nil,List.length_map,List.length_append,Nat.reduceAdd])))
  refine aw_condS rfl (fun hf=>?_) (fun hf=>?_)
  ·have hf':400<acc.length:=by first|exact hf|simpa using hf
   rw [List.drop_eq_getElem_cons hk',prIs,if_pos hf'] at hx2
   ((try refine aw_ret ?_);(simp only [Fin,Tryz.results83];refine finS ?_);exact ⟨_,[],.inl ⟨rfl,rfl⟩,_,(prn D acc),[_],rfl,toZL_p (by simp only [List.length_append,List.length_map]<;>rfl),by simp,⟨rfl,by rw [hx2]⟩⟩)
  ·have hf':¬400<acc.length:=by first|exact hf|simpa using hf
   obtain ⟨j,hj1,hj2⟩:=hkid k hk'
   rw [List.drop_eq_getElem_cons hk',prIs,if_neg hf',hj1] at hx2
   rw [List.drop_eq_getElem_cons hk',validVs,Bool.and_eq_true,hj1] at hx4
   rw [List.drop_eq_getElem_cons hk',totVs_cons,List.length_cons] at hx3
   have hle:=prI_le hV (vs[k]'hk') j acc hj2 hx4.1
   unfold capV at hle
   have HV:=H (vs[k]'hk') (List.getElem_mem _) j acc hj2 hx4.1 (by unfold capV;omega)
   have HCk:=HC k
   rw [hj1] at HCk
   (repeat (first|refine walkLS ?_|(refine ow_call1p (k:=0) ?_ dsS rfl rfl (HV) rfl rfl (by first|rfl|(simp only [List.length_map,List.length_append]<;>rfl)) (by decide) ?_;exact trS;simp only [St.set,List.map_cons,List.map_nil,List.length_map,List.length_append,Nat.reduceAdd])|(refine ow_call1pV (k:=0) ?_ dsS rfl rfl rfl (HV) rfl rfl (by first|rfl|(simp only [List.length_map,List.length_append]<;>rfl)) (by decide) ?_;exact trS;simp only [St.set,List.map_cons,List.map_nil,List.length_map,List.length_append,Nat.reduceAdd])|refine cS (HCk) ?_|(refine callPreV ?_;(first|refine callN_funS rfl (HCk) ?_))))
   refine ⟨(k+1,prI D j acc (vs[k]'hk')),⟨by simp only;omega,hx2,by simp only;omega,hx4.2⟩,by simp only;omega,?_⟩
   exact wkS
 ·rw [List.drop_eq_nil_of_le (by omega),prIs] at hx2
  refine walkS ?_
  ((try refine aw_ret ?_);(simp only [Fin,Tryz.results83];refine finS ?_);exact ⟨_,[],.inl ⟨rfl,rfl⟩,_,(prn D acc),[_],rfl,toZL_p (by simp only [List.length_append,List.length_map]<;>rfl),by simp,⟨rfl,by rw [hx2]⟩⟩)
end
end Go.Proofs.YtodkkldopciagaaGreatDoor.Eng
