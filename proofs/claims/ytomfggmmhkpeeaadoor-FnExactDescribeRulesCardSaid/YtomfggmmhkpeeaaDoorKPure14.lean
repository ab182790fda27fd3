/-
 Plain functions: how long an encoding may grow.
-/
import Derived.Test.YtomfggmmhkpeeaaDoorKN38A
import Derived.Test.YtomfggmmhkpeeaaDoorKP2
set_option linter.unusedSimpArgs false
set_option linter.unusedVariables false
set_option linter.defProp false
set_option maxRecDepth 100000
set_option maxHeartbeats 4000000
namespace Go.Proofs.YtomfggmmhkpeeaaDoor.Eng
open Go.RowKit

theorem const_le {D:List RuleD} (h:descP D) {n:Nat}{r:RuleD} (hr:D[n]?=some r) (h2:r.kind=2):r.bytes.length≤16:=by
 have hn:n<D.length:=(List.getElem?_eq_some_iff.1 hr).1
 have hrn:ruleAt D n=some r:=by simp [ruleAt,hr]
 have hp:ruleP D n r:=by
  refine Classical.byContradiction fun hq=>?_
  have:=h.2 n hn
  rw [vRule_no hrn hq] at this
  exact Bool.noConfusion this
 obtain ⟨_,_,_,hk⟩:=hp
 rw [kl_2 h2] at hk
 simp only [Bool.and_eq_true,decide_eq_true_eq] at hk
 exact hk.2.2
theorem head_kid {D:List RuleD}{i:Nat}{r:RuleD} (G:GoodR D i r) (hk:r.kind=4∨r.kind=5∨r.kind=7):∃ (j:Nat) (q:RuleD),kid0 r=j∧D[j]?=some q∧(1≤q.size∧q.size≤4)∧ruleD D (kid0 r)=q∧limD D (kid0 r)=2 ^ (8*q.size.toNat) - 1:=by
 have h0:0≤limD D (kid0 r):=by
  rcases hk with h|h|h
  ·have:=(G.k4 h).2;omega
  ·have:=(G.k5 h).2;omega
  ·exact (G.k7 h).2
 obtain ⟨q',h1,h2,h3⟩:=limD_rule h0
 obtain ⟨j,q,ej,hj,hq,hqr⟩:=kid_int h0
 refine ⟨j,q,ej,hj,hq,hqr,?_⟩
 have hx:ruleAt D (kid0 r)=some q:=by rw [ej];simp [ruleAt,hj]
 have:q'=q:=by rw [hx] at h1;exact (Option.some.inj h1).symm
 subst this
 exact limD_good hx ⟨h2,h3⟩
theorem headB_len {D:List RuleD} (hV:descP D) {i:Nat}{r:RuleD} (hr:D[i]?=some r) (G:GoodR D i r) {n:Int}{bs:List UInt8}{lv:Nat} (h:ownV D r n bs.length lv=true):(headB D r n bs lv).length≤68+2*bs.length:=by
 have hq:(r.kind=4∨r.kind=5∨r.kind=7)→∀ m,(intB (ruleD D (kid0 r)) m).length≤4:=fun hk m=>by
  obtain ⟨j,q,_,_,hq,hqr,_⟩:=head_kid G hk
  rw [hqr,intB_len]
  omega
 unfold headB
 split
 ·rename_i h1
  rw [intB_len]
  have:=G.k1 h1
  omega
 split
 ·rename_i h1
  have:=const_le hV hr h1
  omega
 split
 ·omega
 split
 ·rename_i h1
  have:=hq (.inl h1) bs.length
  simp only [List.length_append]
  omega
 split
 ·rename_i h1
  have:=hq (.inr (.inl h1)) lv
  omega
 split
 ·rename_i h1
  have:=hq (.inr (.inr h1)) n.toNat
  omega
 split
 ·rw [List.length_singleton];omega
 split
 ·have:=escB_len (r.bytes.headD 0) bs
  omega
 ·simp
theorem tailB_le (r:RuleD) (x:List UInt8):(tailB r x).length≤1:=by
 unfold tailB
 split<;>simp
def capV (v:V):Nat:=70+70*totV v
theorem capV_mk (n:Int) (bs:List UInt8) (vs:List V):capV (.mk n bs vs)=70+70*(bs.length+vs.length+totVs vs):=by rw [capV,totV]
theorem totVs_cons (v:V) (vs:List V):totVs (v::vs)=totV v+totVs vs:=by rw [totVs]
section
variable {D:List RuleD}
mutual
theorem prI_le (hV:descP D):∀ (v:V) (i:Nat) (out:List UInt8),i<D.length→validV D i v=true→(prI D i out v).length≤out.length+capV v
 | .mk n bs vs,i,out,hi,hv=>by
  obtain ⟨r,hr⟩:∃ r,D[i]?=some r:=⟨_,List.getElem?_eq_getElem hi⟩
  have G:GoodR D i r:=good_of hV hr
  rw [validV,ruleD_get hr,Bool.and_eq_true] at hv
  obtain ⟨ho,hs⟩:=hv
  have hh:=headB_len hV hr G ho
  have:=prIs_le hV r n vs 0 (out++headB D r n bs vs.length) (fun k hk=>by rw [Nat.zero_add];exact own_kid G hi ho hk) hs
  unfold prI
  rw [ruleD_get hr,capV_mk]
  have ht:=tailB_le r ((prIs D r n 0 (out++headB D r n bs vs.length) vs).drop (out++headB D r n bs vs.length).length)
  simp only [List.length_append] at this ht ⊢
  omega
theorem prIs_le (hV:descP D) (r:RuleD) (n:Int):∀ (vs:List V) (k:Nat) (out:List UInt8),(∀ j,j<vs.length→∃ x:Nat,itemK r n (k+j:Nat)=x∧x<D.length)→validVs D r n k vs=true→(prIs D r n k out vs).length≤out.length+70*(vs.length+totVs vs)
 | [],k,out,_,_=>by unfold prIs;omega
 | v::vs,k,out,hk,hv=>by
  unfold prIs
  rw [validVs,Bool.and_eq_true] at hv
  rw [totVs_cons,List.length_cons]
  split
  ·omega
  ·obtain ⟨x,hx,hxl⟩:=hk 0 (by simp)
   rw [Nat.add_zero] at hx
   rw [hx] at hv ⊢
   have h1:=prI_le hV v x out hxl hv.1
   have h2:=prIs_le hV r n vs (k+1) (prI D x out v) (fun j hj=>by
    have:=hk (j+1) (by simp;omega)
    rw [show k+1+j=k+(j+1) by omega]
    exact this) hv.2
   unfold capV at h1
   omega
end
mutual
theorem prV_le (hV:descP D):∀ (v:V) (i:Nat),i<D.length→validV D i v=true→(prV D i v).length≤capV v
 | .mk n bs vs,i,hi,hv=>by
  obtain ⟨r,hr⟩:∃ r,D[i]?=some r:=⟨_,List.getElem?_eq_getElem hi⟩
  have G:GoodR D i r:=good_of hV hr
  rw [validV,ruleD_get hr,Bool.and_eq_true] at hv
  obtain ⟨ho,hs⟩:=hv
  have hh:=headB_len hV hr G ho
  have:=prVs_le hV r n vs 0 (fun k hk=>by rw [Nat.zero_add];exact own_kid G hi ho hk) hs
  unfold prV
  rw [ruleD_get hr,capV_mk]
  have ht:=tailB_le r (prVs D r n 0 vs)
  simp only [List.length_append]
  omega
theorem prVs_le (hV:descP D) (r:RuleD) (n:Int):∀ (vs:List V) (k:Nat),(∀ j,j<vs.length→∃ x:Nat,itemK r n (k+j:Nat)=x∧x<D.length)→validVs D r n k vs=true→(prVs D r n k vs).length≤70*(vs.length+totVs vs)
 | [],k,_,_=>by unfold prVs;simp
 | v::vs,k,hk,hv=>by
  unfold prVs
  rw [validVs,Bool.and_eq_true] at hv
  rw [totVs_cons,List.length_cons,List.length_append]
  obtain ⟨x,hx,hxl⟩:=hk 0 (by simp)
  rw [Nat.add_zero] at hx
  rw [hx] at hv ⊢
  have h1:=prV_le hV v x hxl hv.1
  have h2:=prVs_le hV r n vs (k+1) (fun j hj=>by
   have:=hk (j+1) (by simp;omega)
   rw [show k+1+j=k+(j+1) by omega]
   exact this) hv.2
  unfold capV at h1
  omega
end
end
end Go.Proofs.YtomfggmmhkpeeaaDoor.Eng
