/-
 Parts of files: what is known of their items.
-/
import Derived.Test.YtecdbogicpffeaaKNG1
set_option linter.unusedSimpArgs false
set_option linter.unusedVariables false
set_option linter.defProp false
set_option maxRecDepth 100000
set_option maxHeartbeats 4000000
namespace Go.Proofs.Ytecdbogicpffeaa.Eng
open Go Go.RowKit

section
variable {M:Nat}{D:List RuleD}{b:List UInt8}
theorem names_6 (hV:descP D) {n:Nat}{r:RuleD} (hr:D[n]?=some r) (he:r.kind=6):r.kids.length=r.names.length:=by
 have hn:n<D.length:=(List.getElem?_eq_some_iff.1 hr).1
 have hrn:ruleAt D n=some r:=by simp [ruleAt,hr]
 have hp:ruleP D n r:=by
  refine Classical.byContradiction fun hq=>?_
  have:=hV.2 n hn
  rw [vRule_no hrn hq] at this
  exact Bool.noConfusion this
 obtain ⟨_,_,_,hk⟩:=hp
 rw [kl_6 he] at hk
 simp only [Bool.and_eq_true] at hk
 have h1:=shape_len (by omega) (shapeL_b hk.1)
 omega
theorem items_ok (hV:descP D) {n:Nat}{r:RuleD} (hr:D[n]?=some r) (G:GoodR D n r) {p q:Nat} (hp:p≤b.length) {m:Int}{ks:List Nat} (h:itemsAt D r b p=some (q,m,ks)) :
  q≤b.length∧ks.length≤40∧(∀ i (hi:i<ks.length),itemK r m i=(ks[i]:Int)∧ks[i]<n)∧∀ i,i<ks.length→r.kind=5∨(r.kind=6∧i<r.names.length)∨((r.kind=7∨r.kind=8∨r.kind=9)∧i=0):=by
 have kidn:∀ j (hj:j<r.kids.length),(r.kids[j].toNat:Int)=r.kids[j]∧r.kids[j].toNat<n:=fun j hj=>by have:=G.kid j hj;omega
 by_cases k6:r.kind=6
 ·rw [items_6 k6] at h
  simp only [Option.some.injEq,Prod.mk.injEq] at h
  obtain ⟨rfl,rfl,rfl⟩:=h
  have hl:=names_6 hV hr k6
  have h8:=G.k6 k6
  refine ⟨hp,by rw [List.length_map];omega,fun i hi=>?_,fun i hi=>.inr (.inl ⟨k6,by rw [List.length_map] at hi;omega⟩)⟩
  rw [List.length_map] at hi
  rw [itemK_6 k6 hi,List.getElem_map]
  exact ⟨(kidn i hi).1.symm,(kidn i hi).2⟩
 by_cases k9:r.kind=9
 ·rw [items_9 k9] at h
  simp only [Option.some.injEq,Prod.mk.injEq] at h
  obtain ⟨rfl,rfl,rfl⟩:=h
  have hl:=G.k9 k9
  have h0:=kidn 0 (by omega)
  refine ⟨hp,by simp,fun i hi=>?_,fun i hi=>.inr (.inr ⟨.inr (.inr k9),by simpa using hi⟩)⟩
  obtain rfl:i=0:=by simpa using hi
  rw [itemK_8 (.inr k9)]
  simp only [List.getElem_cons_zero]
  rw [show kid0 r=r.kids[0]'(by omega) by simp [kid0,List.headD_eq_head?_getD,List.head?_eq_getElem?,show 0<r.kids.length by omega]]
  exact ⟨h0.1.symm,h0.2⟩
 by_cases k8:r.kind=8
 ·rw [items_8 k8] at h
  split at h
  ·rename_i hb
   simp only [Option.some.injEq,Prod.mk.injEq] at h
   obtain ⟨rfl,rfl,rfl⟩:=h
   have hlt:=get_lt hb
   have hl:=G.k8 k8
   have h0:=kidn 0 (by omega)
   refine ⟨hlt,by simp,fun i hi=>?_,fun i hi=>.inr (.inr ⟨.inr (.inl k8),by simpa using hi⟩)⟩
   obtain rfl:i=0:=by simpa using hi
   rw [itemK_8 (.inl k8)]
   simp only [List.getElem_cons_zero]
   rw [show kid0 r=r.kids[0]'(by omega) by simp [kid0,List.headD_eq_head?_getD,List.head?_eq_getElem?,show 0<r.kids.length by omega]]
   exact ⟨h0.1.symm,h0.2⟩
  ·cases h
 by_cases k5:r.kind=5
 ·cases hi:intAt (ruleD D (kid0 r)) b p with
  | none=>rw [items_5n k5 hi] at h;cases h
  | some c=>
   rw [items_5 k5 hi] at h
   split at h
   ·rename_i hc
    simp only [Option.some.injEq,Prod.mk.injEq] at h
    obtain ⟨rfl,rfl,rfl⟩:=h
    have hl:=G.k5 k5
    have h1:=kidn 1 (by omega)
    refine ⟨(intAt_in hi hp).1,by rw [List.length_replicate];exact hc,fun i hi=>?_,fun i hi=>.inl k5⟩
    rw [itemK_5 k5,List.getElem_replicate]
    rw [show kid1 r=r.kids[1]'(by omega) by simp [kid1,List.getD,show 1<r.kids.length by omega]]
    exact ⟨h1.1.symm,h1.2⟩
   ·cases h
 by_cases k7:r.kind=7
 ·cases hi:intAt (ruleD D (kid0 r)) b p with
  | none=>rw [items_7n k7 hi] at h;cases h
  | some c=>
   cases ht:tagIx r.tags c with
   | none=>rw [items_7t k7 hi ht] at h;cases h
   | some k=>
    rw [items_7 k7 hi ht] at h
    simp only [Option.some.injEq,Prod.mk.injEq] at h
    obtain ⟨rfl,rfl,rfl⟩:=h
    have hl:=(G.k7 k7).1
    have hkl:=tagIx_lt ht
    have h1:=kidn (k+1) (by omega)
    refine ⟨(intAt_in hi hp).1,by simp,fun i hi=>?_,fun i hi=>.inr (.inr ⟨.inl k7,by simpa using hi⟩)⟩
    obtain rfl:i=0:=by simpa using hi
    rw [itemK_7 k7 ht (by omega)]
    simp only [List.getElem_cons_zero]
    rw [show r.kids.getD (k+1) 0=r.kids[k+1]'(by omega) by simp [List.getD,show k+1<r.kids.length by omega]]
    exact ⟨h1.1.symm,h1.2⟩
 rw [items_no k5 k6 k7 k8 k9] at h
 cases h
end
end Go.Proofs.Ytecdbogicpffeaa.Eng
