/-
 Plain functions: a step is followed item by item; texts that are numbers.
-/
import Derived.Test.YtecdbogicpffeaaKN10
import Derived.Test.YtecdbogicpffeaaKNGI
set_option linter.unusedSimpArgs false
set_option linter.unusedVariables false
set_option linter.defProp false
set_option maxRecDepth 100000
set_option maxHeartbeats 4000000
namespace Go.Proofs.Ytecdbogicpffeaa.Eng
open Go.RowKit

def stpL (g:Nat→Nat→V × Nat × Nat) (r:RuleD) (s:ByteArray):List Nat→Nat→Nat→Option (Nat × Nat)
 | [],_,_=>none
 | k::ks,i,p=>if stepT r i=s then some (k,p) else if (g k p).2.2=0 then stpL g r s ks (i+1) (g k p).2.1 else none
theorem stpL_no {g:Nat→Nat→V × Nat × Nat}{r:RuleD}{s:ByteArray}:∀ (ks:List Nat) (i p:Nat),(∀ j:Nat,j<ks.length→stepT r (i+j)≠s)→stpL g r s ks i p=none
 | [],_,_,_=>rfl
 | k::ks,i,p,h=>by
  rw [stpL,if_neg (by have:=h 0 (by simp);simpa using this)]
  split
  ·refine stpL_no ks _ _ fun j hj=>?_
   have:=h (j+1) (by simp only [List.length_cons];omega)
   rwa [show i+(j+1)=i+1+j by omega] at this
  ·rfl
theorem stpL_hit {g:Nat→Nat→V × Nat × Nat}{r:RuleD}{s:ByteArray}:∀ (ks:List Nat) (i p j:Nat) (hj:j<ks.length),stepT r (i+j)=s→(∀ j':Nat,j'<j→stepT r (i+j')≠s)→stpL g r s ks i p=(pasI g (ks.take j) p).map fun q=>(ks[j],q)
 | [],_,_,_,hj,_,_=>by simp at hj
 | k::ks,i,p,0,hj,h1,h2=>by
  rw [stpL,if_pos (by simpa using h1)]
  simp [pasI]
 | k::ks,i,p,j+1,hj,h1,h2=>by
  rw [stpL,if_neg (by have:=h2 0 (by omega);simpa using this),List.take_succ_cons,pasI]
  split
  ·rw [stpL_hit ks (i+1) _ j (by simpa using hj) (by rwa [show i+1+j=i+(j+1) by omega]) (fun j' hj'=>by
    have:=h2 (j'+1) (by omega)
    rwa [show i+(j'+1)=i+1+j' by omega] at this)]
   rfl
  ·rfl
theorem stpL_one {g:Nat→Nat→V × Nat × Nat}{r:RuleD}{s:ByteArray}{k p:Nat}:stpL g r s [k] 0 p=if stepT r 0=s then some (k,p) else none:=by
 rw [stpL]
 split
 ·rfl
 ·split<;>rfl
theorem dgtD (n:Nat):dgt n=⟨#[UInt8.ofNat (48+n % 10)]⟩:=by
 unfold dgt
 have h:(n:Int).tmod 10=((n % 10:Nat):Int):=by rw [Int.tmod_eq_emod_of_nonneg (by omega)];omega
 have h1:∀ m:Int,IntKind.u8.wrap m=m % 256:=fun m=>by simp [IntKind.wrap,IntKind.bits,IntKind.signed]
 rw [h,wrap_small (by omega) (by omega),h1,show ((48+((n % 10:Nat):Int)) % 256).toNat=48+n % 10 by omega]
theorem fmtAD:∀ (n:Nat) (s:ByteArray),0<n→fmtA n s=⟨(Lib.decDigits n).toArray⟩++s:=by
 intro n
 induction n using Nat.strongRecOn with
 | ind n ih=>
  intro s hn
  rw [fmtA_step (by omega)]
  have hd:dgt n=⟨#[UInt8.ofNat (48+n % 10)]⟩:=dgtD n
  by_cases h:n<10
  ·have h1:Lib.decDigits n=[UInt8.ofNat (48+n)]:=by rw [Lib.decDigits,dif_pos h]
   rw [show n / 10=0 by omega,fmtA_0,hd,h1,Nat.mod_eq_of_lt h]
  ·have h1:Lib.decDigits n=Lib.decDigits (n / 10)++[UInt8.ofNat (48+n % 10)]:=by rw [Lib.decDigits,dif_neg h]
   rw [ih (n / 10) (by omega) _ (by omega),hd,←ByteArray.append_assoc,h1]
   congr 1
theorem fmtND (n:Nat):fmtN n=⟨(Lib.decDigits n).toArray⟩:=by
 rw [fmtN]
 split
 ·subst n;rw [Lib.decDigits,dif_pos (by decide)];rfl
 ·rw [fmtAD n _ (by omega)]
  apply ByteArray.ext
  simp
theorem fmt_par {j:Nat} (hj:j≤1000000000000) {s:ByteArray}:fmtN j=s↔parP s=some j:=by
 have e:(fmtN j).data.toList=Lib.decDigits j:=by rw [fmtND]
 refine ⟨fun h=>?_,fun h=>?_⟩
 ·subst h
  exact parP_dec hj e
 ·have h1:=(parP_some h).2
  apply ByteArray.ext
  apply Array.ext'
  rw [e,h1]
section
variable {M:Nat}{D:List RuleD}{b:List UInt8}
theorem goS_items (hV:descP D) {n:Nat}{r:RuleD} (hr:D[n]?=some r) (p:Nat) (s:ByteArray) :
  goS D b n p s=(match itemsAt D r b p with
   | none=>none
   | some x=>stpL (rd D b D.length) r s x.2.2 0 x.1):=by
 have hrd:=ruleD_get hr
 have G:GoodR D n r:=good_of hV hr
 unfold goS
 rw [hrd]
 dsimp only
 by_cases k5:r.kind=5
 ·rw [if_pos k5]
  cases hi:intAt (ruleD D (kid0 r)) b p with
  | none=>rw [items_5n k5 hi]
  | some m=>
   rw [items_5 k5 hi]
   have hst:∀ j:Nat,stepT r (0+j)=fmtN j:=fun j=>by rw [Nat.zero_add,step_5 k5]
   by_cases hm:m≤40
   ·rw [if_pos hm]
    dsimp only
    cases hs:parP s with
    | none=>
     rw [stpL_no]
     intro j hj h
     rw [hst] at h
     rw [List.length_replicate] at hj
     rw [(fmt_par (by omega)).1 h] at hs
     cases hs
    | some k=>
     dsimp only
     have hk0:=(parP_some hs).1
     by_cases hk:k<m
     ·rw [if_pos ⟨hm,hk⟩,stpL_hit _ _ _ k (by rw [List.length_replicate];exact hk) (by rw [hst];exact (fmt_par hk0).2 hs) (fun j hj h=>by
       rw [hst] at h
       have:=(fmt_par (by omega)).1 h
       rw [hs] at this
       have:=Option.some.inj this
       omega)]
      rw [List.take_replicate,Nat.min_eq_left (by omega),List.getElem_replicate]
     ·rw [if_neg (fun h=>hk h.2),stpL_no]
      intro j hj h
      rw [List.length_replicate] at hj
      rw [hst] at h
      have:=(fmt_par (by omega)).1 h
      rw [hs] at this
      have:=Option.some.inj this
      omega
   ·rw [if_neg hm]
    dsimp only
    split
    ·rename_i h1 h2
     obtain rfl:=Option.some.inj h1
     rw [if_neg (fun h=>hm h.1)]
    ·rfl
 rw [if_neg k5]
 by_cases k6:r.kind=6
 ·rw [if_pos k6,items_6 k6]
  dsimp only
  have hl:=names_6 hV hr k6
  unfold idxT
  cases hs:r.names.findIdx? (fun x=>decide (x=s)) with
  | none=>
   rw [List.findIdx?_eq_none_iff] at hs
   rw [stpL_no]
   intro j hj h
   rw [List.length_map] at hj
   rw [Nat.zero_add,step_6 k6 (by omega)] at h
   have:=hs _ (List.getElem_mem (show j<r.names.length by omega))
   simp [h] at this
  | some j=>
   rw [List.findIdx?_eq_some_iff_getElem] at hs
   obtain ⟨hj,h1,h2⟩:=hs
   dsimp only
   rw [stpL_hit _ _ _ j (by rw [List.length_map];omega) (by rw [Nat.zero_add,step_6 k6 hj];simpa using h1) (fun j' hj' h=>by
    rw [Nat.zero_add,step_6 k6 (by omega)] at h
    have:=h2 j' hj'
    simp [h] at this)]
   rw [List.map_take]
   have hjk:j<r.kids.length:=by omega
   congr 1
   funext q
   rw [List.getElem_map]
   simp [List.getD,hjk]
 rw [if_neg k6]
 by_cases k7:r.kind=7
 ·rw [if_pos k7]
  cases hi:intAt (ruleD D (kid0 r)) b p with
  | none=>rw [items_7n k7 hi]
  | some m=>
   dsimp only
   cases ht:tagIx r.tags m with
   | none=>rw [items_7t k7 hi ht]
   | some k=>
    rw [items_7 k7 hi ht]
    dsimp only
    rw [stpL_one,step_7 k7]
    by_cases h:s=⟨#[42]⟩
    ·rw [if_pos h,if_pos h.symm]
    ·rw [if_neg h,if_neg (fun e=>h e.symm)]
 rw [if_neg k7]
 by_cases k8:r.kind=8
 ·rw [if_pos k8,items_8 k8]
  by_cases hb:b[p]?=some 1
  ·rw [if_pos hb]
   dsimp only
   rw [stpL_one,step_8 k8]
   by_cases h:s=⟨#[63]⟩
   ·rw [if_pos ⟨hb,h⟩,if_pos h.symm]
   ·rw [if_neg (fun e=>h e.2),if_neg (fun e=>h e.symm)]
  ·rw [if_neg hb,if_neg (fun h=>hb h.1)]
 rw [if_neg k8]
 by_cases k9:r.kind=9
 ·rw [if_pos k9,items_9 k9]
  dsimp only
  rw [stpL_one,step_9 k9]
  by_cases h:s=⟨#[43]⟩
  ·rw [if_pos h,if_pos h.symm]
  ·rw [if_neg h,if_neg (fun e=>h e.symm)]
 rw [if_neg k9,items_no k5 k6 k7 k8 k9]
theorem stpL_in {g:Nat→Nat→V × Nat × Nat}{m N:Nat} (hg:∀ k q,q≤m→(g k q).2.1≤m) {r:RuleD}{s:ByteArray}:∀ (ks:List Nat) (i p:Nat) (x:Nat × Nat),(∀ k∈ks,k<N)→p≤m→stpL g r s ks i p=some x→x.1<N∧x.2≤m
 | [],i,p,x,_,hp,h=>by rw [stpL] at h;cases h
 | k::ks,i,p,x,hN,hp,h=>by
  rw [stpL] at h
  split at h
  ·obtain rfl:=Option.some.inj h
   exact ⟨hN k List.mem_cons_self,hp⟩
  ·split at h
   ·exact stpL_in hg ks _ _ x (fun k hk=>hN k (List.mem_cons_of_mem _ hk)) (hg k p hp) h
   ·cases h
theorem goS_in (hV:descP D) {n:Nat} (hn:n<D.length) {p:Nat} (hp:p≤b.length) {s:ByteArray}{x:Nat × Nat} (h:goS D b n p s=some x):x.1<n∧x.2≤b.length:=by
 obtain ⟨r,hr⟩:∃ r,D[n]?=some r:=⟨_,List.getElem?_eq_getElem hn⟩
 rw [goS_items hV hr] at h
 cases hx:itemsAt D r b p with
 | none=>rw [hx] at h;cases h
 | some y=>
  obtain ⟨q,m,ks⟩:=y
  rw [hx] at h
  obtain ⟨o1,o2,o3,o4⟩:=items_ok hV hr (good_of hV hr) hp hx
  refine stpL_in (fun k q' h=>(rd_in D b D.length k q' h).2) ks 0 q x (fun k hk=>?_) o1 h
  obtain ⟨j,hj,rfl⟩:=List.getElem_of_mem hk
  exact (o3 j hj).2
end
end Go.Proofs.Ytecdbogicpffeaa.Eng
