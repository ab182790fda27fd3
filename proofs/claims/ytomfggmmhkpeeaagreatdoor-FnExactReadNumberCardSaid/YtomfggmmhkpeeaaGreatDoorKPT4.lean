/-
 Plain functions: a step is followed item by item; texts that are numbers.

 Plain functions: texts that are numbers, digit by digit.
-/
import Derived.Test.YtomfggmmhkpeeaaGreatDoorKN10
import Derived.Test.YtomfggmmhkpeeaaGreatDoorKNGI
set_option linter.unusedSimpArgs false
set_option linter.unusedVariables false
set_option linter.defProp false
set_option maxRecDepth 100000
set_option maxHeartbeats 4000000
namespace Go.Proofs.YtomfggmmhkpeeaaGreatDoor.Eng
open Go.RowKit

def stpL (g:Nat→Nat→V × Nat × Nat) (r:RuleD) (s:ByteArray):List Nat→Nat→Nat→Option (Nat × Nat)
 | [],_,_=>none
 | k::ks,i,p=>if stepT r i=s then some (k,p) else if (g k p).2.2=0 then stpL g r s ks (i+1) (g k p).2.1 else none
theorem stpL_no {g:Nat→Nat→V × Nat × Nat}{r:RuleD}{s:ByteArray}:∀ (ks:List Nat) (i p:Nat),(∀ j:Nat,j<ks.length→stepT r (i+j)≠s)→stpL g r s ks i p=none
 | [],_,_,_=>rfl
 | k::ks,i,p,h=>by
  rw [stpL,if_neg (by have:=h 0 (by simp);simpa using this)]
  split
  ·refine stpL_no ks _ _ fun j hj=>?_
   have:=h (j+1) (by simp only [List.length_cons];omega)
   rwa [show i+(j+1)=i+1+j by omega] at this
  ·rfl
theorem stpL_hit {g:Nat→Nat→V × Nat × Nat}{r:RuleD}{s:ByteArray}:∀ (ks:List Nat) (i p j:Nat) (hj:j<ks.length),stepT r (i+j)=s→(∀ j':Nat,j'<j→stepT r (i+j')≠s)→stpL g r s ks i p=(pasI g (ks.take j) p).map fun q=>(ks[j],q)
 | [],_,_,_,hj,_,_=>by simp at hj
 | k::ks,i,p,0,hj,h1,h2=>by
  rw [stpL,if_pos (by simpa using h1)]
  simp [pasI]
 | k::ks,i,p,j+1,hj,h1,h2=>by
  rw [stpL,if_neg (by have:=h2 0 (by omega);simpa using this),List.take_succ_cons,pasI]
  split
  ·rw [stpL_hit ks (i+1) _ j (by simpa using hj) (by rwa [show i+1+j=i+(j+1) by omega]) (fun j' hj'=>by
    have:=h2 (j'+1) (by omega)
    rwa [show i+(j'+1)=i+1+j' by omega] at this)]
   rfl
  ·rfl
theorem stpL_one {g:Nat→Nat→V × Nat × Nat}{r:RuleD}{s:ByteArray}{k p:Nat}:stpL g r s [k] 0 p=if stepT r 0=s then some (k,p) else none:=by
 rw [stpL]
 split
 ·rfl
 ·split<;>rfl
theorem dgtD (n:Nat):dgt n=⟨#[UInt8.ofNat (48+n % 10)]⟩:=by
 unfold dgt
 have h:(n:Int).tmod 10=((n % 10:Nat):Int):=by rw [Int.tmod_eq_emod_of_nonneg (by omega)];omega
 have h1:∀ m:Int,IntKind.u8.wrap m=m % 256:=fun m=>by simp [IntKind.wrap,IntKind.bits,IntKind.signed]
 rw [h,wrap_small (by omega) (by omega),h1,show ((48+((n % 10:Nat):Int)) % 256).toNat=48+n % 10 by omega]
theorem fmtAD:∀ (n:Nat) (s:ByteArray),0<n→fmtA n s=⟨(Lib.decDigits n).toArray⟩++s:=by
 intro n
 induction n using Nat.strongRecOn with
 | ind n ih=>
  intro s hn
  rw [fmtA_step (by omega)]
  have hd:dgt n=⟨#[UInt8.ofNat (48+n % 10)]⟩:=dgtD n
  by_cases h:n<10
  ·have h1:Lib.decDigits n=[UInt8.ofNat (48+n)]:=by rw [Lib.decDigits,dif_pos h]
   rw [show n / 10=0 by omega,fmtA_0,hd,h1,Nat.mod_eq_of_lt h]
  ·have h1:Lib.decDigits n=Lib.decDigits (n / 10)++[UInt8.ofNat (48+n % 10)]:=by rw [Lib.decDigits,dif_neg h]
   rw [ih (n / 10) (by omega) _ (by omega),hd,←ByteArray.append_assoc,h1]
   congr 1
theorem fmtND (n:Nat):fmtN n=⟨(Lib.decDigits n).toArray⟩:=by
 rw [fmtN]
 split
 ·subst n;rw [Lib.decDigits,dif_pos (by decide)];rfl
 ·rw [fmtAD n _ (by omega)]
  apply ByteArray.ext
  simp
theorem fmt_par {j:Nat} (hj:j≤1000000000000) {s:ByteArray}:fmtN j=s↔parP s=some j:=by
 have e:(fmtN j).data.toList=Lib.decDigits j:=by rw [fmtND]
 refine ⟨fun h=>?_,fun h=>?_⟩
 ·subst h
  exact parP_dec hj e
 ·have h1:=(parP_some h).2
  apply ByteArray.ext
  apply Array.ext'
  rw [e,h1]
section
variable {M:Nat}{D:List RuleD}{b:List UInt8}
theorem goS_items (hV:descP D) {n:Nat}{r:RuleD} (hr:D[n]?=some r) (p:Nat) (s:ByteArray) :
  goS D b n p s=(match itemsAt D r b p with
   | none=>none
   | some x=>stpL (rd D b D.length) r s x.2.2 0 x.1):=by
 have hrd:=ruleD_get hr
 have G:GoodR D n r:=good_of hV hr
 unfold goS
 rw [hrd]
 dsimp only
 by_cases k5:r.kind=5
 ·rw [if_pos k5]
  cases hi:intAt (ruleD D (kid0 r)) b p with
  | none=>rw [items_5n k5 hi]
  | some m=>
   rw [items_5 k5 hi]
   have hst:∀ j:Nat,stepT r (0+j)=fmtN j:=fun j=>by rw [Nat.zero_add,step_5 k5]
   by_cases hm:m≤40
   ·rw [if_pos hm]
    dsimp only
    cases hs:parP s with
    | none=>
     rw [stpL_no]
     intro j hj h
     rw [hst] at h
     rw [List.length_replicate] at hj
     rw [(fmt_par (by omega)).1 h] at hs
     cases hs
    | some k=>
     dsimp only
     have hk0:=(parP_some hs).1
     by_cases hk:k<m
     ·rw [if_pos ⟨hm,hk⟩,stpL_hit _ _ _ k (by rw [List.length_replicate];exact hk) (by rw [hst];exact (fmt_par hk0).2 hs) (fun j hj h=>by
       rw [hst] at h
       have:=(fmt_par (by omega)).1 h
       rw [hs] at this
       have:=Option.some.inj this
       omega)]
      rw [List.take_replicate,Nat.min_eq_left (by omega),List.getElem_replicate]
     ·rw [if_neg (fun h=>hk h.2),stpL_no]
      intro j hj h
      rw [List.length_replicate] at hj
      rw [hst] at h
      have:=(fmt_par (by omega)).1 h
      rw [hs] at this
      have:=Option.some.inj this
      omega
   ·rw [if_neg hm]
    dsimp only
    split
    ·rename_i h1 h2
     obtain rfl:=Option.some.inj h1
     rw [if_neg (fun h=>hm h.1)]
    ·rfl
 rw [if_neg k5]
 by_cases k6:r.kind=6
 ·rw [if_pos k6,items_6 k6]
  dsimp only
  have hl:=names_6 hV hr k6
  unfold idxT
  cases hs:r.names.findIdx? (fun x=>decide (x=s)) with
  | none=>
   rw [List.findIdx?_eq_none_iff] at hs
   rw [stpL_no]
   intro j hj h
   rw [List.length_map] at hj
   rw [Nat.zero_add,step_6 k6 (by omega)] at h
   have:=hs _ (List.getElem_mem (show j<r.names.length by omega))
   simp [h] at this
  | some j=>
   rw [List.findIdx?_eq_some_iff_getElem] at hs
   obtain ⟨hj,h1,h2⟩:=hs
   dsimp only
   rw [stpL_hit _ _ _ j (by rw [List.length_map];omega) (by rw [Nat.zero_add,step_6 k6 hj];simpa using h1) (fun j' hj' h=>by
    rw [Nat.zero_add,step_6 k6 (by omega)] at h
    have:=h2 j' hj'
    simp [h] at this)]
   rw [List.map_take]
   have hjk:j<r.kids.length:=by omega
   congr 1
   funext q
   rw [List.getElem_map]
   simp [List.getD,hjk]
 rw [if_neg k6]
 by_cases k7:r.kind=7
 ·rw [if_pos k7]
  cases hi:intAt (ruleD D (kid0 r)) b p with
  | none=>rw [items_7n k7 hi]
  | some m=>
   dsimp only
   cases ht:tagIx r.tags m with
   | none=>rw [items_7t k7 hi ht]
   | some k=>
    rw [items_7 k7 hi ht]
    dsimp only
    rw [stpL_one,step_7 k7]
    by_cases h:s=⟨#[42]⟩
    ·rw [if_pos h,if_pos h.symm]
    ·rw [if_neg h,if_neg (fun e=>h e.symm)]
 rw [if_neg k7]
 by_cases k8:r.kind=8
 ·rw [if_pos k8,items_8 k8]
  by_cases hb:b[p]?=some 1
  ·rw [if_pos hb]
   dsimp only
   rw [stpL_one,step_8 k8]
   by_cases h:s=⟨#[63]⟩
   ·rw [if_pos ⟨hb,h⟩,if_pos h.symm]
   ·rw [if_neg (fun e=>h e.2),if_neg (fun e=>h e.symm)]
  ·rw [if_neg hb,if_neg (fun h=>hb h.1)]
 rw [if_neg k8]
 by_cases k9:r.kind=9
 ·rw [if_pos k9,items_9 k9]
  dsimp only
  rw [stpL_one,step_9 k9]
  by_cases h:s=⟨#[43]⟩
  ·rw [if_pos h,if_pos h.symm]
  ·rw [if_neg h,if_neg (fun e=>h e.symm)]
 rw [if_neg k9,items_no k5 k6 k7 k8 k9]
theorem stpL_in {g:Nat→Nat→V × Nat × Nat}{m N:Nat} (hg:∀ k q,q≤m→(g k q).2.1≤m) {r:RuleD}{s:ByteArray}:∀ (ks:List Nat) (i p:Nat) (x:Nat × Nat),(∀ k∈ks,k<N)→p≤m→stpL g r s ks i p=some x→x.1<N∧x.2≤m
 | [],i,p,x,_,hp,h=>by rw [stpL] at h;cases h
 | k::ks,i,p,x,hN,hp,h=>by
  rw [stpL] at h
  split at h
  ·obtain rfl:=Option.some.inj h
   exact ⟨hN k List.mem_cons_self,hp⟩
  ·split at h
   ·exact stpL_in hg ks _ _ x (fun k hk=>hN k (List.mem_cons_of_mem _ hk)) (hg k p hp) h
   ·cases h
theorem goS_in (hV:descP D) {n:Nat} (hn:n<D.length) {p:Nat} (hp:p≤b.length) {s:ByteArray}{x:Nat × Nat} (h:goS D b n p s=some x):x.1<n∧x.2≤b.length:=by
 obtain ⟨r,hr⟩:∃ r,D[n]?=some r:=⟨_,List.getElem?_eq_getElem hn⟩
 rw [goS_items hV hr] at h
 cases hx:itemsAt D r b p with
 | none=>rw [hx] at h;cases h
 | some y=>
  obtain ⟨q,m,ks⟩:=y
  rw [hx] at h
  obtain ⟨o1,o2,o3,o4⟩:=items_ok hV hr (good_of hV hr) hp hx
  refine stpL_in (fun k q' h=>(rd_in D b D.length k q' h).2) ks 0 q x (fun k hk=>?_) o1 h
  obtain ⟨j,hj,rfl⟩:=List.getElem_of_mem hk
  exact (o3 j hj).2
theorem goN_in (hV:descP D):∀ (ss:List ByteArray) {n p:Nat} (_:n<D.length) (_:p≤b.length) {x:Nat × Nat},goN D b ss n p=some x→x.1<D.length∧x.2≤b.length
 | [],n,p,hn,hp,x,h=>by
  rw [goN] at h
  obtain rfl:=Option.some.inj h
  exact ⟨hn,hp⟩
 | s::ss,n,p,hn,hp,x,h=>by
  rw [goN] at h
  cases hg:goS D b n p s with
  | none=>rw [hg] at h;cases h
  | some y=>
   rw [hg] at h
   have h1:=goS_in hV hn hp hg
   exact goN_in hV ss (by omega) h1.2 h
end
end Go.Proofs.YtomfggmmhkpeeaaGreatDoor.Eng
namespace Go.Proofs.YtomfggmmhkpeeaaGreatDoor.Eng
open Go.RowKit

theorem toL_get {s:ByteArray}{i:Nat} (h:i<s.size):s.data.toList[i]'(by simpa using h)=s[i]:=by
 rw [Array.getElem_toList];rfl
theorem toL_len (s:ByteArray):s.data.toList.length=s.size:=by simp
theorem get0 {s:ByteArray} (h:0<s.size):s.data.toList[0]?=some s[0]:=by
 rw [List.getElem?_eq_getElem (by rw [toL_len];exact h),toL_get h]
theorem parP_len {s:ByteArray} (h:¬(1≤s.size∧s.size≤13)):parP s=none:=by
 unfold parP
 rw [if_neg]
 intro hc
 have:=hc.1
 rw [toL_len] at this
 exact h this
theorem parP_dig {s:ByteArray}{i:Nat} (hi:i<s.size) (h:¬digP s[i]):parP s=none:=by
 unfold parP
 rw [if_neg]
 intro hc
 have:=hc.2.1 _ (List.getElem_mem (show i<s.data.toList.length by rw [toL_len];exact hi))
 rw [toL_get hi] at this
 exact h this
theorem parP_zero {s:ByteArray} (h1:1<s.size) (h:s[0]=48):parP s=none:=by
 unfold parP
 rw [if_neg]
 intro hc
 exact hc.2.2.1 ⟨by rw [get0 (by omega),h],by rw [toL_len];exact h1⟩
def numT (s:ByteArray) (i:Nat):Nat:=numL (s.data.toList.take i)
theorem numT_step {s:ByteArray}{i:Nat} (h:i<s.size):numT s (i+1)=10*numT s i+(s[i].toNat - 48):=by
 unfold numT
 rw [numL_take (by rw [toL_len];exact h),toL_get h]
theorem numT_all (s:ByteArray):numT s s.size=numL s.data.toList:=by
 unfold numT
 rw [List.take_of_length_le (by rw [toL_len];exact Nat.le_refl _)]
theorem numT_lt {s:ByteArray}{i:Nat} (hi:i≤s.size) (h:∀ (j:Nat) (hj:j<s.size),j<i→digP s[j]):numT s i<10 ^ i:=by
 have h1:=numL_lt (s.data.toList.take i) fun c hc=>by
  obtain ⟨j,hj,rfl⟩:=List.getElem_of_mem hc
  have hj':j<i∧j<s.size:=by
   rw [List.length_take,toL_len] at hj
   omega
  rw [List.getElem_take,toL_get hj'.2]
  exact h j hj'.2 hj'.1
 rwa [List.length_take,toL_len,Nat.min_eq_left hi] at h1
theorem pow_13 {i:Nat} (h:i≤13):10 ^ i≤10000000000000:=by
 have:(10:Nat) ^ i≤10 ^ 13:=Nat.pow_le_pow_right (by decide) h
 simpa using this
theorem digs_all {s:ByteArray} (h:∀ (j:Nat) (hj:j<s.size),digP s[j]):∀ c∈s.data.toList,digP c:=fun c hc=>by
 obtain ⟨j,hj,rfl⟩:=List.getElem_of_mem hc
 have hj':j<s.size:=by rw [toL_len] at hj;exact hj
 rw [toL_get hj']
 exact h j hj'
theorem parP_big {s:ByteArray} (h:1000000000000<numT s s.size):parP s=none:=by
 unfold parP
 rw [if_neg]
 intro hc
 have:=hc.2.2.2
 rw [numT_all] at h
 omega
theorem parP_yes {s:ByteArray} (h1:1≤s.size∧s.size≤13) (h2:∀ (j:Nat) (hj:j<s.size),digP s[j]) (h3:¬(s[0]'(by omega)=48∧1<s.size)) (h4:numT s s.size≤1000000000000):parP s=some (numT s s.size):=by
 rw [numT_all] at h4 ⊢
 unfold parP
 rw [if_pos]
 refine ⟨by rw [toL_len];exact h1,digs_all h2,fun h=>h3 ⟨?_,by have:=h.2;rwa [toL_len] at this⟩,h4⟩
 have:=h.1
 rw [get0 (by omega)] at this
 exact Option.some.inj this
theorem fmt_numT {s:ByteArray} (h1:1≤s.size∧s.size≤13) (h2:∀ (j:Nat) (hj:j<s.size),digP s[j]) (h4:numT s s.size≤1000000000000):fmtN (numT s s.size)=s↔parP s=some (numT s s.size):=fmt_par h4
theorem parP_num {s:ByteArray} (h1:1≤s.size∧s.size≤13) (h2:∀ (j:Nat) (hj:j<s.size),digP s[j]) (h4:numT s s.size≤1000000000000) (h:parP s≠some (numT s s.size)):parP s=none:=by
 by_cases h3:s[0]'(by omega)=48∧1<s.size
 ·exact parP_zero h3.2 h3.1
 ·exact absurd (parP_yes h1 h2 h3 h4) h
theorem digP_iff (c:UInt8):(decide ((48:Int)≤(c.toNat:Int)) && decide ((c.toNat:Int)≤57))=true↔digP c:=by
 unfold digP
 simp only [Bool.and_eq_true,decide_eq_true_eq]
 omega
theorem dig_wrap {c:UInt8} (h:digP c):IntKind.u8.wrap ((c.toNat:Int) - 48)=((c.toNat - 48:Nat):Int):=by
 have h1:∀ m:Int,IntKind.u8.wrap m=m % 256:=fun m=>by simp [IntKind.wrap,IntKind.bits,IntKind.signed]
 unfold digP at h
 rw [h1]
 omega
end Go.Proofs.YtomfggmmhkpeeaaGreatDoor.Eng
