/-
 Plain functions: numbers that follow from numbers.

 Plain functions: mutations that are drawn; the distance of two texts; what a repair by one byte is.
-/
import Derived.Test.YtndnefealooolaaGreatDoorKPD
import Derived.Test.YtndnefealooolaaGreatDoorKPR1
set_option linter.unusedSimpArgs false
set_option linter.unusedVariables false
set_option linter.defProp false
set_option maxRecDepth 100000
set_option maxHeartbeats 4000000
namespace Go.Proofs.YtndnefealooolaaGreatDoor.Eng
open Go.RowKit

def modM (s:Int):Int:=(s.tmod 2147483647+2147483647).tmod 2147483647
theorem tmodM (s:Int):-2147483647<s.tmod 2147483647∧s.tmod 2147483647<2147483647:=⟨Int.lt_tmod_of_pos _ (by omega),Int.tmod_lt_of_pos _ (by omega)⟩
theorem modM_in (s:Int):0≤modM s∧modM s<2147483647:=by
 unfold modM
 have:=tmodM s
 rw [Int.tmod_eq_emod_of_nonneg (by omega)]
 omega
def nxtN (s:Int):Int:=if (modM s*48271).tmod 2147483647=0 then 1 else (modM s*48271).tmod 2147483647
theorem nxtN_in (s:Int):1≤nxtN s∧nxtN s≤2147483646:=by
 have h:=modM_in s
 unfold nxtN
 generalize modM s=m at h
 rw [Int.tmod_eq_emod_of_nonneg (by omega)]
 split<;>omega
end Go.Proofs.YtndnefealooolaaGreatDoor.Eng
namespace Go.Proofs.YtndnefealooolaaGreatDoor.Eng
open Go.RowKit

def mutO (n:Nat) (s:Int):Mut:=
 if 400<n then (0,0,0)
 else if n=0 then (2,(nxtN (nxtN s)).tmod 1,(nxtN (nxtN (nxtN s))).tmod 256)
 else if (nxtN s).tmod 3=0 then (1,(nxtN (nxtN s)).tmod n,(nxtN (nxtN (nxtN s))).tmod 256)
 else if (nxtN s).tmod 3=1 then (2,(nxtN (nxtN s)).tmod (n+1),(nxtN (nxtN (nxtN s))).tmod 256)
 else (1+(nxtN s).tmod 3,(nxtN (nxtN s)).tmod n,0)
def mutN:Nat→Int→List UInt8→List UInt8
 | 0,_,b=>b
 | n+1,s,b=>mutN n (s+1) (mutR b (mutO b.length s).1 (mutO b.length s).2.1 (mutO b.length s).2.2).1
theorem mutN_len:∀ (n:Nat) (s:Int) (b:List UInt8),(mutN n s b).length≤b.length+n
 | 0,s,b=>by rw [mutN];omega
 | n+1,s,b=>by
  rw [mutN]
  have h1:=mutN_len n (s+1) (mutR b (mutO b.length s).1 (mutO b.length s).2.1 (mutO b.length s).2.2).1
  have h2:=mutR_len b (mutO b.length s).1 (mutO b.length s).2.1 (mutO b.length s).2.2
  omega
def mutM (b:List UInt8) (s:Int) (count:Nat):List UInt8:=if b.length≤380 then mutN (min count 20) s b else b
def dE (a b:List UInt8):Nat→Nat→Int
 | 0,k=>k
 | i+1,0=>i+1
 | i+1,k+1=>min (dE a b i k+if a[i]?=b[k]? then 0 else 1) (min (dE a b i (k+1)) (dE a b (i+1) k)+1)
theorem dE_0 (a b:List UInt8) (k:Nat):dE a b 0 k=k:=by rw [dE]
theorem dE_n0 (a b:List UInt8) (i:Nat):dE a b (i+1) 0=(i+1:Nat):=by rw [dE];rfl
theorem dE_nn (a b:List UInt8) (i k:Nat):dE a b (i+1) (k+1)=min (dE a b i k+if a[i]?=b[k]? then 0 else 1) (min (dE a b i (k+1)) (dE a b (i+1) k)+1):=by rw [dE]
theorem dE_in (a b:List UInt8):∀ i k,0≤dE a b i k∧dE a b i k≤i+k
 | 0,k=>by rw [dE_0];omega
 | i+1,0=>by rw [dE_n0];omega
 | i+1,k+1=>by
  have h1:=dE_in a b i k
  have h2:=dE_in a b i (k+1)
  have h3:=dE_in a b (i+1) k
  rw [dE_nn]
  split<;>omega
theorem dE_set (b:List UInt8) (j:Nat) (c:UInt8):∀ i,dE b (b.set j c) i i≤if j<i then 1 else 0
 | 0=>by rw [dE_0];simp
 | i+1=>by
  have h:=dE_set b j c i
  rw [dE_nn]
  by_cases e:j=i
  ·subst e
   rw [if_neg (Nat.lt_irrefl j)] at h
   rw [if_pos (Nat.lt_succ_self j)]
   split<;>omega
  ·rw [List.getElem?_set_ne e,if_pos rfl]
   by_cases hj:j<i
   ·rw [if_pos hj] at h
    rw [if_pos (by omega)]
    omega
   ·rw [if_neg hj] at h
    rw [if_neg (by omega)]
    omega
theorem dE_same (b:List UInt8):∀ i,dE b b i i≤0
 | 0=>by rw [dE_0];simp
 | i+1=>by
  have h:=dE_same b i
  rw [dE_nn,if_pos rfl]
  omega
section
variable {F:List UInt8→Bool}{b:List UInt8}
theorem fstN_none' {p:Nat→Bool}{m:Nat} (h:fstN p m=none):∀ j,j<m→p j=false:=fun j hj=>by
 unfold fstN at h
 rw [List.find?_eq_none] at h
 have:=h j (by simpa using hj)
 simpa using this
theorem fstN_some' {p:Nat→Bool}{m k:Nat} (h:fstN p m=some k):k<m∧p k=true:=by
 unfold fstN at h
 exact ⟨by simpa using List.mem_of_find?_eq_some h,List.find?_some h⟩
theorem fstP_none' {p:Nat→Nat→Bool}{n m:Nat} (h:fstP p n m=none):∀ i j,i<n→j<m→p i j=false:=fun i j hi hj=>by
 unfold fstP at h
 rw [List.findSome?_eq_none_iff] at h
 have:=h i (by simpa using hi)
 rw [Option.map_eq_none_iff] at this
 exact fstN_none' this j hj
theorem fstP_some' {p:Nat→Nat→Bool}{n m:Nat}{x:Nat × Nat} (h:fstP p n m=some x):x.1<n∧x.2<m∧p x.1 x.2=true:=by
 unfold fstP at h
 obtain ⟨i,hi,hx⟩:=List.exists_of_findSome?_eq_some h
 rw [Option.map_eq_some_iff] at hx
 obtain ⟨k,hk,rfl⟩:=hx
 obtain ⟨h1,h2⟩:=fstN_some' hk
 exact ⟨by simpa using hi,h1,h2⟩
theorem cut_set {i:Nat}{c:UInt8} (h:i<b.length):cutB b i 1 [c]=b.set i c:=by
 unfold cutB
 rw [List.set_eq_take_append_cons_drop,if_pos h,List.append_assoc]
 rfl
theorem repR_says (F:List UInt8→Bool) (b:List UInt8) :
  (repR F b=(b,(0,0,0),true)∧b.length≤40∧F b=true)∨
  (∃ i k,i<b.length∧k<256∧repR F b=(b.set i (UInt8.ofNat k),(1,(i:Int),(k:Int)),true)∧F (b.set i (UInt8.ofNat k))=true∧F b=false∧b.length≤40)∨
  (repR F b=(b,(0,0,0),false)∧(40<b.length∨∀ i k,i<b.length→k<256→F (b.set i (UInt8.ofNat k))=false)):=by
 unfold repR
 by_cases h1:40<b.length
 ·rw [if_pos h1]
  exact .inr (.inr ⟨rfl,.inl h1⟩)
 rw [if_neg h1]
 by_cases h2:F b=true
 ·rw [if_pos h2]
  exact .inl ⟨rfl,by omega,h2⟩
 rw [if_neg h2]
 unfold tryX tryR
 cases h:fstP (fun i c=>(mutR b 1 i c).2 && F (mutR b 1 i c).1) b.length 256 with
 | none=>
  refine .inr (.inr ⟨rfl,.inr fun i k hi hk=>?_⟩)
  have:=fstP_none' h i k hi hk
  rw [mutR_1 hi (by omega),cut_set hi] at this
  simpa using this
 | some x=>
  obtain ⟨h3,h4,h5⟩:=fstP_some' h
  refine .inr (.inl ⟨x.1,x.2,h3,h4,?_,?_,Bool.eq_false_iff.2 h2,by omega⟩)
  ·show ((mutR b 1 x.1 x.2).1,(1,(x.1:Int),(x.2:Int)),true)=_
   rw [mutR_1 h3 (by omega),cut_set h3]
  ·rw [mutR_1 h3 (by omega),cut_set h3] at h5
   simpa using h5
end
end Go.Proofs.YtndnefealooolaaGreatDoor.Eng
