/-
 Plain functions: numbers that follow from numbers.

 Plain functions: the first place and byte that make a file.

 Plain functions: repairs.

 Plain functions: mutations that are drawn; the distance of two texts; what a repair by one byte is.
-/
import Derived.Test.YtndnefealooolaaGreatDoorKPD
import Derived.Test.YtndnefealooolaaGreatDoorKP
set_option linter.unusedSimpArgs false
set_option linter.unusedVariables false
set_option linter.defProp false
set_option maxRecDepth 100000
set_option maxHeartbeats 4000000
namespace Go.Proofs.YtndnefealooolaaGreatDoor.Eng
open Go.RowKit

def modM (s:Int):Int:=(s.tmod 2147483647+2147483647).tmod 2147483647
theorem tmodM (s:Int):-2147483647<s.tmod 2147483647∧s.tmod 2147483647<2147483647:=⟨Int.lt_tmod_of_pos _ (by omega),Int.tmod_lt_of_pos _ (by omega)⟩
theorem modM_in (s:Int):0≤modM s∧modM s<2147483647:=by
 unfold modM
 have:=tmodM s
 rw [Int.tmod_eq_emod_of_nonneg (by omega)]
 omega
def nxtN (s:Int):Int:=if (modM s*48271).tmod 2147483647=0 then 1 else (modM s*48271).tmod 2147483647
theorem nxtN_in (s:Int):1≤nxtN s∧nxtN s≤2147483646:=by
 have h:=modM_in s
 unfold nxtN
 generalize modM s=m at h
 rw [Int.tmod_eq_emod_of_nonneg (by omega)]
 split<;>omega
end Go.Proofs.YtndnefealooolaaGreatDoor.Eng
namespace Go.Proofs.YtndnefealooolaaGreatDoor
open Go.RowKit

def fstN (p:Nat→Bool) (m:Nat):Option Nat:=(List.range m).find? p
def fstP (p:Nat→Nat→Bool) (n m:Nat):Option (Nat × Nat):=(List.range n).findSome? fun i=>(fstN (p i) m).map fun k=>(i,k)
theorem fstN_hit {p:Nat→Bool}{m k:Nat} (hk:k<m) (h:p k=true) (hb:∀ j,j<k→p j=false):fstN p m=some k:=by
 unfold fstN
 rw [List.find?_eq_some_iff_getElem]
 refine ⟨h,k,by simpa using hk,by simp,fun j hj=>?_⟩
 simp [hb j hj]
theorem fstN_none {p:Nat→Bool}{m:Nat} (h:∀ j,j<m→p j=false):fstN p m=none:=by
 unfold fstN
 rw [List.find?_eq_none]
 intro x hx
 simp [h x (by simpa using hx)]
theorem range_split {n i:Nat} (h:i<n):List.range n=List.range i++i::(List.range (n - (i+1))).map (fun x=>i+1+x):=by
 conv=>lhs;rw [show n=i+(1+(n - (i+1))) by omega]
 rw [List.range_add,List.range_add]
 simp [List.map_map,Function.comp_def,Nat.add_assoc]
theorem fstP_hit {p:Nat→Nat→Bool}{n m i k:Nat} (hi:i<n) (hk:k<m) (h:p i k=true) (hb:∀ j,j<k→p i j=false) (ha:∀ i' j,i'<i→j<m→p i' j=false):fstP p n m=some (i,k):=by
 unfold fstP
 rw [range_split hi,List.findSome?_append]
 have h1:(List.range i).findSome? (fun i=>(fstN (p i) m).map fun k=>(i,k))=none:=by
  rw [List.findSome?_eq_none_iff]
  intro x hx
  rw [fstN_none fun j hj=>ha x j (by simpa using hx) hj]
  rfl
 rw [h1,List.findSome?_cons,fstN_hit hk h hb]
 rfl
theorem fstP_none {p:Nat→Nat→Bool}{n m:Nat} (h:∀ i j,i<n→j<m→p i j=false):fstP p n m=none:=by
 unfold fstP
 rw [List.findSome?_eq_none_iff]
 intro x hx
 rw [fstN_none fun j hj=>h x j (by simpa using hx) hj]
 rfl
def cutB (b:List UInt8) (at_ n:Nat) (new:List UInt8):List UInt8:=b.take at_++new++b.drop (at_+n)
def mutR (b:List UInt8) (kind i c:Int):List UInt8 × Bool:=
 if i<0∨c<0∨255<c then (b,false)
 else if kind=1∧i<b.length then (cutB b i.toNat 1 [UInt8.ofNat c.toNat],true)
 else if kind=2∧i≤b.length then (cutB b i.toNat 0 [UInt8.ofNat c.toNat],true)
 else if kind=3∧i<b.length∧c=0 then (cutB b i.toNat 1 [],true)
 else (b,false)
theorem cutB_len {b new:List UInt8}{a n:Nat} (h:a+n≤b.length):(cutB b a n new).length+n=b.length+new.length:=by
 unfold cutB
 rw [List.length_append,List.length_append,List.length_take,List.length_drop]
 omega
theorem mutR_len (b:List UInt8) (kind i c:Int):(mutR b kind i c).1.length≤b.length+1:=by
 unfold mutR
 split
 ·simp
 ·split
  ·rename_i h1 h2
   have:=cutB_len (b:=b) (new:=[UInt8.ofNat c.toNat]) (a:=i.toNat) (n:=1) (by omega)
   simp only [List.length_singleton] at this
   simp only
   omega
  ·split
   ·rename_i h1 h2 h3
    have:=cutB_len (b:=b) (new:=[UInt8.ofNat c.toNat]) (a:=i.toNat) (n:=0) (by omega)
    simp only [List.length_singleton] at this
    simp only
    omega
   ·split
    ·rename_i h1 h2 h3 h4
     have:=cutB_len (b:=b) (new:=[]) (a:=i.toNat) (n:=1) (by omega)
     simp only [List.length_nil] at this
     simp only
     omega
    ·simp
theorem set_cut {b:List UInt8}{i:Nat} (h:i<b.length) (c:UInt8):b.set i c=cutB b i 1 [c]:=by
 unfold cutB
 rw [List.set_eq_take_append_cons_drop,if_pos h]
 simp
end Go.Proofs.YtndnefealooolaaGreatDoor
namespace Go.Proofs.YtndnefealooolaaGreatDoor
open Go.RowKit

abbrev Mut:=Int × Int × Int
def tryR (F:List UInt8→Bool) (b:List UInt8) (kind:Int) (n m:Nat):Option (List UInt8 × Mut):=
 (fstP (fun i c=>(mutR b kind i c).2 && F (mutR b kind i c).1) n m).map fun x=>((mutR b kind x.1 x.2).1,(kind,(x.1:Int),(x.2:Int)))
def tryX (F:List UInt8→Bool) (b:List UInt8) (kind:Int) (n m:Nat):List UInt8 × Mut × Bool:=match tryR F b kind n m with
 | some x=>(x.1,x.2,true)
 | none=>(b,(0,0,0),false)
def repR (F:List UInt8→Bool) (b:List UInt8):List UInt8 × Mut × Bool:=
 if 40<b.length then (b,(0,0,0),false)
 else if F b=true then (b,(0,0,0),true)
 else tryX F b 1 b.length 256
def repL (F:List UInt8→Bool) (b:List UInt8):List UInt8 × Mut × Bool:=
 if 40<b.length then (b,(0,0,0),false)
 else if F b=true then (b,(0,0,0),true)
 else if (tryX F b 3 b.length 1).2.2=true then tryX F b 3 b.length 1
 else tryX F b 2 (b.length+1) 256
theorem tryR_hit {F:List UInt8→Bool}{b:List UInt8}{kind:Int}{n m i k:Nat} (hi:i<n) (hk:k<m) (h:((mutR b kind i k).2 && F (mutR b kind i k).1)=true) (hb:∀ j,j<k→((mutR b kind i j).2 && F (mutR b kind i j).1)=false)
  (ha:∀ i' j,i'<i→j<m→((mutR b kind i' j).2 && F (mutR b kind i' j).1)=false):tryR F b kind n m=some ((mutR b kind i k).1,(kind,(i:Int),(k:Int))):=by
 unfold tryR
 rw [fstP_hit hi hk (by exact h) (fun j hj=>hb j hj) (fun i' j h1 h2=>ha i' j h1 h2)]
 rfl
theorem tryR_none {F:List UInt8→Bool}{b:List UInt8}{kind:Int}{n m:Nat} (h:∀ i j,i<n→j<m→((mutR b kind i j).2 && F (mutR b kind i j).1)=false):tryR F b kind n m=none:=by
 unfold tryR
 rw [fstP_none h]
 rfl
theorem tryX_hit {F:List UInt8→Bool}{b:List UInt8}{kind:Int}{n m i k:Nat} (hi:i<n) (hk:k<m) (h:((mutR b kind i k).2 && F (mutR b kind i k).1)=true) (hb:∀ j,j<k→((mutR b kind i j).2 && F (mutR b kind i j).1)=false)
  (ha:∀ i' j,i'<i→j<m→((mutR b kind i' j).2 && F (mutR b kind i' j).1)=false):tryX F b kind n m=((mutR b kind i k).1,(kind,(i:Int),(k:Int)),true):=by
 unfold tryX
 rw [tryR_hit hi hk h hb ha]
theorem tryX_none {F:List UInt8→Bool}{b:List UInt8}{kind:Int}{n m:Nat} (h:∀ i j,i<n→j<m→((mutR b kind i j).2 && F (mutR b kind i j).1)=false):tryX F b kind n m=(b,(0,0,0),false):=by
 unfold tryX
 rw [tryR_none h]
theorem mutR_1 {b:List UInt8}{i c:Nat} (hi:i<b.length) (hc:c≤255):mutR b 1 i c=(cutB b i 1 [UInt8.ofNat c],true):=by
 unfold mutR
 rw [if_neg (by omega),if_pos ⟨rfl,by omega⟩]
 simp
theorem mutR_2 {b:List UInt8}{i c:Nat} (hi:i≤b.length) (hc:c≤255):mutR b 2 i c=(cutB b i 0 [UInt8.ofNat c],true):=by
 unfold mutR
 rw [if_neg (by omega),if_neg (by omega),if_pos ⟨rfl,by omega⟩]
 simp
theorem mutR_3 {b:List UInt8}{i:Nat} (hi:i<b.length):mutR b 3 i 0=(cutB b i 1 [],true):=by
 unfold mutR
 rw [if_neg (by omega),if_neg (by omega),if_neg (by omega),if_pos ⟨rfl,by omega,rfl⟩]
 simp
end Go.Proofs.YtndnefealooolaaGreatDoor
namespace Go.Proofs.YtndnefealooolaaGreatDoor.Eng
open Go.RowKit

def mutO (n:Nat) (s:Int):Mut:=
 if 400<n then (0,0,0)
 else if n=0 then (2,(nxtN (nxtN s)).tmod 1,(nxtN (nxtN (nxtN s))).tmod 256)
 else if (nxtN s).tmod 3=0 then (1,(nxtN (nxtN s)).tmod n,(nxtN (nxtN (nxtN s))).tmod 256)
 else if (nxtN s).tmod 3=1 then (2,(nxtN (nxtN s)).tmod (n+1),(nxtN (nxtN (nxtN s))).tmod 256)
 else (1+(nxtN s).tmod 3,(nxtN (nxtN s)).tmod n,0)
def mutN:Nat→Int→List UInt8→List UInt8
 | 0,_,b=>b
 | n+1,s,b=>mutN n (s+1) (mutR b (mutO b.length s).1 (mutO b.length s).2.1 (mutO b.length s).2.2).1
theorem mutN_len:∀ (n:Nat) (s:Int) (b:List UInt8),(mutN n s b).length≤b.length+n
 | 0,s,b=>by rw [mutN];omega
 | n+1,s,b=>by
  rw [mutN]
  have h1:=mutN_len n (s+1) (mutR b (mutO b.length s).1 (mutO b.length s).2.1 (mutO b.length s).2.2).1
  have h2:=mutR_len b (mutO b.length s).1 (mutO b.length s).2.1 (mutO b.length s).2.2
  omega
def mutM (b:List UInt8) (s:Int) (count:Nat):List UInt8:=if b.length≤380 then mutN (min count 20) s b else b
def dE (a b:List UInt8):Nat→Nat→Int
 | 0,k=>k
 | i+1,0=>i+1
 | i+1,k+1=>min (dE a b i k+if a[i]?=b[k]? then 0 else 1) (min (dE a b i (k+1)) (dE a b (i+1) k)+1)
theorem dE_0 (a b:List UInt8) (k:Nat):dE a b 0 k=k:=by rw [dE]
theorem dE_n0 (a b:List UInt8) (i:Nat):dE a b (i+1) 0=(i+1:Nat):=by rw [dE];rfl
theorem dE_nn (a b:List UInt8) (i k:Nat):dE a b (i+1) (k+1)=min (dE a b i k+if a[i]?=b[k]? then 0 else 1) (min (dE a b i (k+1)) (dE a b (i+1) k)+1):=by rw [dE]
theorem dE_in (a b:List UInt8):∀ i k,0≤dE a b i k∧dE a b i k≤i+k
 | 0,k=>by rw [dE_0];omega
 | i+1,0=>by rw [dE_n0];omega
 | i+1,k+1=>by
  have h1:=dE_in a b i k
  have h2:=dE_in a b i (k+1)
  have h3:=dE_in a b (i+1) k
  rw [dE_nn]
  split<;>omega
theorem dE_same (b:List UInt8):∀ i,dE b b i i≤0
 | 0=>by rw [dE_0];simp
 | i+1=>by
  have h:=dE_same b i
  rw [dE_nn,if_pos rfl]
  omega
section
variable {F:List UInt8→Bool}{b:List UInt8}
theorem fstN_none' {p:Nat→Bool}{m:Nat} (h:fstN p m=none):∀ j,j<m→p j=false:=fun j hj=>by
 unfold fstN at h
 rw [List.find?_eq_none] at h
 have:=h j (by simpa using hj)
 simpa using this
theorem fstN_some' {p:Nat→Bool}{m k:Nat} (h:fstN p m=some k):k<m∧p k=true:=by
 unfold fstN at h
 exact ⟨by simpa using List.mem_of_find?_eq_some h,List.find?_some h⟩
theorem fstP_none' {p:Nat→Nat→Bool}{n m:Nat} (h:fstP p n m=none):∀ i j,i<n→j<m→p i j=false:=fun i j hi hj=>by
 unfold fstP at h
 rw [List.findSome?_eq_none_iff] at h
 have:=h i (by simpa using hi)
 rw [Option.map_eq_none_iff] at this
 exact fstN_none' this j hj
theorem fstP_some' {p:Nat→Nat→Bool}{n m:Nat}{x:Nat × Nat} (h:fstP p n m=some x):x.1<n∧x.2<m∧p x.1 x.2=true:=by
 unfold fstP at h
 obtain ⟨i,hi,hx⟩:=List.exists_of_findSome?_eq_some h
 rw [Option.map_eq_some_iff] at hx
 obtain ⟨k,hk,rfl⟩:=hx
 obtain ⟨h1,h2⟩:=fstN_some' hk
 exact ⟨by simpa using hi,h1,h2⟩
theorem cut_set {i:Nat}{c:UInt8} (h:i<b.length):cutB b i 1 [c]=b.set i c:=by
 unfold cutB
 rw [List.set_eq_take_append_cons_drop,if_pos h,List.append_assoc]
 rfl
theorem repR_says (F:List UInt8→Bool) (b:List UInt8) :
  (repR F b=(b,(0,0,0),true)∧b.length≤40∧F b=true)∨
  (∃ i k,i<b.length∧k<256∧repR F b=(b.set i (UInt8.ofNat k),(1,(i:Int),(k:Int)),true)∧F (b.set i (UInt8.ofNat k))=true∧F b=false∧b.length≤40)∨
  (repR F b=(b,(0,0,0),false)∧(40<b.length∨∀ i k,i<b.length→k<256→F (b.set i (UInt8.ofNat k))=false)):=by
 unfold repR
 by_cases h1:40<b.length
 ·rw [if_pos h1]
  exact .inr (.inr ⟨rfl,.inl h1⟩)
 rw [if_neg h1]
 by_cases h2:F b=true
 ·rw [if_pos h2]
  exact .inl ⟨rfl,by omega,h2⟩
 rw [if_neg h2]
 unfold tryX tryR
 cases h:fstP (fun i c=>(mutR b 1 i c).2 && F (mutR b 1 i c).1) b.length 256 with
 | none=>
  refine .inr (.inr ⟨rfl,.inr fun i k hi hk=>?_⟩)
  have:=fstP_none' h i k hi hk
  rw [mutR_1 hi (by omega),cut_set hi] at this
  simpa using this
 | some x=>
  obtain ⟨h3,h4,h5⟩:=fstP_some' h
  refine .inr (.inl ⟨x.1,x.2,h3,h4,?_,?_,Bool.eq_false_iff.2 h2,by omega⟩)
  ·show ((mutR b 1 x.1 x.2).1,(1,(x.1:Int),(x.2:Int)),true)=_
   rw [mutR_1 h3 (by omega),cut_set h3]
  ·rw [mutR_1 h3 (by omega),cut_set h3] at h5
   simpa using h5
end
end Go.Proofs.YtndnefealooolaaGreatDoor.Eng
