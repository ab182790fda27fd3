/-
 Plain functions: the first place and byte that make a file.

 Plain functions: repairs.
-/
import Derived.Test.YtndnefealooolaaGreatDoorKP
set_option linter.unusedSimpArgs false
set_option linter.unusedVariables false
set_option linter.defProp false
set_option maxRecDepth 100000
set_option maxHeartbeats 4000000
namespace Go.Proofs.YtndnefealooolaaGreatDoor
open Go.RowKit

def fstN (p:Nat→Bool) (m:Nat):Option Nat:=(List.range m).find? p
def fstP (p:Nat→Nat→Bool) (n m:Nat):Option (Nat × Nat):=(List.range n).findSome? fun i=>(fstN (p i) m).map fun k=>(i,k)
theorem fstN_hit {p:Nat→Bool}{m k:Nat} (hk:k<m) (h:p k=true) (hb:∀ j,j<k→p j=false):fstN p m=some k:=by
 unfold fstN
 rw [List.find?_eq_some_iff_getElem]
 refine ⟨h,k,by simpa using hk,by simp,fun j hj=>?_⟩
 simp [hb j hj]
theorem fstN_none {p:Nat→Bool}{m:Nat} (h:∀ j,j<m→p j=false):fstN p m=none:=by
 unfold fstN
 rw [List.find?_eq_none]
 intro x hx
 simp [h x (by simpa using hx)]
theorem range_split {n i:Nat} (h:i<n):List.range n=List.range i++i::(List.range (n - (i+1))).map (fun x=>i+1+x):=by
 conv=>lhs;rw [show n=i+(1+(n - (i+1))) by omega]
 rw [List.range_add,List.range_add]
 simp [List.map_map,Function.comp_def,Nat.add_assoc]
theorem fstP_hit {p:Nat→Nat→Bool}{n m i k:Nat} (hi:i<n) (hk:k<m) (h:p i k=true) (hb:∀ j,j<k→p i j=false) (ha:∀ i' j,i'<i→j<m→p i' j=false):fstP p n m=some (i,k):=by
 unfold fstP
 rw [range_split hi,List.findSome?_append]
 have h1:(List.range i).findSome? (fun i=>(fstN (p i) m).map fun k=>(i,k))=none:=by
  rw [List.findSome?_eq_none_iff]
  intro x hx
  rw [fstN_none fun j hj=>ha x j (by simpa using hx) hj]
  rfl
 rw [h1,List.findSome?_cons,fstN_hit hk h hb]
 rfl
theorem fstP_none {p:Nat→Nat→Bool}{n m:Nat} (h:∀ i j,i<n→j<m→p i j=false):fstP p n m=none:=by
 unfold fstP
 rw [List.findSome?_eq_none_iff]
 intro x hx
 rw [fstN_none fun j hj=>h x j (by simpa using hx) hj]
 rfl
def cutB (b:List UInt8) (at_ n:Nat) (new:List UInt8):List UInt8:=b.take at_++new++b.drop (at_+n)
def mutR (b:List UInt8) (kind i c:Int):List UInt8 × Bool:=
 if i<0∨c<0∨255<c then (b,false)
 else if kind=1∧i<b.length then (cutB b i.toNat 1 [UInt8.ofNat c.toNat],true)
 else if kind=2∧i≤b.length then (cutB b i.toNat 0 [UInt8.ofNat c.toNat],true)
 else if kind=3∧i<b.length∧c=0 then (cutB b i.toNat 1 [],true)
 else (b,false)
theorem cutB_len {b new:List UInt8}{a n:Nat} (h:a+n≤b.length):(cutB b a n new).length+n=b.length+new.length:=by
 unfold cutB
 rw [List.length_append,List.length_append,List.length_take,List.length_drop]
 omega
theorem mutR_len (b:List UInt8) (kind i c:Int):(mutR b kind i c).1.length≤b.length+1:=by
 unfold mutR
 split
 ·simp
 ·split
  ·rename_i h1 h2
   have:=cutB_len (b:=b) (new:=[UInt8.ofNat c.toNat]) (a:=i.toNat) (n:=1) (by omega)
   simp only [List.length_singleton] at this
   simp only
   omega
  ·split
   ·rename_i h1 h2 h3
    have:=cutB_len (b:=b) (new:=[UInt8.ofNat c.toNat]) (a:=i.toNat) (n:=0) (by omega)
    simp only [List.length_singleton] at this
    simp only
    omega
   ·split
    ·rename_i h1 h2 h3 h4
     have:=cutB_len (b:=b) (new:=[]) (a:=i.toNat) (n:=1) (by omega)
     simp only [List.length_nil] at this
     simp only
     omega
    ·simp
theorem set_cut {b:List UInt8}{i:Nat} (h:i<b.length) (c:UInt8):b.set i c=cutB b i 1 [c]:=by
 unfold cutB
 rw [List.set_eq_take_append_cons_drop,if_pos h]
 simp
end Go.Proofs.YtndnefealooolaaGreatDoor
namespace Go.Proofs.YtndnefealooolaaGreatDoor
open Go.RowKit

abbrev Mut:=Int × Int × Int
def tryR (F:List UInt8→Bool) (b:List UInt8) (kind:Int) (n m:Nat):Option (List UInt8 × Mut):=
 (fstP (fun i c=>(mutR b kind i c).2 && F (mutR b kind i c).1) n m).map fun x=>((mutR b kind x.1 x.2).1,(kind,(x.1:Int),(x.2:Int)))
def tryX (F:List UInt8→Bool) (b:List UInt8) (kind:Int) (n m:Nat):List UInt8 × Mut × Bool:=match tryR F b kind n m with
 | some x=>(x.1,x.2,true)
 | none=>(b,(0,0,0),false)
def repR (F:List UInt8→Bool) (b:List UInt8):List UInt8 × Mut × Bool:=
 if 40<b.length then (b,(0,0,0),false)
 else if F b=true then (b,(0,0,0),true)
 else tryX F b 1 b.length 256
def repL (F:List UInt8→Bool) (b:List UInt8):List UInt8 × Mut × Bool:=
 if 40<b.length then (b,(0,0,0),false)
 else if F b=true then (b,(0,0,0),true)
 else if (tryX F b 3 b.length 1).2.2=true then tryX F b 3 b.length 1
 else tryX F b 2 (b.length+1) 256
theorem tryR_hit {F:List UInt8→Bool}{b:List UInt8}{kind:Int}{n m i k:Nat} (hi:i<n) (hk:k<m) (h:((mutR b kind i k).2 && F (mutR b kind i k).1)=true) (hb:∀ j,j<k→((mutR b kind i j).2 && F (mutR b kind i j).1)=false)
  (ha:∀ i' j,i'<i→j<m→((mutR b kind i' j).2 && F (mutR b kind i' j).1)=false):tryR F b kind n m=some ((mutR b kind i k).1,(kind,(i:Int),(k:Int))):=by
 unfold tryR
 rw [fstP_hit hi hk (by exact h) (fun j hj=>hb j hj) (fun i' j h1 h2=>ha i' j h1 h2)]
 rfl
theorem tryR_none {F:List UInt8→Bool}{b:List UInt8}{kind:Int}{n m:Nat} (h:∀ i j,i<n→j<m→((mutR b kind i j).2 && F (mutR b kind i j).1)=false):tryR F b kind n m=none:=by
 unfold tryR
 rw [fstP_none h]
 rfl
theorem tryX_hit {F:List UInt8→Bool}{b:List UInt8}{kind:Int}{n m i k:Nat} (hi:i<n) (hk:k<m) (h:((mutR b kind i k).2 && F (mutR b kind i k).1)=true) (hb:∀ j,j<k→((mutR b kind i j).2 && F (mutR b kind i j).1)=false)
  (ha:∀ i' j,i'<i→j<m→((mutR b kind i' j).2 && F (mutR b kind i' j).1)=false):tryX F b kind n m=((mutR b kind i k).1,(kind,(i:Int),(k:Int)),true):=by
 unfold tryX
 rw [tryR_hit hi hk h hb ha]
theorem tryX_none {F:List UInt8→Bool}{b:List UInt8}{kind:Int}{n m:Nat} (h:∀ i j,i<n→j<m→((mutR b kind i j).2 && F (mutR b kind i j).1)=false):tryX F b kind n m=(b,(0,0,0),false):=by
 unfold tryX
 rw [tryR_none h]
theorem mutR_1 {b:List UInt8}{i c:Nat} (hi:i<b.length) (hc:c≤255):mutR b 1 i c=(cutB b i 1 [UInt8.ofNat c],true):=by
 unfold mutR
 rw [if_neg (by omega),if_pos ⟨rfl,by omega⟩]
 simp
theorem mutR_2 {b:List UInt8}{i c:Nat} (hi:i≤b.length) (hc:c≤255):mutR b 2 i c=(cutB b i 0 [UInt8.ofNat c],true):=by
 unfold mutR
 rw [if_neg (by omega),if_neg (by omega),if_pos ⟨rfl,by omega⟩]
 simp
theorem mutR_3 {b:List UInt8}{i:Nat} (hi:i<b.length):mutR b 3 i 0=(cutB b i 1 [],true):=by
 unfold mutR
 rw [if_neg (by omega),if_neg (by omega),if_neg (by omega),if_pos ⟨rfl,by omega,rfl⟩]
 simp
end Go.Proofs.YtndnefealooolaaGreatDoor
