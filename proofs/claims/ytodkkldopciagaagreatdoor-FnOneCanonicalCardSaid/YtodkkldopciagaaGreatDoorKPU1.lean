/-
 Plain functions: the rules that a rule uses.
-/
import Derived.Test.YtodkkldopciagaaGreatDoorKPL6
set_option linter.unusedSimpArgs false
set_option linter.unusedVariables false
set_option linter.defProp false
set_option maxRecDepth 100000
set_option maxHeartbeats 4000000
namespace Go.Proofs.YtodkkldopciagaaGreatDoor.Eng
open Go.RowKit

def useK (u:List Bool) (ks:List Int):List Bool:=ks.foldl (fun u k=>u.set k.toNat true) u
theorem useK_len:∀ (ks:List Int) (u:List Bool),(useK u ks).length=u.length
 | [],u=>rfl
 | k::ks,u=>by
  have:=useK_len ks (u.set k.toNat true)
  rw [List.length_set] at this
  exact this
theorem useK_snoc (u:List Bool) (ks:List Int) (k:Int):useK u (ks++[k])=(useK u ks).set k.toNat true:=by
 unfold useK
 rw [List.foldl_append]
 rfl
theorem set_true {u:List Bool}{i j:Nat} (h:u[j]?=some true):(u.set i true)[j]?=some true:=by
 rw [List.getElem?_set]
 have:=(List.getElem?_eq_some_iff.1 h).1
 split
 ·subst_vars;rw [if_pos this]
 ·exact h
theorem useK_mono:∀ (ks:List Int) (u:List Bool) {j:Nat},u[j]?=some true→(useK u ks)[j]?=some true
 | [],u,j,h=>h
 | k::ks,u,j,h=>useK_mono ks (u.set k.toNat true) (set_true h)
theorem useK_hit:∀ (ks:List Int) (u:List Bool) {k:Int},k∈ks→k.toNat<u.length→(useK u ks)[k.toNat]?=some true
 | x::ks,u,k,h,hl=>by
  rcases List.mem_cons.1 h with rfl|h
  ·exact useK_mono ks (u.set k.toNat true) (by rw [List.getElem?_set,if_pos rfl,if_pos hl])
  ·exact useK_hit ks (u.set x.toNat true) h (by rw [List.length_set];exact hl)
theorem useK_ne:∀ (ks:List Int) (u:List Bool) {j:Nat},(∀ k∈ks,k.toNat≠j)→(useK u ks)[j]?=u[j]?
 | [],u,j,h=>rfl
 | k::ks,u,j,h=>by
  have h1:=useK_ne ks (u.set k.toNat true) (fun x hx=>h x (by simp [hx]))
  rw [List.getElem?_set_ne (h k (by simp))] at h1
  exact h1
def useS (D:List RuleD) (u:List Bool) (i:Nat):List Bool:=if u[i]?=some true then useK u (ruleD D i).kids else u
def useL (D:List RuleD):Nat→List Bool→List Bool
 | 0,u=>u
 | n+1,u=>useL D n (useS D u n)
theorem useS_len (D:List RuleD) (u:List Bool) (i:Nat):(useS D u i).length=u.length:=by
 unfold useS
 split
 ·exact useK_len _ _
 ·rfl
theorem useL_len (D:List RuleD):∀ (n:Nat) (u:List Bool),(useL D n u).length=u.length
 | 0,u=>rfl
 | n+1,u=>by rw [useL,useL_len D n,useS_len]
theorem useS_mono {D:List RuleD}{u:List Bool}{i j:Nat} (h:u[j]?=some true):(useS D u i)[j]?=some true:=by
 unfold useS
 split
 ·exact useK_mono _ _ h
 ·exact h
theorem useL_mono {D:List RuleD}:∀ (n:Nat) (u:List Bool) {j:Nat},u[j]?=some true→(useL D n u)[j]?=some true
 | 0,u,j,h=>h
 | n+1,u,j,h=>by rw [useL];exact useL_mono n _ (useS_mono h)
section
variable {D:List RuleD} (hK:∀ (i:Nat) (k:Int),k∈(ruleD D i).kids→k.toNat<i)
include hK
theorem useS_ge {u:List Bool}{i j:Nat} (h:i≤j):(useS D u i)[j]?=u[j]?:=by
 unfold useS
 split
 ·exact useK_ne _ _ fun k hk=>by have:=hK i k hk;omega
 ·rfl
theorem useL_ge:∀ (n:Nat) (u:List Bool) {j:Nat},n≤j+1→(useL D n u)[j]?=u[j]?
 | 0,u,j,_=>rfl
 | n+1,u,j,h=>by rw [useL,useL_ge n _ (by omega),useS_ge hK (by omega)]
theorem useL_closed:∀ (n:Nat) (u:List Bool),n≤u.length→∀ i,i<n→(useL D n u)[i]?=some true→∀ k∈(ruleD D i).kids,(useL D n u)[k.toNat]?=some true
 | 0,u,_,i,hi,_,_,_=>absurd hi (Nat.not_lt_zero i)
 | n+1,u,hl,i,hi,ht,k,hk=>by
  rw [useL] at ht ⊢
  by_cases e:i=n
  ·subst e
   rw [useL_ge hK i _ (by omega),useS_ge hK (Nat.le_refl i)] at ht
   refine useL_mono i _ ?_
   unfold useS
   rw [if_pos ht]
   exact useK_hit _ _ hk (by have:=hK i k hk;omega)
  ·exact useL_closed n _ (by rw [useS_len];omega) i (by omega) ht k hk
end
def usedA (D:List RuleD):List Bool:=useL D D.length ((List.replicate 24 false).set (D.length - 1) true)
theorem usedA_len (D:List RuleD):(usedA D).length=24:=by unfold usedA;rw [useL_len,List.length_set,List.length_replicate]
def usedN (D:List RuleD) (n:Nat):List Int:=((List.range n).filter fun i=>(usedA D).getD i false).map fun i:Nat=>(i:Int)
theorem usedN_t {D:List RuleD}{n:Nat} (h:(usedA D).getD n false=true):usedN D (n+1)=usedN D n++[(n:Int)]:=by
 unfold usedN
 rw [List.range_succ,List.filter_append,List.map_append,List.filter_cons_of_pos (by simpa using h)]
 rfl
theorem usedN_f {D:List RuleD}{n:Nat} (h:(usedA D).getD n false=false):usedN D (n+1)=usedN D n:=by
 unfold usedN
 rw [List.range_succ,List.filter_append,List.map_append,List.filter_cons_of_neg (by simpa using h)]
 simp
theorem usedN_in {D:List RuleD}{n:Nat}{i:Int} (h:i∈usedN D n):0≤i∧i<n:=by
 unfold usedN at h
 obtain ⟨j,hj,rfl⟩:=List.mem_map.1 h
 have:=List.mem_range.1 (List.mem_filter.1 hj).1
 omega
theorem usedN_len (D:List RuleD) (n:Nat):(usedN D n).length≤n:=by
 unfold usedN
 rw [List.length_map]
 have:=List.length_filter_le (fun i=>(usedA D).getD i false) (List.range n)
 rwa [List.length_range] at this
noncomputable def binP (D:List RuleD):Bool:=vDesc D && (usedN D D.length).all fun i=>decide ((ruleD D i).kind≠10)
theorem binP_used {D:List RuleD} (h:binP D=true):∃ U:Nat→Prop,(∀ (i:Nat) (r:RuleD),U i→D[i]?=some r→r.kind≠10∧∀ x∈r.kids,U x.toNat)∧U (D.length - 1):=by
 unfold binP at h
 rw [Bool.and_eq_true] at h
 obtain ⟨hv,ha⟩:=h
 have hV:=descP_of hv
 have hl:=hV.1.1
 have hK:∀ (i:Nat) (k:Int),k∈(ruleD D i).kids→k.toNat<i:=fun i k hk=>by
  by_cases hi:i<D.length
  ·have hr:=List.getElem?_eq_getElem hi
   rw [ruleD_get hr] at hk
   have G:GoodR D i D[i]:=good_of hV hr
   obtain ⟨j,hj,rfl⟩:=List.getElem_of_mem hk
   have:=G.kid j hj
   omega
  ·exfalso
   unfold ruleD ruleAt at hk
   rw [if_pos (by omega),Int.toNat_natCast,List.getElem?_eq_none (by omega)] at hk
   cases hk
 refine ⟨fun i=>(usedA D)[i]?=some true,fun i r hu hr=>⟨?_,fun x hx=>?_⟩,?_⟩
 ·have hi:=(List.getElem?_eq_some_iff.1 hr).1
  have hm:(i:Int)∈usedN D D.length:=by
   unfold usedN
   refine List.mem_map.2 ⟨i,List.mem_filter.2 ⟨List.mem_range.2 hi,?_⟩,rfl⟩
   rw [List.getD_eq_getElem?_getD,hu]
   first|done|rfl
  have:=List.all_eq_true.1 ha _ hm
  rw [ruleD_get hr] at this
  simpa using this
 ·have hi:=(List.getElem?_eq_some_iff.1 hr).1
  rw [←ruleD_get hr] at hx
  exact useL_closed hK D.length _ (by rw [List.length_set,List.length_replicate];exact hV.1.2) i hi hu x hx
 ·show (usedA D)[D.length - 1]?=some true
  unfold usedA
  refine useL_mono _ _ ?_
  rw [List.getElem?_set,if_pos rfl,if_pos (by rw [List.length_replicate];have:=hV.1.2;omega)]
end Go.Proofs.YtodkkldopciagaaGreatDoor.Eng
