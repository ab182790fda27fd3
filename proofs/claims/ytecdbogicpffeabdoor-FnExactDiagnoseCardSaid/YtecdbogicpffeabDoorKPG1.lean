/-
 Plain functions: where and in which part the reading of a file fails.
-/
import Derived.Test.YtecdbogicpffeabDoorKPD
import Derived.Test.YtecdbogicpffeabDoorKP
import Derived.Test.YtecdbogicpffeabDoorKPure16
set_option linter.unusedSimpArgs false
set_option linter.unusedVariables false
set_option linter.defProp false
set_option maxRecDepth 100000
set_option maxHeartbeats 4000000
namespace Go.Proofs.YtecdbogicpffeabDoor
open Go.RowKit

def stepT (r:RuleD) (i:Nat):ByteArray:=
 if r.kind=5 then fmtN i
 else if r.kind=6∧i<r.names.length then r.names.getD i ByteArray.empty
 else if r.kind=7∧i=0 then { data:=#[42] }
 else if r.kind=8∧i=0 then { data:=#[63] }
 else if r.kind=9∧i=0 then { data:=#[43] }
 else ByteArray.empty
def itemsAt (D:List RuleD) (r:RuleD) (b:List UInt8) (p:Nat):Option (Nat × Int × List Nat):=
 if r.kind=6 then some (p,0,r.kids.map Int.toNat)
 else if r.kind=9 then some (p,0,[(kid0 r).toNat])
 else if r.kind=8 then (if b[p]?=some 1 then some (p+1,0,[(kid0 r).toNat]) else none)
 else if r.kind=5 then (match intAt (ruleD D (kid0 r)) b p with
  | some n=>if n≤40 then some (p+(ruleD D (kid0 r)).size.toNat,0,List.replicate n (kid1 r).toNat) else none
  | none=>none)
 else if r.kind=7 then (match intAt (ruleD D (kid0 r)) b p with
  | some n=>(match tagIx r.tags n with
   | some k=>some (p+(ruleD D (kid0 r)).size.toNat,(n:Int),[(r.kids.getD (k+1) 0).toNat])
   | none=>none)
  | none=>none)
 else none
def badI (g:Nat→Nat→V × Nat × Nat):List Nat→Nat→Nat→Option (Nat × Nat × Nat)
 | [],_,_=>none
 | k::ks,i,p=>if (g k p).2.2=0 then badI g ks (i+1) (g k p).2.1 else some (i,k,p)
def endI (g:Nat→Nat→V × Nat × Nat):List Nat→Nat→Nat
 | [],p=>p
 | k::ks,p=>if (g k p).2.2=0 then endI g ks (g k p).2.1 else p
def dig (D:List RuleD) (b:List UInt8):Nat→Nat→Nat→ByteArray→ByteArray × Nat
 | 0,k,_,path=>(path,k)
 | f+1,k,p,path=>
  match itemsAt D (ruleD D k) b p with
  | none=>(path,k)
  | some (q,_,ks)=>
   match badI (rd D b D.length) ks 0 q with
   | none=>(path,k)
   | some (i,k',p')=>dig D b f k' p' (path++{ data:=#[47] }++stepT (ruleD D k) i)
theorem dig_none {D:List RuleD}{b:List UInt8}{f k p:Nat}{path:ByteArray}{r:RuleD} (hr:ruleD D k=r) (h:itemsAt D r b p=none):dig D b (f+1) k p path=(path,k):=by
 rw [dig,hr,h]
theorem dig_some {D:List RuleD}{b:List UInt8}{f k p:Nat}{path:ByteArray}{r:RuleD}{q:Nat}{n:Int}{ks:List Nat} (hr:ruleD D k=r) (h:itemsAt D r b p=some (q,n,ks)) :
  dig D b (f+1) k p path=(match badI (rd D b D.length) ks 0 q with
   | none=>(path,k)
   | some (i,k',p')=>dig D b f k' p' (path++{ data:=#[47] }++stepT r i)):=by
 rw [dig,hr,h]
theorem badI_ok {g:Nat→Nat→V × Nat × Nat}{k:Nat}{ks:List Nat}{i p:Nat} (h:(g k p).2.2=0):badI g (k::ks) i p=badI g ks (i+1) (g k p).2.1:=by rw [badI,if_pos h]
theorem badI_bad {g:Nat→Nat→V × Nat × Nat}{k:Nat}{ks:List Nat}{i p:Nat} (h:(g k p).2.2≠0):badI g (k::ks) i p=some (i,k,p):=by rw [badI,if_neg h]
theorem endI_ok {g:Nat→Nat→V × Nat × Nat}{k:Nat}{ks:List Nat}{p:Nat} (h:(g k p).2.2=0):endI g (k::ks) p=endI g ks (g k p).2.1:=by rw [endI,if_pos h]
theorem badI_at {g:Nat→Nat→V × Nat × Nat}{ks:List Nat}{i p:Nat} (hi:i<ks.length) (h:(g ks[i] p).2.2=0):badI g (ks.drop i) i p=badI g (ks.drop (i+1)) (i+1) (g ks[i] p).2.1:=by
 rw [List.drop_eq_getElem_cons hi,badI_ok h]
theorem badI_at' {g:Nat→Nat→V × Nat × Nat}{ks:List Nat}{i p:Nat} (hi:i<ks.length) (h:(g ks[i] p).2.2≠0):badI g (ks.drop i) i p=some (i,ks[i],p):=by
 rw [List.drop_eq_getElem_cons hi,badI_bad h]
theorem badI_end {g:Nat→Nat→V × Nat × Nat}{ks:List Nat}{i p:Nat} (hi:¬i<ks.length):badI g (ks.drop i) i p=none:=by
 rw [List.drop_eq_nil_of_le (by omega),badI]
theorem stepT_size {r:RuleD}{M:Nat} (hM:20≤M) (hn:∀ s∈r.names,s.size≤M) {i:Nat} (hi:r.kind=5→i<100):(stepT r i).size≤M:=by
 unfold stepT
 split
 ·rename_i h
  have hi:=hi h
  unfold fmtN
  split
  ·show 1≤M;omega
  ·have one:∀ n:Nat,(dgt n).size=1:=fun _=>rfl
   by_cases h1:i / 10=0
   ·rw [fmtA_step (by omega),h1,fmtA_0,ByteArray.size_append,one]
    show 1+0≤M
    omega
   ·rw [fmtA_step (by omega),fmtA_step h1,show i / 10 / 10=0 by omega,fmtA_0,ByteArray.size_append,ByteArray.size_append,one,one]
    show 1+(1+0)≤M
    omega
 split
 ·rename_i h
  rw [show r.names.getD i ByteArray.empty=r.names[i]'(h.2) by simp [List.getD,h.2]]
  exact hn _ (List.getElem_mem _)
 split
 ·show 1≤M;omega
 split
 ·show 1≤M;omega
 split
 ·show 1≤M;omega
 ·show 0≤M;omega
end Go.Proofs.YtecdbogicpffeabDoor
