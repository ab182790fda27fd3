/-
 Plain functions: where and in which part the reading of a file fails.
-/
import Derived.Test.YtomfggmmhkpeeaaGreatDoorKPD
import Derived.Test.YtomfggmmhkpeeaaGreatDoorKP
import Derived.Test.YtomfggmmhkpeeaaGreatDoorKPure16
set_option linter.unusedSimpArgs false
set_option linter.unusedVariables false
set_option linter.defProp false
set_option maxRecDepth 100000
set_option maxHeartbeats 4000000
namespace Go.Proofs.YtomfggmmhkpeeaaGreatDoor
open Go.RowKit

def stepT (r:RuleD) (i:Nat):ByteArray:=
 if r.kind=5 then fmtN i
 else if r.kind=6∧i<r.names.length then r.names.getD i ByteArray.empty
 else if r.kind=7∧i=0 then { data:=#[42] }
 else if r.kind=8∧i=0 then { data:=#[63] }
 else if r.kind=9∧i=0 then { data:=#[43] }
 else ByteArray.empty
def itemsAt (D:List RuleD) (r:RuleD) (b:List UInt8) (p:Nat):Option (Nat × Int × List Nat):=
 if r.kind=6 then some (p,0,r.kids.map Int.toNat)
 else if r.kind=9 then some (p,0,[(kid0 r).toNat])
 else if r.kind=8 then (if b[p]?=some 1 then some (p+1,0,[(kid0 r).toNat]) else none)
 else if r.kind=5 then (match intAt (ruleD D (kid0 r)) b p with
  | some n=>if n≤40 then some (p+(ruleD D (kid0 r)).size.toNat,0,List.replicate n (kid1 r).toNat) else none
  | none=>none)
 else if r.kind=7 then (match intAt (ruleD D (kid0 r)) b p with
  | some n=>(match tagIx r.tags n with
   | some k=>some (p+(ruleD D (kid0 r)).size.toNat,(n:Int),[(r.kids.getD (k+1) 0).toNat])
   | none=>none)
  | none=>none)
 else none
def badI (g:Nat→Nat→V × Nat × Nat):List Nat→Nat→Nat→Option (Nat × Nat × Nat)
 | [],_,_=>none
 | k::ks,i,p=>if (g k p).2.2=0 then badI g ks (i+1) (g k p).2.1 else some (i,k,p)
def endI (g:Nat→Nat→V × Nat × Nat):List Nat→Nat→Nat
 | [],p=>p
 | k::ks,p=>if (g k p).2.2=0 then endI g ks (g k p).2.1 else p
def dig (D:List RuleD) (b:List UInt8):Nat→Nat→Nat→ByteArray→ByteArray × Nat
 | 0,k,_,path=>(path,k)
 | f+1,k,p,path=>
  match itemsAt D (ruleD D k) b p with
  | none=>(path,k)
  | some (q,_,ks)=>
   match badI (rd D b D.length) ks 0 q with
   | none=>(path,k)
   | some (i,k',p')=>dig D b f k' p' (path++{ data:=#[47] }++stepT (ruleD D k) i)
end Go.Proofs.YtomfggmmhkpeeaaGreatDoor
