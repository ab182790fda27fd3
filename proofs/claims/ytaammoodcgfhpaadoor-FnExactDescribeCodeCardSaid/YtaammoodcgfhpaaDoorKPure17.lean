/-
 Plain functions: default values, migrating a value from one rule to another.
-/
import Derived.Test.YtaammoodcgfhpaaDoorKP2
import Derived.Test.YtaammoodcgfhpaaDoorKN38A
set_option linter.unusedSimpArgs false
set_option linter.unusedVariables false
set_option linter.defProp false
set_option maxRecDepth 100000
set_option maxHeartbeats 4000000
namespace Go.Proofs.YtaammoodcgfhpaaDoor
open Go.RowKit

def dflt (D:List RuleD):Nat→Int→V
 | 0,_=>V0
 | f+1,i=>
  let r:=ruleD D i
  if r.kind=3 then .mk 0 (List.replicate r.size.toNat 0) []
  else if r.kind=6∨r.kind=9 then .mk 0 [] (r.kids.map (dflt D f))
  else if r.kind=7 then .mk (r.tags.headD 0) [] [dflt D f (kid1 r)]
  else V0
section
variable {D:List RuleD}{r:RuleD}{i:Int}{f:Nat}
end
/-! ### Migrating -/
def allM (g:Nat→V × Bool):Nat→Nat→List V × Bool
 | 0,_=>([],true)
 | c+1,i=>if (g i).2=true then ((g i).1::(allM g c (i+1)).1,(allM g c (i+1)).2) else ([],false)
def joinM (out:List V) (z:List V × Bool):List V × Bool:=(out++z.1,z.2)
def nameIx (l:List ByteArray) (s:ByteArray):Option Nat:=l.findIdx? fun t=>decide (t=s)
def fixB (bs:List UInt8) (n:Nat):List UInt8:=bs.take n++List.replicate (n - bs.length) 0
def mfin (B:List RuleD) (b:Int) (z:V × Bool):V × Bool:=if z.2=true∧validV B b z.1=true then (z.1,true) else (V0,false)
def partM (f:Int→Int→V→V × Bool) (B:List RuleD) (x y:RuleD) (vs:List V) (i:Nat):V × Bool:=
 match nameIx x.names (y.names.getD i .empty) with
 | none=>(dflt B B.length (y.kids.getD i 0),true)
 | some k=>f (x.kids.getD k 0) (y.kids.getD i 0) (vs.getD k V0)
def alikeM (f:Int→Int→V→V × Bool) (B:List RuleD) (x y:RuleD) (n:Int) (bs:List UInt8) (vs:List V):V × Bool:=
 if x.kind=6 then let l:=allM (partM f B x y vs) y.names.length 0;if l.2=true then (.mk 0 [] l.1,true) else (V0,false)
 else if x.kind=3 then (.mk 0 (fixB bs y.size.toNat) [],true)
 else if x.kind=5 then let l:=allM (fun i=>f (kid1 x) (kid1 y) (vs.getD i V0)) vs.length 0;(.mk 0 [] l.1,l.2)
 else if x.kind=8∨x.kind=9 then let l:=allM (fun i=>f (kid0 x) (kid0 y) (vs.getD i V0)) vs.length 0;(.mk 0 [] l.1,l.2)
 else if x.kind=7 then
  if itemK y n 0<0 then (V0,false)
  else let l:=allM (fun i=>f (itemK x n 0) (itemK y n 0) (vs.getD i V0)) vs.length 0;(.mk n [] l.1,l.2)
 else (.mk n bs [],true)
def isTx (k:Int):Bool:=decide (k=4) || decide (k=10)
def preM (f:Int→Int→V→V × Bool) (A B:List RuleD) (a b:Int) (n:Int) (bs:List UInt8) (vs:List V):V × Bool:=
 if (ruleD A a).kind=(ruleD B b).kind then alikeM f B (ruleD A a) (ruleD B b) n bs vs
 else if (isTx (ruleD A a).kind && isTx (ruleD B b).kind)=true then (.mk 0 bs [],true)
 else if (ruleD B b).kind=8 then (.mk 0 [] [(f a (kid0 (ruleD B b)) (.mk n bs vs)).1],(f a (kid0 (ruleD B b)) (.mk n bs vs)).2)
 else if (ruleD A a).kind=8∧vs.length=1 then f (kid0 (ruleD A a)) b (vs.getD 0 V0)
 else (V0,false)
def mig (A B:List RuleD):Nat→Int→Int→V→V × Bool
 | 0,_,_,_=>(V0,false)
 | f+1,a,b,.mk n bs vs=>mfin B b (preM (mig A B f) A B a b n bs vs)
end Go.Proofs.YtaammoodcgfhpaaDoor
