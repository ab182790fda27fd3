/-
 The last rule.

 The reference: reading a value, a file.

 Plain functions: steps of paths, the parts of a file that they lead to.

 The reference: checking.
-/
import Derived.Test.YtomfggmmhkpeeaaGreatDoorKTy
import Derived.Test.YtomfggmmhkpeeaaGreatDoorKN0
import Derived.Test.YtomfggmmhkpeeaaGreatDoorKE3
import Derived.Test.YtomfggmmhkpeeaaGreatDoorKNR
import Derived.Test.YtomfggmmhkpeeaaGreatDoorKPT1
import Derived.Test.YtomfggmmhkpeeaaGreatDoorKP
set_option linter.unusedSimpArgs false
set_option linter.unusedVariables false
set_option linter.defProp false
set_option maxRecDepth 100000
set_option maxHeartbeats 4000000
namespace Go.Proofs.YtomfggmmhkpeeaaGreatDoor.Eng
open Go Go.RowKit

section
variable {M:Nat}{D:List RuleD}
private def tyF:=ai (ai (ai tg25 (ai tg27 tg32)) (ai tg86 (ai tg87 tg29))) (ai (ai tg34 (ai tg89 tg3)) (ai tg4 (ai tg5 tg9)))
theorem rootI_c (hD:DB M D) (hM:M≤1048576):AC Tryz.prog 43 [.d (encD D)] none (fun r' _=>r'=.d (iD ((D.length:Int) - 1))):=by
 have hl:=hD.len
 refine cbS Tryz.func43 rfl Tryz.call43 Tryz.ntmps43 fun en hsz hks hk0=>?_;refine enS ?_
 refine walkS ?_
 (refine rtS Tryz.results43 ?_;exact ⟨_,_,.inl ⟨rfl,rfl⟩,List.nodup_nil,rfl⟩)
theorem rootS_c (hD:DB M D) (hM:M≤1048576):AC Tryz.prog 42 [.d (encD D)] none (fun r' _=>r'=.d (iD ((D.length:Int) - 1))):=by
 have hl:=hD.len
 refine cbS Tryz.func42 rfl Tryz.call42 Tryz.ntmps42 fun en hsz hks hk0=>?_;refine enS ?_
 refine walkS ?_
 (refine rtS Tryz.results42 ?_;exact ⟨_,_,.inl ⟨rfl,rfl⟩,List.nodup_nil,rfl⟩)
end
end Go.Proofs.YtomfggmmhkpeeaaGreatDoor.Eng
namespace Go.Proofs.YtomfggmmhkpeeaaGreatDoor.Eng
open Go Go.RowKit

noncomputable def readV (D:List RuleD) (b:List UInt8) (i p:Int):V × Nat × Nat:=if vKnown D i=true∧(0≤p∧p≤b.length)∧b.length≤400 then rd D b D.length i.toNat p.toNat else (V0,0,8)
noncomputable def readF (D:List RuleD) (b:List UInt8):V × Nat × Nat:=if (readV D b ((D.length:Int) - 1) 0).2.2=0∧(readV D b ((D.length:Int) - 1) 0).2.1<b.length then (V0,(readV D b ((D.length:Int) - 1) 0).2.1,7) else readV D b ((D.length:Int) - 1) 0
abbrev chR (x:V × Nat × Nat):Rz:=.d (.tup [iD x.2.1,iD x.2.2])

section
variable {M:Nat}{D:List RuleD}{b:List UInt8}
end
end Go.Proofs.YtomfggmmhkpeeaaGreatDoor.Eng
namespace Go.Proofs.YtomfggmmhkpeeaaGreatDoor.Eng
open Go.RowKit

noncomputable def stepP (s:ByteArray):Bool:=isName s || decide (s=⟨#[42]⟩) || decide (s=⟨#[63]⟩) || decide (s=⟨#[43]⟩) || (parP s).isSome
noncomputable def splP (s:ByteArray):List ByteArray × Bool:=
 if s.size=0 then ([],true)
 else if s[0]?=some 47∧((splT s 47).drop 1).all stepP=true then ((splT s 47).drop 1,true)
 else ([],false)
def pasI (f:Nat→Nat→V × Nat × Nat):List Nat→Nat→Option Nat
 | [],p=>some p
 | k::ks,p=>if (f k p).2.2=0 then pasI f ks (f k p).2.1 else none
def idxT (l:List ByteArray) (s:ByteArray):Option Nat:=l.findIdx? (fun x=>decide (x=s))
noncomputable def goS (D:List RuleD) (b:List UInt8) (rule p:Nat) (s:ByteArray):Option (Nat × Nat):=
 let r:=ruleD D rule
 if r.kind=5 then
  match intAt (ruleD D (kid0 r)) b p,parP s with
  | some n,some k=>if n≤40∧k<n then (pasI (rd D b D.length) (List.replicate k (kid1 r).toNat) (p+(ruleD D (kid0 r)).size.toNat)).map fun q=>((kid1 r).toNat,q) else none
  | _,_=>none
 else if r.kind=6 then
  match idxT r.names s with
  | some j=>(pasI (rd D b D.length) ((r.kids.take j).map Int.toNat) p).map fun q=>((r.kids.getD j 0).toNat,q)
  | none=>none
 else if r.kind=7 then
  match intAt (ruleD D (kid0 r)) b p with
  | some n=>match tagIx r.tags n with
   | some k=>if s=⟨#[42]⟩ then some ((r.kids.getD (k+1) 0).toNat,p+(ruleD D (kid0 r)).size.toNat) else none
   | none=>none
  | none=>none
 else if r.kind=8 then if b[p]?=some 1∧s=⟨#[63]⟩ then some ((kid0 r).toNat,p+1) else none
 else if r.kind=9 then if s=⟨#[43]⟩ then some ((kid0 r).toNat,p) else none
 else none
noncomputable def goN (D:List RuleD) (b:List UInt8):List ByteArray→Nat→Nat→Option (Nat × Nat)
 | [],r,p=>some (r,p)
 | s::ss,r,p=>(goS D b r p s).bind fun x=>goN D b ss x.1 x.2
noncomputable def locP (D:List RuleD) (b:List UInt8) (s:ByteArray):Option (Nat × Nat × Nat):=
 if (splP s).2=true∧vDesc D=true∧b.length≤400 then
  (goN D b (splP s).1 (D.length - 1) 0).bind fun x=>if (rd D b D.length x.1 x.2).2.2=0 then some (x.1,x.2,(rd D b D.length x.1 x.2).2.1) else none
 else none
end Go.Proofs.YtomfggmmhkpeeaaGreatDoor.Eng
namespace Go.Proofs.YtomfggmmhkpeeaaGreatDoor.Eng
open Go Go.RowKit

noncomputable def validP (D:List RuleD) (b:List UInt8):Bool:=(readF D b).2.2==0 || (readF D b).2.2==1
noncomputable def longP (D:List RuleD) (b:List UInt8):Nat→Int
 | 0=>if validP D []=true then 0 else -1
 | n+1=>if validP D (b.take (n+1))=true then ((n+1:Nat):Int) else longP D b n

section
variable {M:Nat}{D:List RuleD}{b:List UInt8}







end
end Go.Proofs.YtomfggmmhkpeeaaGreatDoor.Eng
