/-
 Plain functions: numbers, bytes and texts that are drawn.

 Plain functions: descriptions that are drawn.
-/
import Derived.Test.YtaammoodcgfhpaaDoorKP
set_option linter.unusedSimpArgs false
set_option linter.unusedVariables false
set_option linter.defProp false
set_option maxRecDepth 100000
set_option maxHeartbeats 4000000
namespace Go.Proofs.YtaammoodcgfhpaaDoor
open Go.RowKit

structure Cur where
 b:List UInt8
 i:Nat
 h:Int
def and64 (x y:Int):Int:=IntKind.i64.wrap ((BitVec.ofInt IntKind.i64.bits x &&& BitVec.ofInt IntKind.i64.bits y).toNat:Int)
def xor64 (x y:Int):Int:=IntKind.i64.wrap ((BitVec.ofInt IntKind.i64.bits x ^^^ BitVec.ofInt IntKind.i64.bits y).toNat:Int)
def shr64 (x:Int) (n:Nat):Int:=x.fdiv (2 ^ (min n IntKind.i64.bits))
def mixH (h:Int):Int:=and64 (xor64 (shr64 h 33) (shr64 h 47)) 255
def stepH (h:Int):Int:=IntKind.i64.wrap (h*6364136223846793005+1442695040888963407)
theorem wrap_small {n:Int} (h:-9223372036854775808≤n) (k:n≤9223372036854775807):IntKind.i64.wrap n=n:=by
 simp [IntKind.wrap,IntKind.bits,IntKind.signed]
 omega
def by1 (c:Cur):Int × Cur:=
 if h:c.i<c.b.length then (and64 (IntKind.i64.wrap (mixH (stepH c.h)+((c.b[c.i]).toNat:Int))) 255,⟨c.b,c.i+1,stepH c.h⟩)
 else (mixH (stepH c.h),⟨c.b,c.i,stepH c.h⟩)
def bel (c:Cur) (n:Int):Int × Cur:=
 if n≤0 then (0,c)
 else if n≤256 then ((by1 c).1.tmod n,(by1 c).2)
 else (((by1 c).1*65536+(by1 (by1 c).2).1*256+(by1 (by1 (by1 c).2).2).1).tmod n,(by1 (by1 (by1 c).2).2).2)
def once (c:Cur) (n:Int):Bool × Cur:=((bel c n).1==0,(bel c n).2)
def pickI (c:Cur) (l:List Int):Int × Cur:=(l.getD (bel c l.length).1.toNat 0,(bel c l.length).2)
def pickT (c:Cur) (l:List ByteArray):ByteArray × Cur:=(l.getD (bel c l.length).1.toNat ByteArray.empty,(bel c l.length).2)
def bysC:Nat→Cur→List UInt8 × Cur
 | 0,c=>([],c)
 | n+1,c=>((bysC n c).1++[UInt8.ofNat (by1 (bysC n c).2).1.toNat],(by1 (bysC n c).2).2)
def newH (B:List UInt8):Nat→Int
 | 0=>193017+(B.length:Int)
 | k+1=>and64 (newH B k*137+((B.getD k 0).toNat:Int)+11) 1073741823
def newC (B:List UInt8):Cur:=⟨B,0,newH B (min B.length 4000)⟩
def sizC (B:List UInt8) (most:Int):Int:=if most<3+(B.length:Int).tdiv 12 then most else 3+(B.length:Int).tdiv 12
def bentC (c:Cur) (b:List UInt8):List UInt8 × Cur:=
 let p:=bel c 6
 if p.1=0 then
  if 0<b.length then
   let q:=bel p.2 b.length
   let s:=bel q.2 256
   (b.set q.1.toNat (UInt8.ofNat s.1.toNat),s.2)
  else (b,p.2)
 else if p.1=1 then
  let q:=bel p.2 ((b.length:Int)+1)
  (b.take q.1.toNat,q.2)
 else if p.1=2 then
  let q:=pickI p.2 [0,1,128,255]
  (b++[UInt8.ofNat q.1.toNat],q.2)
 else (b,p.2)
end Go.Proofs.YtaammoodcgfhpaaDoor
namespace Go.Proofs.YtaammoodcgfhpaaDoor
open Go.RowKit

def dgt (n:Nat):ByteArray:={ data:=#[UInt8.ofNat (IntKind.u8.wrap (IntKind.i64.wrap (48+(n:Int).tmod 10))).toNat] }
def fmtA (n:Nat) (out:ByteArray):ByteArray:=if h:n=0 then out else fmtA (n / 10) (dgt n++out)
termination_by n
decreasing_by omega
theorem fmtA_0 (out:ByteArray):fmtA 0 out=out:=by rw [fmtA,dif_pos rfl]
theorem fmtA_step {n:Nat} (h:n≠0) {out:ByteArray}:fmtA n out=fmtA (n / 10) (dgt n++out):=by rw [fmtA,dif_neg h]
def fmtN (n:Nat):ByteArray:=if n=0 then { data:=#[48] } else fmtA n ByteArray.empty
def intIx (D:List RuleD):Nat→List Int
 | 0=>[]
 | n+1=>if (ruleD D n).kind=1 then intIx D n++[(n:Int)] else intIx D n
abbrev wordsL:List ByteArray:=[{ data:=#[97] },{ data:=#[105,116,101,109] },{ data:=#[98] },{ data:=#[104,101,97,100] },{ data:=#[120] }]
abbrev pqrL:List ByteArray:=[{ data:=#[112] },{ data:=#[113] },{ data:=#[114] }]
def seqC (n:Int):Nat→Cur→List ByteArray→List Int→(List ByteArray × List Int) × Cur
 | 0,c,ns,ks=>((ns,ks),c)
 | i+1,c,ns,ks=>seqC n i (bel (pickT c pqrL).2 n).2 (ns++[(pickT c pqrL).1++fmtN (i+1)]) (ks++[(bel (pickT c pqrL).2 n).1])
def choC (n:Int):Nat→Cur→List Int→List Int→(List Int × List Int) × Cur
 | 0,c,ts,ks=>((ts,ks),c)
 | i+1,c,ts,ks=>choC n i (bel (bel c 4).2 n).2 (ts++[4*(ts.length:Int)+(bel c 4).1]) (ks++[(bel (bel c 4).2 n).1])
def mkR (c0:Cur) (D:List RuleD) (k:Int):RuleD × Cur:=
 let nm:=(pickT c0 wordsL).1++fmtN D.length
 let c:=(pickT c0 wordsL).2
 if k=1 then
  if 1<1+(bel c 3).1 then (⟨nm,k,1+(bel c 3).1,(once (bel c 3).2 2).1,[],[],[],[]⟩,(once (bel c 3).2 2).2)
  else (⟨nm,k,1+(bel c 3).1,false,[],[],[],[]⟩,(bel c 3).2)
 else if k=2 then (⟨nm,k,0,false,(bysC (1+(bel c 3).1).toNat (bel c 3).2).1,[],[],[]⟩,(bysC (1+(bel c 3).1).toNat (bel c 3).2).2)
 else if k=3 then (⟨nm,k,1+(bel c 4).1,false,[],[],[],[]⟩,(bel c 4).2)
 else if k=4 then (⟨nm,k,0,false,[],[],[],[(pickI c (intIx D D.length)).1]⟩,(pickI c (intIx D D.length)).2)
 else if k=5 then (⟨nm,k,0,false,[],[],[],[(pickI c (intIx D D.length)).1,(bel (pickI c (intIx D D.length)).2 D.length).1]⟩,(bel (pickI c (intIx D D.length)).2 D.length).2)
 else if k=6 then
  let s:=seqC D.length (1+(bel c 3).1).toNat (bel c 3).2 [] []
  (⟨nm,k,0,false,[],s.1.1,[],s.1.2⟩,s.2)
 else if k=7 then
  let a:=pickI c (intIx D D.length)
  let s:=choC D.length (1+(bel a.2 3).1).toNat (bel a.2 3).2 [] [a.1]
  (⟨nm,k,0,false,[],[],s.1.1,s.1.2⟩,s.2)
 else if k=8∨k=9 then (⟨nm,k,0,false,[],[],[],[(bel c D.length).1]⟩,(bel c D.length).2)
 else if k=10 then (⟨nm,k,0,false,[UInt8.ofNat (pickI c [0,10,59,255]).1.toNat],[],[],[]⟩,(pickI c [0,10,59,255]).2)
 else (⟨nm,k,0,false,[],[],[],[]⟩,c)
def rulesC:Nat→Cur→List RuleD→List RuleD × Cur
 | 0,c,D=>(D,c)
 | i+1,c,D=>rulesC i (mkR (bel c 10).2 D (1+(bel c 10).1)).2 (D++[(mkR (bel c 10).2 D (1+(bel c 10).1)).1])
def descC (c:Cur):List RuleD × Cur:=
 let p:=mkR c [] 1
 rulesC (bel p.2 6).1.toNat (bel p.2 6).2 [p.1]

end Go.Proofs.YtaammoodcgfhpaaDoor
