/-
 Plain functions: the least sizes of the rules of a description.

 Plain functions: the code of a description; how an instruction is told.
-/
import Derived.Test.YtaammoodcgfhpaaDoorKP
import Derived.Test.YtaammoodcgfhpaaDoorKITO
set_option linter.unusedSimpArgs false
set_option linter.unusedVariables false
set_option linter.defProp false
set_option maxRecDepth 100000
set_option maxHeartbeats 4000000
namespace Go.Proofs.YtaammoodcgfhpaaDoor
open Go.RowKit

def atT (ts:List Int) (k:Int):Int:=ts.getD k.toNat 0
def sumK (ts:List Int) (ks:List Int):Int:=(ks.map (atT ts)).foldl (·+·) 0
def altK (ts:List Int) (a:Int) (ks:List Int):Int:=(ks.map (atT ts)).foldl min a
def minN (ts:List Int) (r:RuleD):Int:=
 if r.kind=1∨r.kind=3 then r.size
 else if r.kind=2 then r.bytes.length
 else if r.kind=4∨r.kind=5 then atT ts (kid0 r)
 else if r.kind=6 then sumK ts r.kids
 else if r.kind=7 then atT ts (kid0 r)+altK ts (atT ts (kid1 r)) (r.kids.drop 2)
 else if r.kind=9 then atT ts (kid0 r)+1
 else 1
def minS (D:List RuleD):Nat→List Int
 | 0=>[]
 | n+1=>minS D n++[min (minN (minS D n) (ruleD D n)) 401]

def inT (ts:List Int):Prop:=∀ x∈ts,0≤x∧x≤401
end Go.Proofs.YtaammoodcgfhpaaDoor
namespace Go.Proofs.YtaammoodcgfhpaaDoor.Eng
open Go.RowKit

abbrev Ins:=Int × Int × Int
def insCall (es:List Int) (k:Int):Ins:=(9,atT es k,0)
def cmpTags:List Int→Int→List Ins
 | [],_=>[]
 | t::ts,first=>(11,t,first)::cmpTags ts (first+2)
def cmpAlts (es:List Int):List Int→List Ins
 | []=>[]
 | [k]=>[insCall es k]
 | k::ks=>insCall es k::(10,0,0)::cmpAlts es ks
def cmpB (r:RuleD) (start:Int) (es:List Int):List Ins:=
 if r.kind=1 then [(1,r.size,if r.little then 1 else 0)]
 else if r.kind=2 then r.bytes.map fun x=>(2,(x.toNat:Int),0)
 else if r.kind=3 then [(3,r.size,0)]
 else if r.kind=4 then [insCall es (kid0 r),(4,0,0)]
 else if r.kind=5 then [insCall es (kid0 r),(5,40,0),(6,0,0),(7,start+6,0),insCall es (kid1 r),(8,start+3,0)]
 else if r.kind=6 then r.kids.map (insCall es)
 else if r.kind=7 then insCall es (kid0 r)::cmpTags r.tags (start+r.tags.length+2)++[(12,3,0)]++cmpAlts es (r.kids.drop 1)
 else if r.kind=8 then [(13,start+2,0),insCall es (kid0 r)]
 else if r.kind=9 then [(14,0,0),insCall es (kid0 r),(15,0,0)]
 else [(16,((r.bytes[0]?.getD 0).toNat:Int),0)]
def cmpR (r:RuleD) (start:Int) (es:List Int):List Ins:=cmpB r start es++[(10,0,0)]
def cmpD (D:List RuleD):Nat→List Ins × List Int
 | 0=>([(9,0,0),(17,0,0)],[])
 | n+1=>((cmpD D n).1++cmpR (ruleD D n) (cmpD D n).1.length (cmpD D n).2,(cmpD D n).2++[((cmpD D n).1.length:Int)])
theorem cmpD_len (D:List RuleD):∀ n,(cmpD D n).2.length=n
 | 0=>rfl
 | n+1=>by rw [cmpD,List.length_append,cmpD_len D n];rfl
theorem cmpD_ge (D:List RuleD):∀ n,2≤(cmpD D n).1.length
 | 0=>Nat.le_refl _
 | n+1=>by
  have:=cmpD_ge D n
  rw [cmpD,List.length_append]
  omega
def cmpP (D:List RuleD):List Ins:=(9,atT (cmpD D D.length).2 ((D.length:Int) - 1),0)::(cmpD D D.length).1.drop 1
def opName (k:Int):ByteArray:=
 if k=1 then ⟨#[105,110,116,101,103,101,114]⟩
 else if k=2 then ⟨#[109,97,116,99,104]⟩
 else if k=3 then ⟨#[115,107,105,112]⟩
 else if k=4 then ⟨#[115,107,105,112,45,114,101,103,105,115,116,101,114]⟩
 else if k=5 then ⟨#[108,105,109,105,116]⟩
 else if k=6 then ⟨#[112,117,115,104]⟩
 else if k=7 then ⟨#[108,111,111,112]⟩
 else if k=8 then ⟨#[106,117,109,112]⟩
 else if k=9 then ⟨#[99,97,108,108]⟩
 else if k=10 then ⟨#[114,101,116,117,114,110]⟩
 else if k=11 then ⟨#[116,97,103]⟩
 else if k=12 then ⟨#[102,97,105,108]⟩
 else if k=13 then ⟨#[102,108,97,103]⟩
 else if k=14 then ⟨#[109,97,114,107]⟩
 else if k=15 then ⟨#[115,117,109]⟩
 else if k=16 then ⟨#[117,110,116,105,108]⟩
 else if k=17 then ⟨#[101,110,100]⟩
 else ByteArray.empty
def opCnt (k:Int):Nat:=
 if k=1∨k=11 then 2
 else if k=2∨k=3∨k=5∨k=7∨k=8∨k=9∨k=12∨k=13∨k=16 then 1
 else 0
def insT (x:Ins):ByteArray:=
 if 1≤x.1∧x.1≤17 then
  (if opCnt x.1=2 then opName x.1++⟨#[32]⟩++itoB x.2.1++⟨#[32]⟩++itoB x.2.2
   else if opCnt x.1=1 then opName x.1++⟨#[32]⟩++itoB x.2.1
   else opName x.1)
 else ⟨#[63]⟩
end Go.Proofs.YtaammoodcgfhpaaDoor.Eng
