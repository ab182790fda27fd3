/-
 Plain functions: numbers, bytes and texts that are drawn.

 Plain functions: descriptions that are drawn.

 Plain functions: drawn descriptions are valid.

 Plain functions: values that are drawn; they are valid, and small.
-/
import Derived.Test.YtndnefealooolaaGreatDoorKP
import Derived.Test.YtndnefealooolaaGreatDoorKP2
set_option linter.unusedSimpArgs false
set_option linter.unusedVariables false
set_option linter.defProp false
set_option maxRecDepth 100000
set_option maxHeartbeats 4000000
namespace Go.Proofs.YtndnefealooolaaGreatDoor
open Go.RowKit

structure Cur where
 b:List UInt8
 i:Nat
 h:Int
def and64 (x y:Int):Int:=IntKind.i64.wrap ((BitVec.ofInt IntKind.i64.bits x &&& BitVec.ofInt IntKind.i64.bits y).toNat:Int)
def xor64 (x y:Int):Int:=IntKind.i64.wrap ((BitVec.ofInt IntKind.i64.bits x ^^^ BitVec.ofInt IntKind.i64.bits y).toNat:Int)
def shr64 (x:Int) (n:Nat):Int:=x.fdiv (2 ^ (min n IntKind.i64.bits))
def mixH (h:Int):Int:=and64 (xor64 (shr64 h 33) (shr64 h 47)) 255
def stepH (h:Int):Int:=IntKind.i64.wrap (h*6364136223846793005+1442695040888963407)
theorem wrap_small {n:Int} (h:-9223372036854775808≤n) (k:n≤9223372036854775807):IntKind.i64.wrap n=n:=by
 simp [IntKind.wrap,IntKind.bits,IntKind.signed]
 omega
theorem and_le (x:Int) (n:Nat) (hn:n<4294967296):0≤and64 x n∧and64 x n≤n:=by
 unfold and64
 have h1:(BitVec.ofInt IntKind.i64.bits x &&& BitVec.ofInt IntKind.i64.bits (n:Int)).toNat≤n:=by
  rw [BitVec.toNat_and]
  refine Nat.le_trans Nat.and_le_right ?_
  simp only [BitVec.ofInt_natCast,BitVec.toNat_ofNat]
  exact Nat.mod_le _ _
 rw [wrap_small (by omega) (by omega)]
 omega
theorem and255 (x:Int):0≤and64 x 255∧and64 x 255≤255:=and_le x 255 (by omega)
theorem mix_raw (h:Int):mixH h=((BitVec.ofInt IntKind.i64.bits (xor64 (shr64 h 33) (shr64 h 47)) &&& BitVec.ofInt IntKind.i64.bits 255).toNat:Int):=by
 unfold mixH and64
 have h1:(BitVec.ofInt IntKind.i64.bits (xor64 (shr64 h 33) (shr64 h 47)) &&& BitVec.ofInt IntKind.i64.bits 255).toNat≤255:=by
  rw [show (255:Int)=((255:Nat):Int) from rfl]
  rw [BitVec.toNat_and]
  refine Nat.le_trans Nat.and_le_right ?_
  simp only [BitVec.ofInt_natCast,BitVec.toNat_ofNat]
  exact Nat.mod_le _ _
 exact wrap_small (by omega) (by omega)
def by1 (c:Cur):Int × Cur:=
 if h:c.i<c.b.length then (and64 (IntKind.i64.wrap (mixH (stepH c.h)+((c.b[c.i]).toNat:Int))) 255,⟨c.b,c.i+1,stepH c.h⟩)
 else (mixH (stepH c.h),⟨c.b,c.i,stepH c.h⟩)
theorem by1_hit {B:List UInt8}{i:Nat}{h:Int} (k:i<B.length):by1 ⟨B,i,h⟩=(and64 (IntKind.i64.wrap (mixH (stepH h)+((B[i]).toNat:Int))) 255,⟨B,i+1,stepH h⟩):=by rw [by1,dif_pos k]
theorem by1_no {B:List UInt8}{i:Nat}{h:Int} (k:¬i<B.length):by1 ⟨B,i,h⟩=(mixH (stepH h),⟨B,i,stepH h⟩):=by rw [by1,dif_neg k]
theorem by1_in (c:Cur):0≤(by1 c).1∧(by1 c).1≤255:=by
 unfold by1
 split
 ·exact and255 _
 ·exact and255 _
theorem by1_b (c:Cur):(by1 c).2.b=c.b:=by unfold by1;split<;>rfl
def bel (c:Cur) (n:Int):Int × Cur:=
 if n≤0 then (0,c)
 else if n≤256 then ((by1 c).1.tmod n,(by1 c).2)
 else (((by1 c).1*65536+(by1 (by1 c).2).1*256+(by1 (by1 (by1 c).2).2).1).tmod n,(by1 (by1 (by1 c).2).2).2)
theorem bel_b (c:Cur) (n:Int):(bel c n).2.b=c.b:=by
 unfold bel
 split
 ·rfl
 split
 ·exact by1_b c
 ·rw [by1_b,by1_b,by1_b]
theorem bel_in (c:Cur) {n:Int} (h:0<n):0≤(bel c n).1∧(bel c n).1<n:=by
 unfold bel
 rw [if_neg (by omega)]
 have h1:=by1_in c
 have h2:=by1_in (by1 c).2
 have h3:=by1_in (by1 (by1 c).2).2
 split
 ·exact ⟨Int.tmod_nonneg _ (by omega),Int.tmod_lt_of_pos _ h⟩
 ·exact ⟨Int.tmod_nonneg _ (by omega),Int.tmod_lt_of_pos _ h⟩
def once (c:Cur) (n:Int):Bool × Cur:=((bel c n).1==0,(bel c n).2)
def pickI (c:Cur) (l:List Int):Int × Cur:=(l.getD (bel c l.length).1.toNat 0,(bel c l.length).2)
def pickT (c:Cur) (l:List ByteArray):ByteArray × Cur:=(l.getD (bel c l.length).1.toNat ByteArray.empty,(bel c l.length).2)
theorem pick_lt (c:Cur) {n:Nat} (h:0<n):(bel c n).1.toNat<n:=by
 have:=bel_in c (n:=n) (by omega)
 omega
theorem pickI_get (c:Cur) {l:List Int} (h:0<l.length):l[(bel c l.length).1.toNat]?=some (pickI c l).1:=by
 have:=pick_lt c h
 simp [pickI,List.getD,this]
theorem pickT_get (c:Cur) {l:List ByteArray} (h:0<l.length):l[(bel c l.length).1.toNat]?=some (pickT c l).1:=by
 have:=pick_lt c h
 simp [pickT,List.getD,this]
theorem pickI_mem (c:Cur) {l:List Int} (h:0<l.length):(pickI c l).1∈l:=List.mem_of_getElem? (pickI_get c h)
theorem pickT_mem (c:Cur) {l:List ByteArray} (h:0<l.length):(pickT c l).1∈l:=List.mem_of_getElem? (pickT_get c h)
theorem pickI_b (c:Cur) (l:List Int):(pickI c l).2.b=c.b:=bel_b _ _
theorem pickT_b (c:Cur) (l:List ByteArray):(pickT c l).2.b=c.b:=bel_b _ _
def bysC:Nat→Cur→List UInt8 × Cur
 | 0,c=>([],c)
 | n+1,c=>((bysC n c).1++[UInt8.ofNat (by1 (bysC n c).2).1.toNat],(by1 (bysC n c).2).2)
theorem bysC_len (c:Cur):∀ n,(bysC n c).1.length=n
 | 0=>rfl
 | n+1=>by simp [bysC,bysC_len c n]
theorem bysC_b (c:Cur):∀ n,(bysC n c).2.b=c.b
 | 0=>rfl
 | n+1=>by rw [bysC,by1_b,bysC_b c n]
def newH (B:List UInt8):Nat→Int
 | 0=>193017+(B.length:Int)
 | k+1=>and64 (newH B k*137+((B.getD k 0).toNat:Int)+11) 1073741823
theorem newH_in (B:List UInt8) (k:Nat):0≤newH B k∧newH B k≤1073741823+B.length:=by
 cases k with
 | zero=>unfold newH;omega
 | succ k=>
  unfold newH
  have h:∀ z:Int,0≤and64 z 1073741823∧and64 z 1073741823≤1073741823:=fun z=>and_le z 1073741823 (by omega)
  have:=h (newH B k*137+((B.getD k 0).toNat:Int)+11)
  omega
def newC (B:List UInt8):Cur:=⟨B,0,newH B (min B.length 4000)⟩
def sizC (B:List UInt8) (most:Int):Int:=if most<3+(B.length:Int).tdiv 12 then most else 3+(B.length:Int).tdiv 12
def bentC (c:Cur) (b:List UInt8):List UInt8 × Cur:=
 let p:=bel c 6
 if p.1=0 then
  if 0<b.length then
   let q:=bel p.2 b.length
   let s:=bel q.2 256
   (b.set q.1.toNat (UInt8.ofNat s.1.toNat),s.2)
  else (b,p.2)
 else if p.1=1 then
  let q:=bel p.2 ((b.length:Int)+1)
  (b.take q.1.toNat,q.2)
 else if p.1=2 then
  let q:=pickI p.2 [0,1,128,255]
  (b++[UInt8.ofNat q.1.toNat],q.2)
 else (b,p.2)
end Go.Proofs.YtndnefealooolaaGreatDoor
namespace Go.Proofs.YtndnefealooolaaGreatDoor
open Go.RowKit

def dgt (n:Nat):ByteArray:={ data:=#[UInt8.ofNat (IntKind.u8.wrap (IntKind.i64.wrap (48+(n:Int).tmod 10))).toNat] }
def fmtA (n:Nat) (out:ByteArray):ByteArray:=if h:n=0 then out else fmtA (n / 10) (dgt n++out)
termination_by n
decreasing_by omega
theorem fmtA_0 (out:ByteArray):fmtA 0 out=out:=by rw [fmtA,dif_pos rfl]
theorem fmtA_step {n:Nat} (h:n≠0) {out:ByteArray}:fmtA n out=fmtA (n / 10) (dgt n++out):=by rw [fmtA,dif_neg h]
def fmtN (n:Nat):ByteArray:=if n=0 then { data:=#[48] } else fmtA n ByteArray.empty
theorem fmtN_small {n:Nat} (h:n<10):fmtN n={ data:=#[UInt8.ofNat (48+n)] }:=by
 have:n=0∨n=1∨n=2∨n=3∨n=4∨n=5∨n=6∨n=7∨n=8∨n=9:=by omega
 rcases this with rfl|rfl|rfl|rfl|rfl|rfl|rfl|rfl|rfl|rfl
 ·rfl
 all_goals
  unfold fmtN
  rw [if_neg (by omega),fmtA_step (by omega),fmtA_0]
  decide
def intIx (D:List RuleD):Nat→List Int
 | 0=>[]
 | n+1=>if (ruleD D n).kind=1 then intIx D n++[(n:Int)] else intIx D n
abbrev wordsL:List ByteArray:=[{ data:=#[97] },{ data:=#[105,116,101,109] },{ data:=#[98] },{ data:=#[104,101,97,100] },{ data:=#[120] }]
abbrev pqrL:List ByteArray:=[{ data:=#[112] },{ data:=#[113] },{ data:=#[114] }]
def seqC (n:Int):Nat→Cur→List ByteArray→List Int→(List ByteArray × List Int) × Cur
 | 0,c,ns,ks=>((ns,ks),c)
 | i+1,c,ns,ks=>seqC n i (bel (pickT c pqrL).2 n).2 (ns++[(pickT c pqrL).1++fmtN (i+1)]) (ks++[(bel (pickT c pqrL).2 n).1])
def choC (n:Int):Nat→Cur→List Int→List Int→(List Int × List Int) × Cur
 | 0,c,ts,ks=>((ts,ks),c)
 | i+1,c,ts,ks=>choC n i (bel (bel c 4).2 n).2 (ts++[4*(ts.length:Int)+(bel c 4).1]) (ks++[(bel (bel c 4).2 n).1])
def mkR (c0:Cur) (D:List RuleD) (k:Int):RuleD × Cur:=
 let nm:=(pickT c0 wordsL).1++fmtN D.length
 let c:=(pickT c0 wordsL).2
 if k=1 then
  if 1<1+(bel c 3).1 then (⟨nm,k,1+(bel c 3).1,(once (bel c 3).2 2).1,[],[],[],[]⟩,(once (bel c 3).2 2).2)
  else (⟨nm,k,1+(bel c 3).1,false,[],[],[],[]⟩,(bel c 3).2)
 else if k=2 then (⟨nm,k,0,false,(bysC (1+(bel c 3).1).toNat (bel c 3).2).1,[],[],[]⟩,(bysC (1+(bel c 3).1).toNat (bel c 3).2).2)
 else if k=3 then (⟨nm,k,1+(bel c 4).1,false,[],[],[],[]⟩,(bel c 4).2)
 else if k=4 then (⟨nm,k,0,false,[],[],[],[(pickI c (intIx D D.length)).1]⟩,(pickI c (intIx D D.length)).2)
 else if k=5 then (⟨nm,k,0,false,[],[],[],[(pickI c (intIx D D.length)).1,(bel (pickI c (intIx D D.length)).2 D.length).1]⟩,(bel (pickI c (intIx D D.length)).2 D.length).2)
 else if k=6 then
  let s:=seqC D.length (1+(bel c 3).1).toNat (bel c 3).2 [] []
  (⟨nm,k,0,false,[],s.1.1,[],s.1.2⟩,s.2)
 else if k=7 then
  let a:=pickI c (intIx D D.length)
  let s:=choC D.length (1+(bel a.2 3).1).toNat (bel a.2 3).2 [] [a.1]
  (⟨nm,k,0,false,[],[],s.1.1,s.1.2⟩,s.2)
 else if k=8∨k=9 then (⟨nm,k,0,false,[],[],[],[(bel c D.length).1]⟩,(bel c D.length).2)
 else if k=10 then (⟨nm,k,0,false,[UInt8.ofNat (pickI c [0,10,59,255]).1.toNat],[],[],[]⟩,(pickI c [0,10,59,255]).2)
 else (⟨nm,k,0,false,[],[],[],[]⟩,c)
def rulesC:Nat→Cur→List RuleD→List RuleD × Cur
 | 0,c,D=>(D,c)
 | i+1,c,D=>rulesC i (mkR (bel c 10).2 D (1+(bel c 10).1)).2 (D++[(mkR (bel c 10).2 D (1+(bel c 10).1)).1])
def descC (c:Cur):List RuleD × Cur:=
 let p:=mkR c [] 1
 rulesC (bel p.2 6).1.toNat (bel p.2 6).2 [p.1]

theorem seqC_b {n:Int}{B:List UInt8}:∀ (i:Nat) (c:Cur) (ns ks),c.b=B→(seqC n i c ns ks).2.b=B
 | 0,c,ns,ks,h=>h
 | i+1,c,ns,ks,h=>by rw [seqC];exact seqC_b i _ _ _ (by rw [bel_b,pickT_b,h])
theorem choC_b {n:Int}{B:List UInt8}:∀ (i:Nat) (c:Cur) (ts ks),c.b=B→(choC n i c ts ks).2.b=B
 | 0,c,ns,ks,h=>h
 | i+1,c,ns,ks,h=>by rw [choC];exact choC_b i _ _ _ (by rw [bel_b,bel_b,h])
theorem mkR_b (c:Cur) (D:List RuleD) (k:Int):(mkR c D k).2.b=c.b:=by
 unfold mkR
 simp only
 split
 ·split<;>simp only [once,bel_b,pickT_b]
 split
 ·simp only [bysC_b,bel_b,pickT_b]
 split
 ·simp only [bel_b,pickT_b]
 split
 ·simp only [pickI_b,pickT_b]
 split
 ·simp only [bel_b,pickI_b,pickT_b]
 split
 ·exact seqC_b _ _ _ _ (by rw [bel_b,pickT_b])
 split
 ·exact choC_b _ _ _ _ (by rw [bel_b,pickI_b,pickT_b])
 split
 ·simp only [bel_b,pickT_b]
 split
 ·simp only [pickI_b,pickT_b]
 ·exact pickT_b _ _
theorem rulesC_b {B:List UInt8}:∀ (i:Nat) (c:Cur) (D),c.b=B→(rulesC i c D).2.b=B
 | 0,c,D,h=>h
 | i+1,c,D,h=>by rw [rulesC];exact rulesC_b i _ _ (by rw [mkR_b,bel_b,h])
theorem descC_b (c:Cur):(descC c).2.b=c.b:=by
 unfold descC
 exact rulesC_b _ _ _ (by rw [bel_b,mkR_b])
end Go.Proofs.YtndnefealooolaaGreatDoor
namespace Go.Proofs.YtndnefealooolaaGreatDoor
open Go.RowKit

theorem nameP_of {s:ByteArray} (h:decide ((1≤s.size∧s.size≤12)∧∀ j (h:j<s.size),(97≤s[j].toNat∧s[j].toNat≤122)∨((48≤s[j].toNat∧s[j].toNat≤57)∧j≠0))=true):isName s=true:=by
 obtain ⟨h1,h2⟩:=of_decide_eq_true h
 refine isName_true ⟨h1,fun j hj=>?_⟩
 unfold byteOk
 rcases h2 j hj with h|h
 ·left;omega
 ·right;exact ⟨by omega,h.2⟩
theorem names_ok:∀ w∈wordsL++pqrL,∀ i:Nat,i<10→isName (w++fmtN i)=true:=by
 intro w hw i hi
 rw [fmtN_small hi]
 have:i=0∨i=1∨i=2∨i=3∨i=4∨i=5∨i=6∨i=7∨i=8∨i=9:=by omega
 simp only [wordsL,pqrL,List.cons_append,List.nil_append,List.mem_cons,List.not_mem_nil,or_false] at hw
 rcases hw with rfl|rfl|rfl|rfl|rfl|rfl|rfl|rfl<;>rcases this with rfl|rfl|rfl|rfl|rfl|rfl|rfl|rfl|rfl|rfl<;>exact nameP_of (by decide +kernel)
theorem names_ne {w w':ByteArray}{i j:Nat} (hi:i<10) (hj:j<10) (h:i≠j):w++fmtN i≠w'++fmtN j:=by
 rw [fmtN_small hi,fmtN_small hj]
 intro e
 have e1:=congrArg ByteArray.data e
 rw [ByteArray.data_append,ByteArray.data_append] at e1
 have e2:=congrArg Array.toList e1
 rw [Array.toList_append,Array.toList_append] at e2
 have e3:=(List.append_inj' e2 rfl).2
 have e4:UInt8.ofNat (48+i)=UInt8.ofNat (48+j):=by simpa using e3
 have e5:=congrArg UInt8.toNat e4
 rw [UInt8.toNat_ofNat',UInt8.toNat_ofNat'] at e5
 omega

def SeqN (m:Nat) (ns:List ByteArray):Prop:=∀ k (h:k<ns.length),∃ w∈pqrL,ns[k]=w++fmtN (m - k)
theorem seqC_ok {n:Int} (hn:0<n) {m:Nat}:∀ (i:Nat) (c:Cur) (ns:List ByteArray) (ks:List Int),ns.length+i=m→ks.length=ns.length→SeqN m ns→(∀ x∈ks,0≤x∧x<n)→
  (seqC n i c ns ks).1.1.length=m∧(seqC n i c ns ks).1.2.length=m∧SeqN m (seqC n i c ns ks).1.1∧∀ x∈(seqC n i c ns ks).1.2,0≤x∧x<n
 | 0,c,ns,ks,h,h1,h2,h3=>⟨by simpa [seqC] using h,by simp [seqC];omega,h2,h3⟩
 | i+1,c,ns,ks,h,h1,h2,h3=>by
  rw [seqC]
  refine seqC_ok hn i _ _ _ (by simp;omega) (by simp;omega) (fun k hk=>?_) (fun x hx=>?_)
  ·by_cases e:k<ns.length
   ·rw [List.getElem_append_left e]
    exact h2 k e
   ·have hk':k=ns.length:=by simp at hk;omega
    subst hk'
    refine ⟨(pickT c pqrL).1,pickT_mem c (by decide),?_⟩
    rw [List.getElem_append_right (Nat.le_refl _)]
    simp only [Nat.sub_self,List.getElem_cons_zero]
    rw [show m - ns.length=i+1 by omega]
  ·rw [List.mem_append,List.mem_singleton] at hx
   rcases hx with hx|rfl
   ·exact h3 x hx
   ·exact bel_in _ hn
theorem seqN_names {m:Nat}{ns:List ByteArray} (h:SeqN m ns) (hm:1≤m∧m≤8) (hl:ns.length=m):namesB ns=true:=by
 have:namesP ns:=by
  refine ⟨by omega,fun j hj=>?_⟩
  obtain ⟨w,hw,e⟩:=h j hj
  refine ⟨by rw [e];exact names_ok w (List.mem_append_right _ hw) _ (by omega),?_⟩
  refine hasText_no (k:=j) (by rw [List.length_take];omega) fun x hx hxj=>?_
  obtain ⟨w',hw',e'⟩:=h x (by omega)
  rw [List.getElem_take,e,e']
  exact names_ne (by omega) (by omega) (by omega)
 simp [namesB,this]
def ChoT (ts:List Int):Prop:=∀ k (h:k<ts.length),4*(k:Int)≤ts[k]∧ts[k]<4*(k:Int)+4
theorem choC_ok {n:Int} (hn:0<n) {m:Nat}:∀ (i:Nat) (c:Cur) (ts ks:List Int),ts.length+i=m→ks.length=ts.length+1→ChoT ts→(∀ x∈ks,0≤x∧x<n)→
  (choC n i c ts ks).1.1.length=m∧(choC n i c ts ks).1.2.length=m+1∧ChoT (choC n i c ts ks).1.1∧(∀ x∈(choC n i c ts ks).1.2,0≤x∧x<n)∧(choC n i c ts ks).1.2.headD 0=ks.headD 0
 | 0,c,ts,ks,h,h1,h2,h3=>⟨by simpa [choC] using h,by simp [choC];omega,h2,h3,rfl⟩
 | i+1,c,ts,ks,h,h1,h2,h3=>by
  rw [choC]
  have hh:(ks++[(bel (bel c 4).2 n).1]).headD 0=ks.headD 0:=by
   cases ks with
   | nil=>simp at h1
   | cons x l=>rfl
  rw [←hh]
  refine choC_ok hn i _ _ _ (by simp;omega) (by simp;omega) (fun k hk=>?_) (fun x hx=>?_)
  ·by_cases e:k<ts.length
   ·rw [List.getElem_append_left e]
    exact h2 k e
   ·have hk':k=ts.length:=by simp at hk;omega
    subst hk'
    rw [List.getElem_append_right (Nat.le_refl _)]
    simp only [Nat.sub_self,List.getElem_cons_zero]
    have:=bel_in c (n:=4) (by omega)
    omega
  ·rw [List.mem_append,List.mem_singleton] at hx
   rcases hx with hx|rfl
   ·exact h3 x hx
   ·exact bel_in _ hn
theorem intIx_in {D:List RuleD}:∀ (n:Nat) (x:Int),x∈intIx D n→∃ k:Nat,x=k∧k<n∧(ruleD D k).kind=1
 | 0,x,h=>by simp [intIx] at h
 | n+1,x,h=>by
  unfold intIx at h
  split at h
  ·rw [List.mem_append,List.mem_singleton] at h
   rcases h with h|rfl
   ·obtain ⟨k,h1,h2,h3⟩:=intIx_in n x h
    exact ⟨k,h1,by omega,h3⟩
   ·exact ⟨n,rfl,by omega,‹_›⟩
  ·obtain ⟨k,h1,h2,h3⟩:=intIx_in n x h
   exact ⟨k,h1,by omega,h3⟩
theorem intIx_ne {D:List RuleD} (h0:(ruleD D (0:Nat)).kind=1):∀ n:Nat,0<n→0<(intIx D n).length
 | 0,h=>by omega
 | n+1,_=>by
  unfold intIx
  by_cases hn:n=0
  ·subst hn
   rw [if_pos h0]
   simp
  ·have:=intIx_ne h0 n (by omega)
   split
   ·simp
   ·exact this
theorem intIx_len {D:List RuleD}:∀ n:Nat,(intIx D n).length≤n
 | 0=>Nat.le_refl _
 | n+1=>by
  have:=intIx_len (D:=D) n
  unfold intIx
  split
  ·simp;omega
  ·omega

structure DR (D:List RuleD) (i:Nat) (r:RuleD):Prop where
 name:∃ w∈wordsL,r.name=w++fmtN i
 kids:∀ j (hj:j<r.kids.length),0≤r.kids[j]∧r.kids[j]<i
 kd:∀ Z,kindL (D++Z) r=true
 sz1:r.kind=1→1≤r.size∧r.size≤3
 sz3:r.kind=3→r.size≤4
 bs:r.bytes.length≤3
 ks:r.kids.length≤4
 ns:r.names.length≤3
 ts:r.tags.length≤3
 kn:1≤r.kind∧r.kind≤10
 nz:∀ s∈r.names,s.size≤2
structure DInv (D:List RuleD):Prop where
 len:1≤D.length
 fst:(ruleD D (0:Nat)).kind=1
 rule:∀ i (h:i<D.length),DR (D.take i) i D[i]
theorem ruleAt_app {D Z:List RuleD}{k:Nat} (h:k<D.length):ruleAt (D++Z) (k:Int)=ruleAt D (k:Int):=by
 simp [ruleAt,List.getElem?_append_left h]
theorem ruleD_app {D Z:List RuleD}{k:Nat} (h:k<D.length):ruleD (D++Z) (k:Int)=ruleD D (k:Int):=by
 unfold ruleD
 rw [ruleAt_app h]
theorem lim_int {D:List RuleD} (hD:DInv D) {x:Int} (h:x∈intIx D D.length) (Z:List RuleD):255≤limD (D++Z) x∧0≤x∧x<D.length:=by
 obtain ⟨k,rfl,hk,h1⟩:=intIx_in _ _ h
 have hr:D[k]?=some D[k]:=List.getElem?_eq_getElem hk
 have hd:=hD.rule k hk
 have hra:ruleAt (D++Z) (k:Int)=some D[k]:=by rw [ruleAt_app hk];simp [ruleAt,hr]
 rw [ruleD_get hr] at h1
 have hs:=hd.sz1 h1
 refine ⟨?_,by omega,by omega⟩
 rw [limD_good hra ⟨h1,by omega,by omega⟩]
 have:D[k].size=1∨D[k].size=2∨D[k].size=3:=by omega
 rcases this with e|e|e<;>rw [e]<;>decide
theorem fmtN_size {n:Nat} (h:n<10):(fmtN n).size=1:=by rw [fmtN_small h];rfl
theorem pqr_size:∀ w∈pqrL,w.size=1:=by
 intro w hw
 simp only [pqrL,List.mem_cons,List.not_mem_nil,or_false] at hw
 rcases hw with rfl|rfl|rfl<;>rfl
theorem words_size:∀ w∈wordsL,w.size≤4:=by
 intro w hw
 simp only [wordsL,List.mem_cons,List.not_mem_nil,or_false] at hw
 rcases hw with rfl|rfl|rfl|rfl|rfl<;>decide
theorem kids1_in {x:Int}{n:Nat} (h:0≤x∧x<n):∀ j (hj:j<[x].length),0≤[x][j]∧[x][j]<n:=fun j hj=>by
 obtain rfl:j=0:=by simp at hj;omega
 exact h
theorem kids2_in {x y:Int}{n:Nat} (h:0≤x∧x<n) (h':0≤y∧y<n):∀ j (hj:j<[x,y].length),0≤[x,y][j]∧[x,y][j]<n:=fun j hj=>by
 have:j=0∨j=1:=by simp at hj;omega
 rcases this with rfl|rfl
 ·exact h
 ·exact h'
theorem no_kids {n:Nat}:∀ j (hj:j<([]:List Int).length),0≤([]:List Int)[j]∧([]:List Int)[j]<n:=fun j hj=>by simp at hj
theorem mkR_1 (c:Cur) (D:List RuleD):(mkR c D 1).1.kind=1∧DR D D.length (mkR c D 1).1:=by
 have hb:=bel_in (pickT c wordsL).2 (n:=3) (by omega)
 unfold mkR
 simp only [if_true]
 split
 ·refine ⟨rfl,⟨_,pickT_mem c (by decide),rfl⟩,no_kids,fun Z=>?_,fun _=>?_,fun h=>?_,?_,?_,?_,?_,?_,?_⟩
  ·rw [kl_1 rfl]
   simp [shapeL,shapeB]
   omega
  all_goals first|(simp at h;done)|(simp;done)|(simp;omega)|(simp only;omega)|(intro s hs;cases hs)
 ·refine ⟨rfl,⟨_,pickT_mem c (by decide),rfl⟩,no_kids,fun Z=>?_,fun _=>?_,fun h=>?_,?_,?_,?_,?_,?_,?_⟩
  ·rw [kl_1 rfl]
   simp [shapeL,shapeB]
   omega
  all_goals first|(simp at h;done)|(simp;done)|(simp;omega)|(simp only;omega)|(intro s hs;cases hs)
theorem mkR_ok {D:List RuleD} (hD:DInv D) (c:Cur) {k:Int} (hk:1≤k∧k≤10):DR D D.length (mkR c D k).1:=by
 have hn:(0:Int)<D.length:=by have:=hD.len;omega
 have hix:0<(intIx D D.length).length:=intIx_ne hD.fst _ hD.len
 by_cases k1:k=1
 ·subst k1;exact (mkR_1 c D).2
 have hnm:∃ w∈wordsL,(pickT c wordsL).1++fmtN D.length=w++fmtN D.length:=⟨_,pickT_mem c (by decide),rfl⟩
 generalize hc:(pickT c wordsL).2=c1
 unfold mkR
 simp only [if_neg k1,hc]
 generalize (pickT c wordsL).1++fmtN D.length=nm at hnm
 have hb3:=bel_in c1 (n:=3) (by omega)
 have hb4:=bel_in c1 (n:=4) (by omega)
 have hbn:=bel_in c1 hn
 by_cases k2:k=2
 ·subst k2
  rw [if_pos rfl]
  have hl:=bysC_len (bel c1 3).2 (1+(bel c1 3).1).toNat
  refine ⟨hnm,no_kids,fun Z=>?_,fun h=>by simp at h,fun h=>by simp at h,by simp only;omega,by simp,by simp,by simp,by simp,by intro s hs;cases hs⟩
  rw [kl_2 rfl]
  simp only [shapeL,shapeB,hl]
  simp
  omega
 rw [if_neg k2]
 by_cases k3:k=3
 ·subst k3
  rw [if_pos rfl]
  refine ⟨hnm,no_kids,fun Z=>?_,fun h=>by simp at h,fun _=>by simp only;omega,by simp,by simp,by simp,by simp,by simp,by intro s hs;cases hs⟩
  rw [kl_3 rfl]
  simp [shapeL,shapeB]
  omega
 rw [if_neg k3]
 have hpm:=pickI_mem c1 hix
 have hlim:=lim_int hD hpm
 by_cases k4:k=4
 ·subst k4
  rw [if_pos rfl]
  refine ⟨hnm,kids1_in (hlim []).2,fun Z=>?_,fun h=>by simp at h,fun h=>by simp at h,by simp,by simp,by simp,by simp,by simp,by intro s hs;cases hs⟩
  rw [kl_4 rfl]
  have:=(hlim Z).1
  simp [shapeL,shapeB,kid0]
  omega
 rw [if_neg k4]
 by_cases k5:k=5
 ·subst k5
  rw [if_pos rfl]
  refine ⟨hnm,kids2_in (hlim []).2 (bel_in _ hn),fun Z=>?_,fun h=>by simp at h,fun h=>by simp at h,by simp,by simp,by simp,by simp,by simp,by intro s hs;cases hs⟩
  rw [kl_5 rfl]
  have:=(hlim Z).1
  simp [shapeL,shapeB,kid0]
  omega
 rw [if_neg k5]
 by_cases k6:k=6
 ·subst k6
  rw [if_pos rfl]
  obtain ⟨q1,q2,q3,q4⟩:=seqC_ok hn (m:=(1+(bel c1 3).1).toNat) (1+(bel c1 3).1).toNat (bel c1 3).2 [] [] (by simp) rfl (fun k h=>by simp at h) (fun x h=>by cases h)
  generalize seqC D.length (1+(bel c1 3).1).toNat (bel c1 3).2 [] []=s at q1 q2 q3 q4
  have hnames:=seqN_names q3 (by omega) q1
  refine ⟨hnm,fun j hj=>q4 _ (List.getElem_mem hj),fun Z=>?_,fun h=>by simp at h,fun h=>by simp at h,by simp,by simp only;omega,by simp only;omega,by simp,by simp,fun x hx=>?_⟩
  ·rw [kl_6 rfl,hnames]
   simp only [shapeL,shapeB]
   simp
   omega
  ·obtain ⟨j,hj,rfl⟩:=List.getElem_of_mem hx
   obtain ⟨w,hw,e⟩:=q3 j hj
   show (s.1.1[j]).size≤2
   rw [e,ByteArray.size_append,pqr_size w hw,fmtN_size (by omega)]
   omega
 rw [if_neg k6]
 by_cases k7:k=7
 ·subst k7
  rw [if_pos rfl]
  have hb:=bel_in (pickI c1 (intIx D D.length)).2 (n:=3) (by omega)
  obtain ⟨q1,q2,q3,q4,q5⟩:=choC_ok hn (m:=(1+(bel (pickI c1 (intIx D D.length)).2 3).1).toNat) (1+(bel (pickI c1 (intIx D D.length)).2 3).1).toNat (bel (pickI c1 (intIx D D.length)).2 3).2 [] [(pickI c1 (intIx D D.length)).1] (by simp) rfl (fun k h=>by simp at h) (fun x h=>by
   rw [List.mem_singleton] at h
   subst h
   exact (hlim []).2)
  generalize choC D.length (1+(bel (pickI c1 (intIx D D.length)).2 3).1).toNat (bel (pickI c1 (intIx D D.length)).2 3).2 [] [(pickI c1 (intIx D D.length)).1]=s at q1 q2 q3 q4 q5
  refine ⟨hnm,fun j hj=>q4 _ (List.getElem_mem hj),fun Z=>?_,fun h=>by simp at h,fun h=>by simp at h,by simp,by simp only;omega,by simp,by simp only;omega,by simp,by intro s hs;cases hs⟩
  rw [kl_7 rfl,tagsB_true ⟨by simp only;omega,by simp only;omega,fun j hj=>?_⟩]
  ·simp [shapeL,shapeB]
  ·have hj':j<s.1.1.length:=hj
   have h1:=q3 j hj'
   have hl:=(hlim Z).1
   refine ⟨⟨by show 0≤s.1.1[j];omega,?_⟩,fun h0=>?_⟩
   ·show s.1.1[j]≤limD (D++Z) (s.1.2.headD 0)
    rw [q5]
    show s.1.1[j]≤limD (D++Z) (pickI c1 (intIx D D.length)).1
    omega
   ·have h2:=q3 (j - 1) (by omega)
    show s.1.1[j - 1]<s.1.1[j]
    omega
 rw [if_neg k7]
 by_cases k89:k=8∨k=9
 ·rw [if_pos k89]
  refine ⟨hnm,kids1_in hbn,fun Z=>?_,fun h=>?_,fun h=>?_,by simp,by simp,by simp,by simp,by simp only;omega,by intro s hs;cases hs⟩
  ·rcases k89 with rfl|rfl
   ·rw [kl_8 rfl]
    simp [shapeL,shapeB]
   ·rw [kl_9 rfl]
    simp [shapeL,shapeB]
  ·have h':k=1:=h
   omega
  ·have h':k=3:=h
   omega
 rw [if_neg k89]
 obtain rfl:k=10:=by omega
 rw [if_pos rfl]
 refine ⟨hnm,no_kids,fun Z=>?_,fun h=>by simp at h,fun h=>by simp at h,by simp,by simp,by simp,by simp,by simp,by intro s hs;cases hs⟩
 rw [kl_10 rfl]
 have hm:=pickI_mem c1 (l:=[0,10,59,255]) (by decide)
 generalize (pickI c1 [0,10,59,255]).1=z at hm
 simp only [List.mem_cons,List.not_mem_nil,or_false] at hm
 rcases hm with rfl|rfl|rfl|rfl<;>simp [shapeL,shapeB]<;>decide
theorem DR.app {D Z:List RuleD}{i:Nat}{r:RuleD} (h:DR D i r):DR (D++Z) i r:=
 ⟨h.name,h.kids,fun Y=>by rw [List.append_assoc];exact h.kd _,h.sz1,h.sz3,h.bs,h.ks,h.ns,h.ts,h.kn,h.nz⟩
theorem DInv.snoc {D:List RuleD} (h:DInv D) {r:RuleD} (hr:DR D D.length r):DInv (D++[r]):=by
 refine ⟨by simp,?_,fun i hi=>?_⟩
 ·rw [ruleD_app h.len];exact h.fst
 ·by_cases e:i<D.length
  ·rw [List.getElem_append_left e,List.take_append_of_le_length (by omega)]
   exact h.rule i e
  ·obtain rfl:i=D.length:=by simp at hi;omega
   rw [List.getElem_append_right (Nat.le_refl _),List.take_left']
   ·simpa using hr
   ·rfl
theorem DInv.one (c:Cur):DInv [(mkR c [] 1).1]:=by
 obtain ⟨h1,h2⟩:=mkR_1 c []
 refine ⟨by simp,?_,fun i hi=>?_⟩
 ·rw [ruleD_get (r:=(mkR c [] 1).1) rfl];exact h1
 ·obtain rfl:i=0:=by simp at hi;omega
  exact h2
theorem rulesC_inv:∀ (i:Nat) (c:Cur) (D:List RuleD),DInv D→DInv (rulesC i c D).1∧(rulesC i c D).1.length=D.length+i
 | 0,c,D,h=>⟨h,rfl⟩
 | i+1,c,D,h=>by
  rw [rulesC]
  have hb:=bel_in c (n:=10) (by omega)
  obtain ⟨h1,h2⟩:=rulesC_inv i (mkR (bel c 10).2 D (1+(bel c 10).1)).2 (D++[(mkR (bel c 10).2 D (1+(bel c 10).1)).1]) (h.snoc (mkR_ok h _ (by omega)))
  refine ⟨h1,?_⟩
  rw [h2]
  simp
  omega
theorem descC_inv (c:Cur):DInv (descC c).1∧(descC c).1.length≤6:=by
 unfold descC
 obtain ⟨h1,h2⟩:=rulesC_inv (bel (mkR c [] 1).2 6).1.toNat (bel (mkR c [] 1).2 6).2 [(mkR c [] 1).1] (DInv.one c)
 have:=bel_in (mkR c [] 1).2 (n:=6) (by omega)
 refine ⟨h1,?_⟩
 simp only
 rw [h2]
 simp
 omega
theorem DInv.desc {D:List RuleD} (h:DInv D) (hl:D.length≤9):descP D:=by
 refine ⟨⟨h.len,by omega⟩,fun i hi=>?_⟩
 have hd:=h.rule i hi
 have hr:ruleAt D (i:Int)=some D[i]:=by simp [ruleAt,hi]
 obtain ⟨w,hw,e⟩:=hd.name
 refine vRule_yes hr ⟨by rw [e];exact names_ok w (List.mem_append_left _ hw) i (by omega),fun j hj hji=>?_,hd.kids,?_⟩
 ·obtain ⟨w',_,e'⟩:=(h.rule j hj).name
  rw [e,e']
  exact names_ne (by omega) (by omega) (by omega)
 ·have:=hd.kd (D.drop i)
  rwa [List.take_append_drop] at this
theorem descC_ok (c:Cur):descP (descC c).1:=(descC_inv c).1.desc (by have:=(descC_inv c).2;omega)
end Go.Proofs.YtndnefealooolaaGreatDoor
namespace Go.Proofs.YtndnefealooolaaGreatDoor
open Go.RowKit

def mkIt (g:Nat→Cur→V × Cur):List Nat→Cur→List V × Cur
 | [],c=>([],c)
 | k::ks,c=>((g k c).1::(mkIt g ks (g k c).2).1,(mkIt g ks (g k c).2).2)
theorem mkIt_snoc (g:Nat→Cur→V × Cur):∀ (ks:List Nat) (k:Nat) (c:Cur),mkIt g (ks++[k]) c=((mkIt g ks c).1++[(g k (mkIt g ks c).2).1],(g k (mkIt g ks c).2).2)
 | [],k,c=>rfl
 | x::ks,k,c=>by
  rw [List.cons_append,mkIt,mkIt_snoc g ks k]
  rfl
theorem mkIt_b {g:Nat→Cur→V × Cur} (h:∀ k c,(g k c).2.b=c.b):∀ (ks:List Nat) (c:Cur),(mkIt g ks c).2.b=c.b
 | [],c=>rfl
 | k::ks,c=>by rw [mkIt];simp only;rw [mkIt_b h ks,h]
theorem mkIt_len (g:Nat→Cur→V × Cur):∀ (ks:List Nat) (c:Cur),(mkIt g ks c).1.length=ks.length
 | [],c=>rfl
 | k::ks,c=>by rw [mkIt];simp [mkIt_len g ks]
def vBy (r:RuleD) (m:Int) (c:Cur):List UInt8 × Cur:=
 let p:=bysC (bel c (min m 6+1)).1.toNat (bel c (min m 6+1)).2
 if r.kind=10∧0<p.1.length then
  if (once p.2 2).1=true then (p.1.set 0 (UInt8.ofNat (pickI (once p.2 2).2 [((r.bytes.headD 0).toNat:Int),92]).1.toNat),(pickI (once p.2 2).2 [((r.bytes.headD 0).toNat:Int),92]).2)
  else (p.1,(once p.2 2).2)
 else p
def vMk (D:List RuleD):Nat→Nat→Int→Cur→V × Cur
 | 0,_,_,c=>(V0,c)
 | f+1,i,m,c=>
  let r:=ruleD D i
  let g:=fun k c=>vMk D f k (m.tdiv 2) c
  if r.kind=1 then (.mk (bel c (min (2 ^ (8*r.size.toNat)) 70000)).1 [] [],(bel c (min (2 ^ (8*r.size.toNat)) 70000)).2)
  else if r.kind=3 then (.mk 0 (bysC r.size.toNat c).1 [],(bysC r.size.toNat c).2)
  else if r.kind=4∨r.kind=10 then (.mk 0 (vBy r m c).1 [],(vBy r m c).2)
  else if r.kind=5 then
   let s:=mkIt g (List.replicate (bel c (min m 3+1)).1.toNat (kid1 r).toNat) (bel c (min m 3+1)).2
   (.mk 0 [] s.1,s.2)
  else if r.kind=6 then
   let s:=mkIt g (r.kids.map Int.toNat) c
   (.mk 0 [] s.1,s.2)
  else if r.kind=7 then
   let k:=bel c r.tags.length
   let p:=g (r.kids.getD (k.1.toNat+1) 0).toNat k.2
   (.mk (r.tags.getD k.1.toNat 0) [] [p.1],p.2)
  else if r.kind=8 then
   if (once c 2).1=true then (.mk 0 [] [(g (kid0 r).toNat (once c 2).2).1],(g (kid0 r).toNat (once c 2).2).2)
   else (.mk 0 [] [],(once c 2).2)
  else if r.kind=9 then (.mk 0 [] [(g (kid0 r).toNat c).1],(g (kid0 r).toNat c).2)
  else (V0,c)
theorem vBy_b (r:RuleD) (m:Int) (c:Cur):(vBy r m c).2.b=c.b:=by
 unfold vBy
 simp only
 split
 ·split<;>simp only [pickI_b,once,bel_b,bysC_b]
 ·simp only [bysC_b,bel_b]
theorem vMk_b (D:List RuleD):∀ (f i:Nat) (m:Int) (c:Cur),(vMk D f i m c).2.b=c.b
 | 0,_,_,_=>rfl
 | f+1,i,m,c=>by
  have H:∀ k c,(vMk D f k (m.tdiv 2) c).2.b=c.b:=fun k c=>vMk_b D f k _ c
  unfold vMk
  simp only
  split
  ·exact bel_b _ _
  split
  ·exact bysC_b _ _
  split
  ·exact vBy_b _ _ _
  split
  ·rw [mkIt_b H,bel_b]
  split
  ·rw [mkIt_b H]
  split
  ·rw [H,bel_b]
  split
  ·split
   ·rw [H];exact bel_b _ _
   ·exact bel_b _ _
  split
  ·rw [H]
  ·rfl
theorem vBy_len (r:RuleD) {m:Int} (hm:0≤m) (c:Cur):(vBy r m c).1.length≤6:=by
 have h1:=bel_in c (n:=min m 6+1) (by omega)
 have h2:=bysC_len (bel c (min m 6+1)).2 (bel c (min m 6+1)).1.toNat
 unfold vBy
 simp only
 split
 ·split
  ·simp only [List.length_set,h2];omega
  ·simp only [h2];omega
 ·simp only [h2];omega
end Go.Proofs.YtndnefealooolaaGreatDoor
