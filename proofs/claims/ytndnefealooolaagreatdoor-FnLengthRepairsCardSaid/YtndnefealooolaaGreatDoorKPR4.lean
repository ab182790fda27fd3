/-
 Plain functions: bytes that are nearly a small file; a number out of the input.

 Plain functions: what a repair by a byte more or less says; how repairs are told.
-/
import Derived.Test.YtndnefealooolaaGreatDoorKPR2
import Derived.Test.YtndnefealooolaaGreatDoorKPDX
import Derived.Test.YtndnefealooolaaGreatDoorKITO
set_option linter.unusedSimpArgs false
set_option linter.unusedVariables false
set_option linter.defProp false
set_option maxRecDepth 100000
set_option maxHeartbeats 4000000
namespace Go.Proofs.YtndnefealooolaaGreatDoor.Eng
open Go.RowKit

def endS (D:List RuleD) (b:List UInt8) (c:Cur):(List RuleD × List UInt8) × Cur:=
 let s:=bel c 12
 if s.1=0 then ((D,List.replicate 41 0),s.2)
 else if s.1=1 then ((D,b++[1]),s.2)
 else ((D,b),s.2)
def midS (D:List RuleD) (b:List UInt8) (c:Cur):(List RuleD × List UInt8) × Cur:=
 endS D (mutM b (bel c 999).1 (bel (bel c 999).2 3).1.toNat) (bel (bel c 999).2 3).2
def smallC (c:Cur):(List RuleD × List UInt8) × Cur:=
 midS (descC c).1 ((prV (descC c).1 (((descC c).1.length - 1:Nat):Int) (vMk (descC c).1 (descC c).1.length ((descC c).1.length - 1) 3 (descC c).2).1).take 9) (vMk (descC c).1 (descC c).1.length ((descC c).1.length - 1) 3 (descC c).2).2
theorem endS_1 (D:List RuleD) (b:List UInt8) (c:Cur):(endS D b c).1.1=D:=by
 unfold endS
 simp only
 split
 ·rfl
 split<;>rfl
theorem endS_0 {D:List RuleD}{b:List UInt8}{c:Cur} (h:(bel c 12).1=0):endS D b c=((D,List.replicate 41 0),(bel c 12).2):=by unfold endS;simp only [h,if_true]
theorem endS_y {D:List RuleD}{b:List UInt8}{c:Cur} (h:(bel c 12).1=1):endS D b c=((D,b++[1]),(bel c 12).2):=by unfold endS;simp only;rw [if_neg (by omega),if_pos h]
theorem endS_no {D:List RuleD}{b:List UInt8}{c:Cur} (h:(bel c 12).1≠0) (h1:(bel c 12).1≠1):endS D b c=((D,b),(bel c 12).2):=by unfold endS;simp only;rw [if_neg h,if_neg h1]
theorem endS_b (D:List RuleD) (b:List UInt8) (c:Cur):(endS D b c).2.b=c.b:=by
 unfold endS
 simp only
 split
 ·rw [bel_b]
 split<;>rw [bel_b]
theorem midS_b (D:List RuleD) (b:List UInt8) (c:Cur):(midS D b c).2.b=c.b:=by
 unfold midS
 rw [endS_b,bel_b,bel_b]
theorem smallC_1 (c:Cur):(smallC c).1.1=(descC c).1:=by
 unfold smallC midS
 rw [endS_1]
theorem smallC_b (c:Cur):(smallC c).2.b=c.b:=by
 unfold smallC
 rw [midS_b,vMk_b,descC_b]
theorem mutM_len {b:List UInt8} (h:b.length≤100) (s:Int) (n:Nat):(mutM b s n).length≤120:=by
 unfold mutM
 rw [if_pos (by omega)]
 have:=mutN_len (min n 20) s b
 omega
theorem endS_len {D:List RuleD}{b:List UInt8} (h:b.length≤120) (c:Cur):(endS D b c).1.2.length≤121:=by
 unfold endS
 simp only
 split
 ·simp
 split
 ·simp only [List.length_append,List.length_singleton];omega
 ·simp only;omega
theorem smallC_len (c:Cur):(smallC c).1.2.length≤121:=by
 unfold smallC midS
 exact endS_len (mutM_len (by rw [List.length_take];omega) _ _) _
theorem smallC_db (c:Cur):DB 1048576 (smallC c).1.1:=by
 rw [smallC_1]
 exact DInv.db (descC_inv c).1 (by have:=(descC_inv c).2;omega)
def atN (B:List UInt8) (i:Nat):Int:=if h:i<B.length then (B[i].toNat:Int) else ((i:Int)*31+(B.length:Int)*7).tmod 256
def rowE (a b:List UInt8) (i n:Nat):List Int:=(List.range n).map fun k=>dE a b i k
theorem rowE_len (a b:List UInt8) (i n:Nat):(rowE a b i n).length=n:=by simp [rowE]
theorem rowE_get {a b:List UInt8}{i n k:Nat} (h:k<n):(rowE a b i n)[k]?=some (dE a b i k):=by simp [rowE,h]
theorem rowE_succ (a b:List UInt8) (i n:Nat):rowE a b i n++[dE a b i n]=rowE a b i (n+1):=by simp [rowE,List.range_succ]
end Go.Proofs.YtndnefealooolaaGreatDoor.Eng
namespace Go.Proofs.YtndnefealooolaaGreatDoor.Eng
open Go.RowKit

theorem dE_pre (b c:List UInt8) (i:Nat) (h:∀ j,j<i→b[j]?=c[j]?):∀ m,m≤i→dE b c m m≤0
 | 0,_=>by rw [dE_0];simp
 | m+1,hm=>by
  have h1:=dE_pre b c i h m (by omega)
  rw [dE_nn,if_pos (h m (by omega))]
  omega
theorem dE_less (b c:List UInt8) (i:Nat) (h:∀ j,j<i→b[j]?=c[j]?) (h2:∀ j,i≤j→b[j+1]?=c[j]?):∀ d,dE b c (i+d+1) (i+d)≤1
 | 0=>by
  have h1:=dE_pre b c i h i (Nat.le_refl _)
  cases i with
  | zero=>rw [Nat.zero_add,Nat.add_zero,dE_n0];simp
  | succ j=>rw [Nat.add_zero,dE_nn];omega
 | d+1=>by
  have h1:=dE_less b c i h h2 d
  rw [show i+(d+1)+1=(i+d+1)+1 by omega,show i+(d+1)=(i+d)+1 by omega,dE_nn,if_pos (h2 (i+d) (by omega))]
  omega
theorem dE_more (b c:List UInt8) (i:Nat) (h:∀ j,j<i→b[j]?=c[j]?) (h2:∀ j,i≤j→b[j]?=c[j+1]?):∀ d,dE b c (i+d) (i+d+1)≤1
 | 0=>by
  have h1:=dE_pre b c i h i (Nat.le_refl _)
  cases i with
  | zero=>rw [dE_0];simp
  | succ j=>rw [Nat.add_zero,dE_nn];omega
 | d+1=>by
  have h1:=dE_more b c i h h2 d
  rw [show i+(d+1)+1=(i+d+1)+1 by omega,show i+(d+1)=(i+d)+1 by omega,dE_nn,if_pos (h2 (i+d) (by omega))]
  omega
section
variable {F:List UInt8→Bool}{b:List UInt8}
theorem cut_del_len {i:Nat} (h:i<b.length):(cutB b i 1 []).length=b.length - 1:=by simp [cutB];omega
theorem cut_ins_len {i:Nat}{c:UInt8} (h:i≤b.length):(cutB b i 0 [c]).length=b.length+1:=by simp [cutB];omega
theorem dE_del {i:Nat} (h:i<b.length):dE b (cutB b i 1 []) b.length (cutB b i 1 []).length≤1:=by
 have h1:=dE_less b (cutB b i 1 []) i (fun j hj=>by
  simp only [cutB,List.append_assoc]
  rw [List.getElem?_append_left (by rw [List.length_take];omega),List.getElem?_take,if_pos hj]) (fun j hj=>by
  simp only [cutB,List.append_nil]
  rw [List.getElem?_append_right (by rw [List.length_take];omega),List.getElem?_drop,List.length_take]
  congr 1;omega) (b.length - 1 - i)
 rw [cut_del_len h]
 rwa [show i+(b.length - 1 - i)+1=b.length by omega,show i+(b.length - 1 - i)=b.length - 1 by omega] at h1
theorem dE_ins {i:Nat}{c:UInt8} (h:i≤b.length):dE b (cutB b i 0 [c]) b.length (cutB b i 0 [c]).length≤1:=by
 have h1:=dE_more b (cutB b i 0 [c]) i (fun j hj=>by
  simp only [cutB,List.append_assoc]
  rw [List.getElem?_append_left (by rw [List.length_take];omega),List.getElem?_take,if_pos hj]) (fun j hj=>by
  simp only [cutB,List.append_assoc]
  rw [List.getElem?_append_right (by rw [List.length_take];omega),List.length_take,show j+1 - min i b.length=(j - i)+1 by omega,List.singleton_append,List.getElem?_cons_succ,List.getElem?_drop]
  congr 1;omega) (b.length - i)
 rw [cut_ins_len h]
 rwa [show i+(b.length - i)=b.length by omega] at h1
theorem repL_says (F:List UInt8→Bool) (b:List UInt8) :
  (repL F b=(b,(0,0,0),true)∧b.length≤40∧F b=true)∨
  (∃ i,i<b.length∧repL F b=(cutB b i 1 [],(3,(i:Int),0),true)∧F (cutB b i 1 [])=true∧F b=false∧b.length≤40)∨
  (∃ i k,i≤b.length∧k<256∧repL F b=(cutB b i 0 [UInt8.ofNat k],(2,(i:Int),(k:Int)),true)∧F (cutB b i 0 [UInt8.ofNat k])=true∧F b=false∧b.length≤40)∨
  repL F b=(b,(0,0,0),false):=by
 unfold repL
 by_cases h1:40<b.length
 ·rw [if_pos h1]
  exact .inr (.inr (.inr rfl))
 rw [if_neg h1]
 by_cases h2:F b=true
 ·rw [if_pos h2]
  exact .inl ⟨rfl,by omega,h2⟩
 rw [if_neg h2]
 unfold tryX tryR
 cases h:fstP (fun i c=>(mutR b 3 i c).2 && F (mutR b 3 i c).1) b.length 1 with
 | some x=>
  obtain ⟨h3,h4,h5⟩:=fstP_some' h
  obtain ⟨xi,xk⟩:=x
  simp only at h3 h4 h5
  obtain rfl:xk=0:=by omega
  have z0:(((0:Nat):Int))=0:=rfl
  rw [z0,mutR_3 h3] at h5
  refine .inr (.inl ⟨xi,h3,?_,by simpa using h5,Bool.eq_false_iff.2 h2,by omega⟩)
  simp only [Option.map_some,if_true]
  rw [z0,mutR_3 h3]
 | none=>
  simp only [Option.map_none,Bool.false_eq_true,if_false]
  cases h':fstP (fun i c=>(mutR b 2 i c).2 && F (mutR b 2 i c).1) (b.length+1) 256 with
  | none=>exact .inr (.inr (.inr rfl))
  | some x=>
   obtain ⟨h3,h4,h5⟩:=fstP_some' h'
   obtain ⟨xi,xk⟩:=x
   simp only at h3 h4 h5
   rw [mutR_2 (by omega) (by omega)] at h5
   refine .inr (.inr (.inl ⟨xi,xk,by omega,h4,?_,by simpa using h5,Bool.eq_false_iff.2 h2,by omega⟩))
   simp only [Option.map_some]
   rw [mutR_2 (by omega) (by omega)]
end
theorem decDigits_le:∀ n:Nat,(Lib.decDigits n).length≤n+1:=by
 intro n
 induction n using Nat.strongRecOn with
 | ind n ih=>
  rw [Lib.decDigits]
  split
  ·simp
  ·have:=ih (n / 10) (by omega)
   simp only [List.length_append,List.length_singleton]
   omega
theorem itoB_size (n:Nat):(itoB n).size≤n+1:=by
 unfold itoB
 rw [Lib.itoa_nonneg]
 exact decDigits_le n
def fmM (k:Int) (i c:Int):ByteArray:=
 if k=3 then ⟨#[45]⟩++itoB i else (if k=1 then ⟨#[61]⟩ else if k=2 then ⟨#[43]⟩ else ⟨#[63]⟩)++itoB i++⟨#[58]⟩++itoB c
def rtP (F:List UInt8→Bool) (b:List UInt8):ByteArray:=
 if F b=true then ⟨#[111,107]⟩
 else if (repR F b).2.2=true then fmM (repR F b).2.1.1 (repR F b).2.1.2.1 (repR F b).2.1.2.2
 else if (repL F b).2.2=true then fmM (repL F b).2.1.1 (repL F b).2.1.2.1 (repL F b).2.1.2.2
 else ⟨#[110,111,110,101]⟩
theorem head_ne {x y:ByteArray} (h:x.data[0]?≠y.data[0]?):x≠y:=fun e=>h (by rw [e])
theorem fmM_ne (k i c:Int):fmM k i c≠⟨#[111,107]⟩:=by
 refine head_ne ?_
 unfold fmM
 split
 ·simp [Array.getElem?_append]
 ·split
  ·simp [Array.getElem?_append]
  ·split<;>simp [Array.getElem?_append]
theorem rtP_ok (F:List UInt8→Bool) (b:List UInt8):decide (rtP F b=⟨#[111,107]⟩)=F b:=by
 unfold rtP
 cases h:F b with
 | true=>simp
 | false=>
  rw [if_neg (by decide),decide_eq_false_iff_not]
  split
  ·exact fmM_ne _ _ _
  ·split
   ·exact fmM_ne _ _ _
   ·exact head_ne (by simp)
end Go.Proofs.YtndnefealooolaaGreatDoor.Eng
