/-
 Plain functions: parts of texts, numbers as texts, steps of paths.
-/
import Derived.Test.YtomfggmmhkpeeaaGreatDoorKP
import Derived.Lib.ItoaMem
set_option linter.unusedSimpArgs false
set_option linter.unusedVariables false
set_option linter.defProp false
set_option maxRecDepth 100000
set_option maxHeartbeats 4000000
namespace Go.Proofs.YtomfggmmhkpeeaaGreatDoor
open Go.RowKit

def splG (s:ByteArray) (c:UInt8):Nat→List ByteArray × Nat
 | 0=>([],0)
 | n+1=>if s[n]?=some c then ((splG s c n).1++[s.extract (splG s c n).2 n],n+1) else splG s c n
theorem splG_le (s:ByteArray) (c:UInt8):∀ n,(splG s c n).2≤n
 | 0=>Nat.le_refl _
 | n+1=>by
  rw [splG]
  split
  ·exact Nat.le_refl _
  ·have:=splG_le s c n;omega
theorem splG_len (s:ByteArray) (c:UInt8):∀ n,(splG s c n).1.length≤n
 | 0=>Nat.le_refl _
 | n+1=>by
  have:=splG_len s c n
  rw [splG]
  split
  ·simp only [List.length_append,List.length_singleton];omega
  ·omega
def splT (s:ByteArray) (c:UInt8):List ByteArray:=(splG s c s.size).1++[s.extract (splG s c s.size).2 s.size]
theorem splT_len (s:ByteArray) (c:UInt8):(splT s c).length≤s.size+1:=by
 have:=splG_len s c s.size
 simp only [splT,List.length_append,List.length_singleton];omega
theorem splG_hit {s:ByteArray}{c:UInt8} (h:s[0]?=some c):∀ n,1≤n→∃ t,(splG s c n).1=ByteArray.empty::t
 | 0,h0=>by omega
 | 1,_=>by
  refine ⟨[],?_⟩
  rw [splG,if_pos h,splG]
  simp
 | n+2,_=>by
  obtain ⟨t,ht⟩:=splG_hit h (n+1) (by omega)
  rw [splG]
  split
  ·exact ⟨t++[s.extract (splG s c (n+1)).2 (n+1)],by rw [ht];rfl⟩
  ·exact ⟨t,ht⟩
theorem splG_no {s:ByteArray}{c:UInt8} (h:s[0]?≠some c):∀ n,n≤s.size→((splG s c n).1=[]∧(splG s c n).2=0)∨∃ x t,(splG s c n).1=x::t∧x≠ByteArray.empty
 | 0,_=>.inl ⟨rfl,rfl⟩
 | n+1,hn=>by
  have h1:=splG_no h n (by omega)
  rw [splG]
  split
  ·rename_i hc
   right
   rcases h1 with ⟨h1,h2⟩|⟨x,t,h1,h2⟩
   ·refine ⟨s.extract 0 n,[],by rw [h1,h2];rfl,fun e=>?_⟩
    have hz:=congrArg ByteArray.size e
    simp only [ByteArray.size_extract,ByteArray.size_empty] at hz
    obtain rfl:n=0:=by omega
    exact h hc
   ·exact ⟨x,t++[s.extract (splG s c n).2 n],by rw [h1];rfl,h2⟩
  ·exact h1
theorem splT_hit {s:ByteArray}{c:UInt8} (h:s[0]?=some c) (hs:1≤s.size):∃ t,splT s c=ByteArray.empty::t∧1≤t.length:=by
 obtain ⟨t,ht⟩:=splG_hit h s.size hs
 exact ⟨t++[s.extract (splG s c s.size).2 s.size],by rw [splT,ht];rfl,by simp⟩
theorem splT_no {s:ByteArray}{c:UInt8} (h:s[0]?≠some c) (hs:1≤s.size):∃ x t,splT s c=x::t∧x≠ByteArray.empty:=by
 rcases splG_no h s.size (Nat.le_refl _) with ⟨h1,h2⟩|⟨x,t,h1,h2⟩
 ·refine ⟨s.extract 0 s.size,[],by rw [splT,h1,h2];rfl,fun e=>?_⟩
  have hz:=congrArg ByteArray.size e
  simp only [ByteArray.size_extract,ByteArray.size_empty] at hz
  omega
 ·exact ⟨x,_,by rw [splT,h1];rfl,h2⟩

/-! Numbers as texts. -/
def digP (c:UInt8):Prop:=48≤c.toNat∧c.toNat≤57
def numL (l:List UInt8):Nat:=l.foldl (fun a c=>10*a+(c.toNat - 48)) 0
theorem numL_snoc (l:List UInt8) (c:UInt8):numL (l++[c])=10*numL l+(c.toNat - 48):=by simp [numL]
theorem numL_take {l:List UInt8}{i:Nat} (h:i<l.length):numL (l.take (i+1))=10*numL (l.take i)+(l[i].toNat - 48):=by
 rw [List.take_succ_eq_append_getElem h,numL_snoc]
theorem numL_lt (l:List UInt8) (h:∀ c∈l,digP c):numL l<10 ^ l.length:=by
 have key:∀ (n:Nat) (l:List UInt8),l.length=n→(∀ c∈l,digP c)→numL l<10 ^ n:=by
  intro n
  induction n with
  | zero=>intro l hl _;obtain rfl:=List.length_eq_zero_iff.1 hl;simp [numL]
  | succ n ih=>
   intro l hl h
   obtain ⟨l',c,rfl⟩:∃ l' c,l=l'++[c]:=⟨l.dropLast,l.getLast (by intro e;rw [e] at hl;simp at hl),(List.dropLast_concat_getLast _).symm⟩
   have h1:=ih l' (by simp at hl;exact hl) fun x hx=>h x (List.mem_append_left _ hx)
   have h2:=h c (by simp)
   unfold digP at h2
   rw [numL_snoc,Nat.pow_succ]
   omega
 exact key _ l rfl h
def parOk (l:List UInt8):Prop:=(1≤l.length∧l.length≤13)∧(∀ c∈l,digP c)∧¬(l[0]?=some 48∧1<l.length)∧numL l≤1000000000000
open Classical in
noncomputable def parP (s:ByteArray):Option Nat:=if parOk s.data.toList then some (numL s.data.toList) else none
theorem dec_pos (n:Nat):0<(Lib.decDigits n).length:=by
 rw [Lib.decDigits]
 split
 ·simp
 ·simp
theorem dec_dig (n:Nat):∀ c∈Lib.decDigits n,digP c:=by
 induction n using Nat.strongRecOn with
 | ind n ih=>
  intro c hc
  have hd:∀ d:Nat,d<10→digP (UInt8.ofNat (48+d)):=fun d hd=>by
   unfold digP
   rw [UInt8.toNat_ofNat']
   omega
  by_cases h:n<10
  ·rw [Lib.decDigits,dif_pos h,List.mem_singleton] at hc
   subst hc
   exact hd n h
  ·rw [Lib.decDigits,dif_neg h,List.mem_append,List.mem_singleton] at hc
   rcases hc with hc|rfl
   ·exact ih (n / 10) (by omega) c hc
   ·exact hd _ (by omega)
theorem num_dec (n:Nat):numL (Lib.decDigits n)=n:=by
 induction n using Nat.strongRecOn with
 | ind n ih=>
  by_cases h:n<10
  ·rw [Lib.decDigits,dif_pos h]
   simp only [numL,List.foldl_cons,List.foldl_nil,UInt8.toNat_ofNat']
   omega
  ·rw [Lib.decDigits,dif_neg h,numL_snoc,ih (n / 10) (by omega),UInt8.toNat_ofNat']
   omega
theorem dec_le:∀ (k n:Nat),n<10 ^ k→1≤k→(Lib.decDigits n).length≤k
 | 0,n,_,hk=>by omega
 | k+1,n,h,_=>by
  by_cases h1:n<10
  ·rw [Lib.decDigits,dif_pos h1];simp
  ·rw [Lib.decDigits,dif_neg h1]
   have hk:1≤k:=by
    rcases Nat.eq_zero_or_pos k with rfl|h2
    ·simp at h;omega
    ·exact h2
   have:=dec_le k (n / 10) (by rw [Nat.pow_succ] at h;omega) hk
   simp only [List.length_append,List.length_singleton];omega
theorem dec_head:∀ n:Nat,0<n→∀ c,(Lib.decDigits n)[0]?=some c→c.toNat≠48:=by
 intro n
 induction n using Nat.strongRecOn with
 | ind n ih=>
  intro hn c hc
  by_cases h:n<10
  ·rw [Lib.decDigits,dif_pos h] at hc
   simp only [List.getElem?_cons_zero,Option.some.injEq] at hc
   subst hc
   rw [UInt8.toNat_ofNat']
   omega
  ·rw [Lib.decDigits,dif_neg h] at hc
   rw [List.getElem?_append_left (dec_pos _)] at hc
   exact ih (n / 10) (by omega) (by omega) c hc
theorem dec_num:∀ (l:List UInt8),1≤l.length→(∀ c∈l,digP c)→¬(l[0]?=some 48∧1<l.length)→Lib.decDigits (numL l)=l:=by
 have key:∀ (n:Nat) (l:List UInt8),l.length=n→1≤l.length→(∀ c∈l,digP c)→¬(l[0]?=some 48∧1<l.length)→Lib.decDigits (numL l)=l:=by
  intro n
  induction n with
  | zero=>intro l hl h;omega
  | succ n ih=>
  intro l hl _ hd hz
  obtain ⟨l',c,rfl⟩:∃ l' c,l=l'++[c]:=⟨l.dropLast,l.getLast (by intro e;rw [e] at hl;simp at hl),(List.dropLast_concat_getLast _).symm⟩
  have hl':l'.length=n:=by simp at hl;exact hl
  revert hd hz
  generalize l'=l at hl'
  intro hd hz
  have hc:=hd c (by simp)
  unfold digP at hc
  have e48:UInt8.ofNat (48+(c.toNat - 48))=c:=by rw [show 48+(c.toNat - 48)=c.toNat by omega];simp
  rw [numL_snoc]
  rcases Nat.eq_zero_or_pos l.length with h0|h0
  ·obtain rfl:=List.length_eq_zero_iff.1 h0
   have:numL []=0:=rfl
   rw [this,Nat.mul_zero,Nat.zero_add,Lib.decDigits,dif_pos (by omega),e48]
   rfl
  ·have hz':l[0]?≠some 48:=fun e=>hz ⟨by rw [List.getElem?_append_left h0];exact e,by simp;omega⟩
   have h1:=ih l hl' h0 (fun x hx=>hd x (List.mem_append_left _ hx)) (fun h=>hz' h.1)
   have hpos:0<numL l:=by
    rcases Nat.eq_zero_or_pos (numL l) with h2|h2
    ·exfalso
     rw [h2,Lib.decDigits,dif_pos (by omega)] at h1
     exact hz' (by rw [←h1];rfl)
    ·exact h2
   rw [Lib.decDigits,dif_neg (by omega),show (10*numL l+(c.toNat - 48)) / 10=numL l by omega,show (10*numL l+(c.toNat - 48)) % 10=c.toNat - 48 by omega,h1,e48]
 exact fun l h=>key _ l rfl h
theorem parP_some {s:ByteArray}{n:Nat} (h:parP s=some n):n≤1000000000000∧s.data.toList=Lib.decDigits n:=by
 unfold parP at h
 split at h
 ·rename_i hc
  obtain ⟨h1,h2,h3,h4⟩:=hc
  obtain rfl:=Option.some.inj h
  exact ⟨h4,(dec_num _ h1.1 h2 h3).symm⟩
 ·cases h
theorem parP_dec {s:ByteArray}{n:Nat} (hn:n≤1000000000000) (h:s.data.toList=Lib.decDigits n):parP s=some n:=by
 have h1:=dec_pos n
 have h2:=dec_le 13 n (by omega) (by omega)
 have h3:¬((Lib.decDigits n)[0]?=some 48∧1<(Lib.decDigits n).length):=fun hz=>by
  rcases Nat.eq_zero_or_pos n with rfl|h0
  ·have:Lib.decDigits 0=[48]:=by rw [Lib.decDigits,dif_pos (by omega)];rfl
   rw [this] at hz
   simp at hz
  ·exact dec_head n h0 _ hz.1 rfl
 unfold parP
 rw [h,if_pos ⟨⟨h1,h2⟩,dec_dig n,h3,by rw [num_dec];exact hn⟩,num_dec]
end Go.Proofs.YtomfggmmhkpeeaaGreatDoor
