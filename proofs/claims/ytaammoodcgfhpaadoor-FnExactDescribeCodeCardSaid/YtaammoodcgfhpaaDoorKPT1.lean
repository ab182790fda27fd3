/-
 Plain functions: parts of texts, numbers as texts, steps of paths.
-/
import Derived.Test.YtaammoodcgfhpaaDoorKP
import Derived.Lib.ItoaMem
set_option linter.unusedSimpArgs false
set_option linter.unusedVariables false
set_option linter.defProp false
set_option maxRecDepth 100000
set_option maxHeartbeats 4000000
namespace Go.Proofs.YtaammoodcgfhpaaDoor
open Go.RowKit

def splG (s:ByteArray) (c:UInt8):Nat→List ByteArray × Nat
 | 0=>([],0)
 | n+1=>if s[n]?=some c then ((splG s c n).1++[s.extract (splG s c n).2 n],n+1) else splG s c n
def splT (s:ByteArray) (c:UInt8):List ByteArray:=(splG s c s.size).1++[s.extract (splG s c s.size).2 s.size]
/-! Numbers as texts. -/
def digP (c:UInt8):Prop:=48≤c.toNat∧c.toNat≤57
def numL (l:List UInt8):Nat:=l.foldl (fun a c=>10*a+(c.toNat - 48)) 0
def parOk (l:List UInt8):Prop:=(1≤l.length∧l.length≤13)∧(∀ c∈l,digP c)∧¬(l[0]?=some 48∧1<l.length)∧numL l≤1000000000000
open Classical in
noncomputable def parP (s:ByteArray):Option Nat:=if parOk s.data.toList then some (numL s.data.toList) else none
theorem dec_le:∀ (k n:Nat),n<10 ^ k→1≤k→(Lib.decDigits n).length≤k
 | 0,n,_,hk=>by omega
 | k+1,n,h,_=>by
  by_cases h1:n<10
  ·rw [Lib.decDigits,dif_pos h1];simp
  ·rw [Lib.decDigits,dif_neg h1]
   have hk:1≤k:=by
    rcases Nat.eq_zero_or_pos k with rfl|h2
    ·simp at h;omega
    ·exact h2
   have:=dec_le k (n / 10) (by rw [Nat.pow_succ] at h;omega) hk
   simp only [List.length_append,List.length_singleton];omega
end Go.Proofs.YtaammoodcgfhpaaDoor
