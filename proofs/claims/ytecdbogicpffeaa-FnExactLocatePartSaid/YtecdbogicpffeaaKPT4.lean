/-
 Plain functions: texts that are numbers, digit by digit.
-/
import Derived.Test.YtecdbogicpffeaaKPT3
set_option linter.unusedSimpArgs false
set_option linter.unusedVariables false
set_option linter.defProp false
set_option maxRecDepth 100000
set_option maxHeartbeats 4000000
namespace Go.Proofs.Ytecdbogicpffeaa.Eng
open Go.RowKit

theorem toL_get {s:ByteArray}{i:Nat} (h:i<s.size):s.data.toList[i]'(by simpa using h)=s[i]:=by
 rw [Array.getElem_toList];rfl
theorem toL_len (s:ByteArray):s.data.toList.length=s.size:=by simp
theorem get0 {s:ByteArray} (h:0<s.size):s.data.toList[0]?=some s[0]:=by
 rw [List.getElem?_eq_getElem (by rw [toL_len];exact h),toL_get h]
theorem parP_len {s:ByteArray} (h:¬(1≤s.size∧s.size≤13)):parP s=none:=by
 unfold parP
 rw [if_neg]
 intro hc
 have:=hc.1
 rw [toL_len] at this
 exact h this
theorem parP_dig {s:ByteArray}{i:Nat} (hi:i<s.size) (h:¬digP s[i]):parP s=none:=by
 unfold parP
 rw [if_neg]
 intro hc
 have:=hc.2.1 _ (List.getElem_mem (show i<s.data.toList.length by rw [toL_len];exact hi))
 rw [toL_get hi] at this
 exact h this
theorem parP_zero {s:ByteArray} (h1:1<s.size) (h:s[0]=48):parP s=none:=by
 unfold parP
 rw [if_neg]
 intro hc
 exact hc.2.2.1 ⟨by rw [get0 (by omega),h],by rw [toL_len];exact h1⟩
def numT (s:ByteArray) (i:Nat):Nat:=numL (s.data.toList.take i)
theorem numT_step {s:ByteArray}{i:Nat} (h:i<s.size):numT s (i+1)=10*numT s i+(s[i].toNat - 48):=by
 unfold numT
 rw [numL_take (by rw [toL_len];exact h),toL_get h]
theorem numT_all (s:ByteArray):numT s s.size=numL s.data.toList:=by
 unfold numT
 rw [List.take_of_length_le (by rw [toL_len];exact Nat.le_refl _)]
theorem numT_lt {s:ByteArray}{i:Nat} (hi:i≤s.size) (h:∀ (j:Nat) (hj:j<s.size),j<i→digP s[j]):numT s i<10 ^ i:=by
 have h1:=numL_lt (s.data.toList.take i) fun c hc=>by
  obtain ⟨j,hj,rfl⟩:=List.getElem_of_mem hc
  have hj':j<i∧j<s.size:=by
   rw [List.length_take,toL_len] at hj
   omega
  rw [List.getElem_take,toL_get hj'.2]
  exact h j hj'.2 hj'.1
 rwa [List.length_take,toL_len,Nat.min_eq_left hi] at h1
theorem pow_13 {i:Nat} (h:i≤13):10 ^ i≤10000000000000:=by
 have:(10:Nat) ^ i≤10 ^ 13:=Nat.pow_le_pow_right (by decide) h
 simpa using this
theorem digs_all {s:ByteArray} (h:∀ (j:Nat) (hj:j<s.size),digP s[j]):∀ c∈s.data.toList,digP c:=fun c hc=>by
 obtain ⟨j,hj,rfl⟩:=List.getElem_of_mem hc
 have hj':j<s.size:=by rw [toL_len] at hj;exact hj
 rw [toL_get hj']
 exact h j hj'
theorem parP_big {s:ByteArray} (h:1000000000000<numT s s.size):parP s=none:=by
 unfold parP
 rw [if_neg]
 intro hc
 have:=hc.2.2.2
 rw [numT_all] at h
 omega
theorem parP_yes {s:ByteArray} (h1:1≤s.size∧s.size≤13) (h2:∀ (j:Nat) (hj:j<s.size),digP s[j]) (h3:¬(s[0]'(by omega)=48∧1<s.size)) (h4:numT s s.size≤1000000000000):parP s=some (numT s s.size):=by
 rw [numT_all] at h4 ⊢
 unfold parP
 rw [if_pos]
 refine ⟨by rw [toL_len];exact h1,digs_all h2,fun h=>h3 ⟨?_,by have:=h.2;rwa [toL_len] at this⟩,h4⟩
 have:=h.1
 rw [get0 (by omega)] at this
 exact Option.some.inj this
theorem fmt_numT {s:ByteArray} (h1:1≤s.size∧s.size≤13) (h2:∀ (j:Nat) (hj:j<s.size),digP s[j]) (h4:numT s s.size≤1000000000000):fmtN (numT s s.size)=s↔parP s=some (numT s s.size):=fmt_par h4
theorem parP_num {s:ByteArray} (h1:1≤s.size∧s.size≤13) (h2:∀ (j:Nat) (hj:j<s.size),digP s[j]) (h4:numT s s.size≤1000000000000) (h:parP s≠some (numT s s.size)):parP s=none:=by
 by_cases h3:s[0]'(by omega)=48∧1<s.size
 ·exact parP_zero h3.2 h3.1
 ·exact absurd (parP_yes h1 h2 h3 h4) h
theorem digP_iff (c:UInt8):(decide ((48:Int)≤(c.toNat:Int)) && decide ((c.toNat:Int)≤57))=true↔digP c:=by
 unfold digP
 simp only [Bool.and_eq_true,decide_eq_true_eq]
 omega
theorem dig_wrap {c:UInt8} (h:digP c):IntKind.u8.wrap ((c.toNat:Int) - 48)=((c.toNat - 48:Nat):Int):=by
 have h1:∀ m:Int,IntKind.u8.wrap m=m % 256:=fun m=>by simp [IntKind.wrap,IntKind.bits,IntKind.signed]
 unfold digP at h
 rw [h1]
 omega
end Go.Proofs.Ytecdbogicpffeaa.Eng
