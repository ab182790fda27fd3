/-
 Plain functions: descriptions of which one rule is changed.

 Plain functions: the drawn descriptions with files.
-/
import Derived.Test.YtodkkldopciagaaGreatDoorKPDX
set_option linter.unusedSimpArgs false
set_option linter.unusedVariables false
set_option linter.defProp false
set_option maxRecDepth 100000
set_option maxHeartbeats 4000000
namespace Go.Proofs.YtodkkldopciagaaGreatDoor.Eng
open Go.RowKit

abbrev anyN (x:ByteArray):List ByteArray:=[{ data:=#[] },{ data:=#[65] },x,{ data:=#[118,101,114,121,108,111,110,103,110,97,109,101,105,110,100,101,101,100] }]
abbrev anyZ:List Int:=[-1,0,1,4,5,64,65]
abbrev anyB:List Int:=[0,92]
abbrev anyS:List ByteArray:=[{ data:=#[112,49] },{ data:=#[81] },{ data:=#[122] }]
abbrev anyT:List Int:=[-1,0,5,256,70000]
def chgC (D:List RuleD) (i:Nat) (r:RuleD) (s:Int × Cur):List RuleD × Cur:=
 if s.1=0 then (D.set i { r with name:=(pickT s.2 (anyN (ruleD D 0).name)).1 },(pickT s.2 (anyN (ruleD D 0).name)).2)
 else if s.1=1 then (D.set i { r with kind:=(bel s.2 13).1 - 1 },(bel s.2 13).2)
 else if s.1=2 then (D.set i { r with size:=(pickI s.2 anyZ).1 },(pickI s.2 anyZ).2)
 else if s.1=3 then (D.set i { r with little:=!r.little },s.2)
 else if s.1=4 then (D.set i { r with kids:=r.kids++[(bel s.2 8).1 - 1] },(bel s.2 8).2)
 else if s.1=5 then (D.set i { r with bytes:=r.bytes++[UInt8.ofNat (pickI s.2 anyB).1.toNat] },(pickI s.2 anyB).2)
 else if s.1=6 then (D.set i { r with names:=r.names++[(pickT s.2 anyS).1] },(pickT s.2 anyS).2)
 else if s.1=7 then (D.set i { r with tags:=r.tags++[(pickI s.2 anyT).1] },(pickI s.2 anyT).2)
 else if s.1=8 then ([],s.2)
 else (D,s.2)
def anyK (c:Cur):Nat:=(bel (descC c).2 (descC c).1.length).1.toNat
def anyW (c:Cur):Int × Cur:=bel (bel (descC c).2 (descC c).1.length).2 16
def anyC (c:Cur):List RuleD × Cur:=chgC (descC c).1 (anyK c) (ruleD (descC c).1 (anyK c:Nat)) (anyW c)
theorem chgC_b (D:List RuleD) (i:Nat) (r:RuleD) (s:Int × Cur):(chgC D i r s).2.b=s.2.b:=by
 unfold chgC
 split
 ·exact pickT_b _ _
 split
 ·exact bel_b _ _
 split
 ·exact pickI_b _ _
 split
 ·rfl
 split
 ·exact bel_b _ _
 split
 ·exact pickI_b _ _
 split
 ·exact pickT_b _ _
 split
 ·exact pickI_b _ _
 split<;>rfl
theorem anyC_b (c:Cur):(anyC c).2.b=c.b:=by
 unfold anyC anyW
 rw [chgC_b,bel_b,bel_b,descC_b]
section
variable {D:List RuleD}{i:Nat}{r:RuleD}{s:Int × Cur}
theorem chg_0 (h:s.1=0):chgC D i r s=(D.set i { r with name:=(pickT s.2 (anyN (ruleD D 0).name)).1 },(pickT s.2 (anyN (ruleD D 0).name)).2):=by unfold chgC;rw [if_pos h]
theorem chg_1 (h:s.1=1):chgC D i r s=(D.set i { r with kind:=(bel s.2 13).1 - 1 },(bel s.2 13).2):=by unfold chgC;rw [if_neg (by omega),if_pos h]
theorem chg_2 (h:s.1=2):chgC D i r s=(D.set i { r with size:=(pickI s.2 anyZ).1 },(pickI s.2 anyZ).2):=by unfold chgC;rw [if_neg (by omega),if_neg (by omega),if_pos h]
theorem chg_3 (h:s.1=3):chgC D i r s=(D.set i { r with little:=!r.little },s.2):=by unfold chgC;rw [if_neg (by omega),if_neg (by omega),if_neg (by omega),if_pos h]
theorem chg_4 (h:s.1=4):chgC D i r s=(D.set i { r with kids:=r.kids++[(bel s.2 8).1 - 1] },(bel s.2 8).2):=by unfold chgC;rw [if_neg (by omega),if_neg (by omega),if_neg (by omega),if_neg (by omega),if_pos h]
theorem chg_5 (h:s.1=5):chgC D i r s=(D.set i { r with bytes:=r.bytes++[UInt8.ofNat (pickI s.2 anyB).1.toNat] },(pickI s.2 anyB).2):=by unfold chgC;rw [if_neg (by omega),if_neg (by omega),if_neg (by omega),if_neg (by omega),if_neg (by omega),if_pos h]
theorem chg_6 (h:s.1=6):chgC D i r s=(D.set i { r with names:=r.names++[(pickT s.2 anyS).1] },(pickT s.2 anyS).2):=by unfold chgC;rw [if_neg (by omega),if_neg (by omega),if_neg (by omega),if_neg (by omega),if_neg (by omega),if_neg (by omega),if_pos h]
theorem chg_7 (h:s.1=7):chgC D i r s=(D.set i { r with tags:=r.tags++[(pickI s.2 anyT).1] },(pickI s.2 anyT).2):=by unfold chgC;rw [if_neg (by omega),if_neg (by omega),if_neg (by omega),if_neg (by omega),if_neg (by omega),if_neg (by omega),if_neg (by omega),if_pos h]
theorem chg_8 (h:s.1=8):chgC D i r s=([],s.2):=by unfold chgC;rw [if_neg (by omega),if_neg (by omega),if_neg (by omega),if_neg (by omega),if_neg (by omega),if_neg (by omega),if_neg (by omega),if_neg (by omega),if_pos h]
theorem chg_no (h:s.1≠0∧s.1≠1∧s.1≠2∧s.1≠3∧s.1≠4∧s.1≠5∧s.1≠6∧s.1≠7∧s.1≠8):chgC D i r s=(D,s.2):=by unfold chgC;rw [if_neg (by omega),if_neg (by omega),if_neg (by omega),if_neg (by omega),if_neg (by omega),if_neg (by omega),if_neg (by omega),if_neg (by omega),if_neg (by omega)]
end
theorem rulesC_get:∀ (n:Nat) (c:Cur) (D:List RuleD) (j:Nat) (r:RuleD),D[j]?=some r→(rulesC n c D).1[j]?=some r
 | 0,c,D,j,r,h=>h
 | n+1,c,D,j,r,h=>by
  rw [rulesC]
  exact rulesC_get n _ _ j r (by rw [List.getElem?_append_left (List.getElem?_eq_some_iff.1 h).1];exact h)
theorem DInv.rb {D:List RuleD} (h:DInv D) (hl:D.length≤9) {i:Nat}{r:RuleD} (hr:D[i]?=some r):RB 1000 r:=by
 have hi:=(List.getElem?_eq_some_iff.1 hr).1
 rw [List.getElem?_eq_getElem hi] at hr
 have hr:=Option.some.inj hr
 subst hr
 have hd:=h.rule i hi
 obtain ⟨w,hw,e⟩:=hd.name
 refine ⟨?_,?_,?_,?_,?_,fun s hs=>?_⟩
 ·rw [e,ByteArray.size_append]
  have h1:=words_size w hw
  have h2:=fmtN_size (n:=i) (by omega)
  omega
 ·have:=hd.bs;omega
 ·have:=hd.ns;omega
 ·have:=hd.ts;omega
 ·have:=hd.ks;omega
 ·have:=hd.nz s hs;omega
theorem DB_set {D:List RuleD}{i:Nat}{r:RuleD} (h:DB 1048576 D) (hr:RB 1048576 r):DB 1048576 (D.set i r):=by
 refine ⟨by rw [List.length_set];exact h.len,fun x hx=>?_⟩
 rcases List.mem_or_eq_of_mem_set hx with hx|rfl
 ·exact h.rule x hx
 ·exact hr
theorem anyK_lt (c:Cur):anyK c<(descC c).1.length:=by
 have h:=(descC_inv c).1.len
 have hb:=bel_in (descC c).2 (n:=(descC c).1.length) (by omega)
 unfold anyK
 omega
theorem anyN_size {c:Cur}{x:ByteArray} (hx:x.size≤1000):(pickT c (anyN x)).1.size≤1000:=by
 have h:=pickT_mem c (l:=anyN x) (by simp)
 simp only [List.mem_cons,List.not_mem_nil,or_false] at h
 rcases h with h|h|h|h
 ·rw [h];decide
 ·rw [h];decide
 ·rw [h];exact hx
 ·rw [h];decide
theorem anyS_size {c:Cur}:(pickT c anyS).1.size≤1000:=by
 have h:=pickT_mem c (l:=anyS) (by simp)
 simp only [List.mem_cons,List.not_mem_nil,or_false] at h
 rcases h with h|h|h<;>rw [h]<;>decide
theorem anyC_db (c:Cur):DB 1048576 (anyC c).1:=by
 have hI:=descC_inv c
 have hdb:DB 1048576 (descC c).1:=DInv.db hI.1 (by have:=hI.2;omega)
 have hk:=anyK_lt c
 have hr:(descC c).1[anyK c]?=some (ruleD (descC c).1 (anyK c:Nat)):=by
  have h1:=List.getElem?_eq_getElem hk
  rw [ruleD_get h1]
  exact h1
 have hrb:=DInv.rb hI.1 (by have:=hI.2;omega) hr
 have h0:(ruleD (descC c).1 0).name.size≤1000:=by
  have hl:=hI.1.len
  have h1:(descC c).1[0]?=some (ruleD (descC c).1 (0:Nat)):=by
   have h1:=List.getElem?_eq_getElem (l:=(descC c).1) (i:=0) (by omega)
   rw [ruleD_get h1]
   exact h1
  exact (DInv.rb hI.1 (by have:=hI.2;omega) h1).name
 unfold anyC
 generalize ruleD (descC c).1 (anyK c:Nat)=r at hr hrb
 generalize anyW c=s
 unfold chgC
 split
 ·exact DB_set hdb ⟨by have:=anyN_size (c:=s.2) h0;show (pickT s.2 _).1.size≤_;omega,by have:=hrb.lb;show r.bytes.length≤_;omega,by have:=hrb.ln;show r.names.length≤_;omega,by have:=hrb.lt;show r.tags.length≤_;omega,by have:=hrb.lk;show r.kids.length≤_;omega,fun x hx=>by have:=hrb.nm x hx;omega⟩
 split
 ·exact DB_set hdb ⟨by have:=hrb.name;show r.name.size≤_;omega,by have:=hrb.lb;show r.bytes.length≤_;omega,by have:=hrb.ln;show r.names.length≤_;omega,by have:=hrb.lt;show r.tags.length≤_;omega,by have:=hrb.lk;show r.kids.length≤_;omega,fun x hx=>by have:=hrb.nm x hx;omega⟩
 split
 ·exact DB_set hdb ⟨by have:=hrb.name;show r.name.size≤_;omega,by have:=hrb.lb;show r.bytes.length≤_;omega,by have:=hrb.ln;show r.names.length≤_;omega,by have:=hrb.lt;show r.tags.length≤_;omega,by have:=hrb.lk;show r.kids.length≤_;omega,fun x hx=>by have:=hrb.nm x hx;omega⟩
 split
 ·exact DB_set hdb ⟨by have:=hrb.name;show r.name.size≤_;omega,by have:=hrb.lb;show r.bytes.length≤_;omega,by have:=hrb.ln;show r.names.length≤_;omega,by have:=hrb.lt;show r.tags.length≤_;omega,by have:=hrb.lk;show r.kids.length≤_;omega,fun x hx=>by have:=hrb.nm x hx;omega⟩
 split
 ·exact DB_set hdb ⟨by have:=hrb.name;show r.name.size≤_;omega,by have:=hrb.lb;show r.bytes.length≤_;omega,by have:=hrb.ln;show r.names.length≤_;omega,by have:=hrb.lt;show r.tags.length≤_;omega,by have:=hrb.lk;show (r.kids++_).length≤_;simp;omega,fun x hx=>by have:=hrb.nm x hx;omega⟩
 split
 ·exact DB_set hdb ⟨by have:=hrb.name;show r.name.size≤_;omega,by have:=hrb.lb;show (r.bytes++_).length≤_;simp;omega,by have:=hrb.ln;show r.names.length≤_;omega,by have:=hrb.lt;show r.tags.length≤_;omega,by have:=hrb.lk;show r.kids.length≤_;omega,fun x hx=>by have:=hrb.nm x hx;omega⟩
 split
 ·exact DB_set hdb ⟨by have:=hrb.name;show r.name.size≤_;omega,by have:=hrb.lb;show r.bytes.length≤_;omega,by have:=hrb.ln;show (r.names++_).length≤_;simp;omega,by have:=hrb.lt;show r.tags.length≤_;omega,by have:=hrb.lk;show r.kids.length≤_;omega,fun x hx=>by
   rcases List.mem_append.1 hx with hx|hx
   ·have:=hrb.nm x hx;omega
   ·rw [List.mem_singleton] at hx
    subst hx
    have:=anyS_size (c:=s.2)
    omega⟩
 split
 ·exact DB_set hdb ⟨by have:=hrb.name;show r.name.size≤_;omega,by have:=hrb.lb;show r.bytes.length≤_;omega,by have:=hrb.ln;show r.names.length≤_;omega,by have:=hrb.lt;show (r.tags++_).length≤_;simp;omega,by have:=hrb.lk;show r.kids.length≤_;omega,fun x hx=>by have:=hrb.nm x hx;omega⟩
 split
 ·exact ⟨by simp,fun x hx=>by cases hx⟩
 ·exact hdb
end Go.Proofs.YtodkkldopciagaaGreatDoor.Eng
namespace Go.Proofs.YtodkkldopciagaaGreatDoor.Eng
open Go.RowKit

def rdEnd (z:(List RuleD × List UInt8) × Cur):List RuleD × List UInt8:=if (once z.2 12).1=true then ((anyC (once z.2 12).2).1,z.1.2) else z.1
def readC (B:List UInt8):List RuleD × List UInt8:=rdEnd (fileC (newC B))
def cntC (B:List UInt8):List RuleD × List UInt8:=if 60<(readC B).2.length∧(readC B).2.length≤400 then ((readC B).1,(readC B).2.take 60) else readC B
def lvpC (B:List UInt8):List RuleD × List UInt8:=if 40<(readC B).2.length then ((readC B).1,(readC B).2.take 40) else readC B
theorem fileC_db (c:Cur):DB 1048576 (fileC c).1.1:=by
 rw [fileC_1]
 have hI:=descC_inv c
 exact DInv.db hI.1 (by have:=hI.2;omega)
theorem rdEnd_db (z:(List RuleD × List UInt8) × Cur) (hz:DB 1048576 z.1.1):DB 1048576 (rdEnd z).1:=by
 unfold rdEnd
 generalize once z.2 12=o
 by_cases h:o.1=true
 ·rw [if_pos h]
  have:=anyC_db o.2
  generalize anyC o.2=w at this ⊢
  exact this
 ·rw [if_neg h]
  exact hz
theorem rdEnd_len (z:(List RuleD × List UInt8) × Cur) (hz:z.1.2.length≤204060):(rdEnd z).2.length≤204060:=by
 unfold rdEnd
 generalize once z.2 12=o
 generalize anyC o.2=w
 by_cases h:o.1=true
 ·rw [if_pos h];exact hz
 ·rw [if_neg h];exact hz
theorem readC_db (B:List UInt8):DB 1048576 (readC B).1:=rdEnd_db _ (fileC_db (newC B))
theorem readC_len (B:List UInt8):(readC B).2.length≤204060:=rdEnd_len _ (fileC_len (newC B))
end Go.Proofs.YtodkkldopciagaaGreatDoor.Eng
