/-
 Plain functions: which values are those of a rule.

 Plain functions: bounds of values, equal values.

 Plain functions: printing a value.
-/
import Derived.Test.YtomfggmmhkpeeaaDoorKP
set_option linter.unusedSimpArgs false
set_option linter.unusedVariables false
set_option linter.defProp false
set_option maxRecDepth 100000
set_option maxHeartbeats 4000000
namespace Go.Proofs.YtomfggmmhkpeeaaDoor
open Go.RowKit

def ownV (D:List RuleD) (r:RuleD) (n:Int) (lb lv:Nat):Bool:=
 if r.kind=1 then decide (0≤n∧n≤2 ^ (8*r.size.toNat) - 1∧lb=0∧lv=0)
 else if r.kind=2 then decide (n=0∧lb=0∧lv=0)
 else if r.kind=3 then decide (n=0∧(lb:Int)=r.size∧lv=0)
 else if r.kind=4 then decide (n=0∧lb≤400∧(lb:Int)≤limD D (kid0 r)∧lv=0)
 else if r.kind=10 then decide (n=0∧lb≤400∧lv=0)
 else if r.kind=5 then decide (n=0∧lb=0∧lv≤40∧(lv:Int)≤limD D (kid0 r))
 else if r.kind=6 then decide (n=0∧lb=0∧lv=r.kids.length)
 else if r.kind=7 then decide (lb=0∧lv=1∧0≤itemK r n 0)
 else if r.kind=8 then decide (n=0∧lb=0∧lv≤1)
 else decide (n=0∧lb=0∧lv=1)
mutual
def validV (D:List RuleD) (i:Int):V→Bool
 | .mk n bs vs=>ownV D (ruleD D i) n bs.length vs.length && validVs D (ruleD D i) n 0 vs
def validVs (D:List RuleD) (r:RuleD) (n:Int) (k:Nat):List V→Bool
 | []=>true
 | v::vs=>validV D (itemK r n k) v && validVs D r n (k+1) vs
end
section
variable {D:List RuleD}{r:RuleD}{n:Int}{lb lv:Nat}
theorem ownV_1 (h:r.kind=1):ownV D r n lb lv=decide (0≤n∧n≤2 ^ (8*r.size.toNat) - 1∧lb=0∧lv=0):=by rw [ownV,if_pos h]
theorem ownV_2 (h:r.kind=2):ownV D r n lb lv=decide (n=0∧lb=0∧lv=0):=by rw [ownV,if_neg (by omega),if_pos h]
theorem ownV_3 (h:r.kind=3):ownV D r n lb lv=decide (n=0∧(lb:Int)=r.size∧lv=0):=by rw [ownV,if_neg (by omega),if_neg (by omega),if_pos h]
theorem ownV_4 (h:r.kind=4):ownV D r n lb lv=decide (n=0∧lb≤400∧(lb:Int)≤limD D (kid0 r)∧lv=0):=by rw [ownV,if_neg (by omega),if_neg (by omega),if_neg (by omega),if_pos h]
theorem ownV_10 (h:r.kind=10):ownV D r n lb lv=decide (n=0∧lb≤400∧lv=0):=by rw [ownV,if_neg (by omega),if_neg (by omega),if_neg (by omega),if_neg (by omega),if_pos h]
theorem ownV_6 (h:r.kind=6):ownV D r n lb lv=decide (n=0∧lb=0∧lv=r.kids.length):=by rw [ownV,if_neg (by omega),if_neg (by omega),if_neg (by omega),if_neg (by omega),if_neg (by omega),if_neg (by omega),if_pos h]
theorem ownV_7 (h:r.kind=7):ownV D r n lb lv=decide (lb=0∧lv=1∧0≤itemK r n 0):=by rw [ownV,if_neg (by omega),if_neg (by omega),if_neg (by omega),if_neg (by omega),if_neg (by omega),if_neg (by omega),if_neg (by omega),if_pos h]
end
end Go.Proofs.YtomfggmmhkpeeaaDoor
namespace Go.Proofs.YtomfggmmhkpeeaaDoor
open Go.RowKit

mutual
def VB (M:Nat):V→Prop
 | .mk _ bs vs=>bs.length≤M∧vs.length≤M∧VBs M vs
def VBs (M:Nat):List V→Prop
 | []=>True
 | v::vs=>VB M v∧VBs M vs
end
theorem VBs.mk {M:Nat}:∀ {vs:List V},(∀ v∈vs,VB M v)→VBs M vs
 | [],_=>by unfold VBs;trivial
 | x::vs,h=>by
  unfold VBs
  exact ⟨h x (by simp),VBs.mk fun v hv=>h v (by simp [hv])⟩

mutual
def eqV:V→V→Bool
 | .mk n bs vs,.mk m cs ws=>n==m && (bs==cs && (vs.length==ws.length && eqVs vs ws))
def eqVs:List V→List V→Bool
 | v::vs,w::ws=>eqV v w && eqVs vs ws
 | _,_=>true
end
mutual
theorem eqV_refl:∀ v:V,eqV v v=true
 | .mk n bs vs=>by unfold eqV;simp [eqVs_refl vs]
theorem eqVs_refl:∀ vs:List V,eqVs vs vs=true
 | []=>by unfold eqVs;rfl
 | v::vs=>by unfold eqVs;rw [eqV_refl v,eqVs_refl vs];rfl
end
mutual
theorem eqV_eq:∀ {v w:V},eqV v w=true→v=w
 | .mk n bs vs,.mk m cs ws,h=>by
  unfold eqV at h
  simp only [Bool.and_eq_true,beq_iff_eq] at h
  obtain ⟨rfl,rfl,hl,h⟩:=h
  rw [eqVs_eq hl h]
theorem eqVs_eq:∀ {vs ws:List V},vs.length=ws.length→eqVs vs ws=true→vs=ws
 | [],[],_,_=>rfl
 | v::vs,w::ws,hl,h=>by
  unfold eqVs at h
  simp only [Bool.and_eq_true] at h
  simp only [List.length_cons] at hl
  rw [eqV_eq h.1,eqVs_eq (by omega) h.2]
 | [],_::_,hl,_=>by simp at hl
 | _::_,[],hl,_=>by simp at hl
end
end Go.Proofs.YtomfggmmhkpeeaaDoor
namespace Go.Proofs.YtomfggmmhkpeeaaDoor
open Go.RowKit

def beB:Nat→Nat→List UInt8
 | 0,_=>[]
 | s+1,n=>beB s (n / 256)++[UInt8.ofNat (n % 256)]
theorem beB_len:∀ s n,(beB s n).length=s
 | 0,_=>rfl
 | s+1,n=>by simp [beB,beB_len s]
def intB (r:RuleD) (n:Nat):List UInt8:=if r.little then (beB r.size.toNat n).reverse else beB r.size.toNat n
theorem intB_len (r:RuleD) (n:Nat):(intB r n).length=r.size.toNat:=by
 unfold intB
 split<;>simp [beB_len]
def escB (t:UInt8):List UInt8→List UInt8
 | []=>[t]
 | c::l=>if c=t∨c=92 then 92::c::escB t l else c::escB t l
theorem escB_len (t:UInt8):∀ l,(escB t l).length≤2*l.length+1
 | []=>by simp [escB]
 | c::l=>by
  have:=escB_len t l
  unfold escB
  split<;>(simp only [List.length_cons];omega)
def headB (D:List RuleD) (r:RuleD) (n:Int) (bs:List UInt8) (lv:Nat):List UInt8:=
 if r.kind=1 then intB r n.toNat
 else if r.kind=2 then r.bytes
 else if r.kind=3 then bs
 else if r.kind=4 then intB (ruleD D (kid0 r)) bs.length++bs
 else if r.kind=5 then intB (ruleD D (kid0 r)) lv
 else if r.kind=7 then intB (ruleD D (kid0 r)) n.toNat
 else if r.kind=8 then [UInt8.ofNat lv]
 else if r.kind=10 then escB (r.bytes.headD 0) bs
 else []
def tailB (r:RuleD) (inner:List UInt8):List UInt8:=if r.kind=9 then [UInt8.ofNat (sumB inner)] else []
mutual
def prV (D:List RuleD) (i:Int):V→List UInt8
 | .mk n bs vs=>headB D (ruleD D i) n bs vs.length++(prVs D (ruleD D i) n 0 vs++tailB (ruleD D i) (prVs D (ruleD D i) n 0 vs))
def prVs (D:List RuleD) (r:RuleD) (n:Int) (k:Nat):List V→List UInt8
 | []=>[]
 | v::vs=>prV D (itemK r n k) v++prVs D r n (k+1) vs
end
mutual
def prI (D:List RuleD) (i:Int) (out:List UInt8):V→List UInt8
 | .mk n bs vs=>prIs D (ruleD D i) n 0 (out++headB D (ruleD D i) n bs vs.length) vs++tailB (ruleD D i) ((prIs D (ruleD D i) n 0 (out++headB D (ruleD D i) n bs vs.length) vs).drop (out++headB D (ruleD D i) n bs vs.length).length)
def prIs (D:List RuleD) (r:RuleD) (n:Int) (k:Nat) (out:List UInt8):List V→List UInt8
 | []=>out
 | v::vs=>if 400<out.length then out else prIs D r n (k+1) (prI D (itemK r n k) out v) vs
end
mutual
theorem prI_ge (D:List RuleD) (i:Int):∀ (v:V) (out:List UInt8),out.length≤(prI D i out v).length
 | .mk n bs vs,out=>by
  unfold prI
  have:=prIs_ge D (ruleD D i) n vs 0 (out++headB D (ruleD D i) n bs vs.length)
  simp only [List.length_append] at this ⊢
  omega
theorem prIs_ge (D:List RuleD) (r:RuleD) (n:Int):∀ (vs:List V) (k:Nat) (out:List UInt8),out.length≤(prIs D r n k out vs).length
 | [],k,out=>by unfold prIs;exact Nat.le_refl _
 | v::vs,k,out=>by
  unfold prIs
  split
  ·exact Nat.le_refl _
  ·exact Nat.le_trans (prI_ge D (itemK r n k) v out) (prIs_ge D r n vs (k+1) _)
end
theorem tailB_len (r:RuleD) (x y:List UInt8):(tailB r x).length=(tailB r y).length:=by
 unfold tailB
 split<;>rfl
mutual
theorem prI_eq (D:List RuleD) (i:Int):∀ (v:V) (out:List UInt8),(out.length+(prV D i v).length≤400→prI D i out v=out++prV D i v)∧(400<out.length+(prV D i v).length→400<(prI D i out v).length)
 | .mk n bs vs,out=>by
  obtain ⟨h1,h2⟩:=prIs_eq D (ruleD D i) n vs 0 (out++headB D (ruleD D i) n bs vs.length)
  unfold prI prV
  constructor
  ·intro h
   simp only [List.length_append] at h h1
   rw [h1 (by omega)]
   simp [List.append_assoc]
  ·intro h
   simp only [List.length_append] at h h2 ⊢
   by_cases hf:out.length+(headB D (ruleD D i) n bs vs.length).length+(prVs D (ruleD D i) n 0 vs).length≤400
   ·rw [h1 (by simp only [List.length_append];exact hf)]
    simp only [List.length_append] at h ⊢
    rw [tailB_len _ _ (prVs D (ruleD D i) n 0 vs)]
    omega
   ·have:=h2 (by omega)
    omega
theorem prIs_eq (D:List RuleD) (r:RuleD) (n:Int):∀ (vs:List V) (k:Nat) (out:List UInt8),(out.length+(prVs D r n k vs).length≤400→prIs D r n k out vs=out++prVs D r n k vs)∧(400<out.length+(prVs D r n k vs).length→400<(prIs D r n k out vs).length)
 | [],k,out=>by
  unfold prIs prVs
  exact ⟨fun _=>by simp,fun h=>by simpa using h⟩
 | v::vs,k,out=>by
  obtain ⟨h1,h2⟩:=prI_eq D (itemK r n k) v out
  unfold prIs prVs
  constructor
  ·intro h
   simp only [List.length_append] at h
   rw [if_neg (by omega),h1 (by omega)]
   rw [(prIs_eq D r n vs (k+1) _).1 (by simp only [List.length_append];omega),List.append_assoc]
  ·intro h
   simp only [List.length_append] at h
   by_cases ho:400<out.length
   ·rw [if_pos ho];exact ho
   ·rw [if_neg ho]
    by_cases hf:out.length+(prV D (itemK r n k) v).length≤400
    ·rw [h1 hf]
     exact (prIs_eq D r n vs (k+1) _).2 (by simp only [List.length_append];omega)
    ·exact Nat.lt_of_lt_of_le (h2 (by omega)) (prIs_ge D r n vs (k+1) _)
end
mutual
def totV:V→Nat
 | .mk _ bs vs=>bs.length+vs.length+totVs vs
def totVs:List V→Nat
 | []=>0
 | v::vs=>totV v+totVs vs
end
end Go.Proofs.YtomfggmmhkpeeaaDoor
