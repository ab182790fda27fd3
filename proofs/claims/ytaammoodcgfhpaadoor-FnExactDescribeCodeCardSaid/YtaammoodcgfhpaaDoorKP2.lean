/-
 Plain functions: which values are those of a rule.

 Plain functions: bounds of values, equal values.
-/
import Derived.Test.YtaammoodcgfhpaaDoorKP
set_option linter.unusedSimpArgs false
set_option linter.unusedVariables false
set_option linter.defProp false
set_option maxRecDepth 100000
set_option maxHeartbeats 4000000
namespace Go.Proofs.YtaammoodcgfhpaaDoor
open Go.RowKit

def ownV (D:List RuleD) (r:RuleD) (n:Int) (lb lv:Nat):Bool:=
 if r.kind=1 then decide (0≤n∧n≤2 ^ (8*r.size.toNat) - 1∧lb=0∧lv=0)
 else if r.kind=2 then decide (n=0∧lb=0∧lv=0)
 else if r.kind=3 then decide (n=0∧(lb:Int)=r.size∧lv=0)
 else if r.kind=4 then decide (n=0∧lb≤400∧(lb:Int)≤limD D (kid0 r)∧lv=0)
 else if r.kind=10 then decide (n=0∧lb≤400∧lv=0)
 else if r.kind=5 then decide (n=0∧lb=0∧lv≤40∧(lv:Int)≤limD D (kid0 r))
 else if r.kind=6 then decide (n=0∧lb=0∧lv=r.kids.length)
 else if r.kind=7 then decide (lb=0∧lv=1∧0≤itemK r n 0)
 else if r.kind=8 then decide (n=0∧lb=0∧lv≤1)
 else decide (n=0∧lb=0∧lv=1)
mutual
def validV (D:List RuleD) (i:Int):V→Bool
 | .mk n bs vs=>ownV D (ruleD D i) n bs.length vs.length && validVs D (ruleD D i) n 0 vs
def validVs (D:List RuleD) (r:RuleD) (n:Int) (k:Nat):List V→Bool
 | []=>true
 | v::vs=>validV D (itemK r n k) v && validVs D r n (k+1) vs
end
section
variable {D:List RuleD}{r:RuleD}{n:Int}{lb lv:Nat}
end
end Go.Proofs.YtaammoodcgfhpaaDoor
namespace Go.Proofs.YtaammoodcgfhpaaDoor
open Go.RowKit

mutual
def VB (M:Nat):V→Prop
 | .mk _ bs vs=>bs.length≤M∧vs.length≤M∧VBs M vs
def VBs (M:Nat):List V→Prop
 | []=>True
 | v::vs=>VB M v∧VBs M vs
end
theorem VBs.mk {M:Nat}:∀ {vs:List V},(∀ v∈vs,VB M v)→VBs M vs
 | [],_=>by unfold VBs;trivial
 | x::vs,h=>by
  unfold VBs
  exact ⟨h x (by simp),VBs.mk fun v hv=>h v (by simp [hv])⟩

mutual
def eqV:V→V→Bool
 | .mk n bs vs,.mk m cs ws=>n==m && (bs==cs && (vs.length==ws.length && eqVs vs ws))
def eqVs:List V→List V→Bool
 | v::vs,w::ws=>eqV v w && eqVs vs ws
 | _,_=>true
end
mutual
theorem eqV_refl:∀ v:V,eqV v v=true
 | .mk n bs vs=>by unfold eqV;simp [eqVs_refl vs]
theorem eqVs_refl:∀ vs:List V,eqVs vs vs=true
 | []=>by unfold eqVs;rfl
 | v::vs=>by unfold eqVs;rw [eqV_refl v,eqVs_refl vs];rfl
end
mutual
theorem eqV_eq:∀ {v w:V},eqV v w=true→v=w
 | .mk n bs vs,.mk m cs ws,h=>by
  unfold eqV at h
  simp only [Bool.and_eq_true,beq_iff_eq] at h
  obtain ⟨rfl,rfl,hl,h⟩:=h
  rw [eqVs_eq hl h]
theorem eqVs_eq:∀ {vs ws:List V},vs.length=ws.length→eqVs vs ws=true→vs=ws
 | [],[],_,_=>rfl
 | v::vs,w::ws,hl,h=>by
  unfold eqVs at h
  simp only [Bool.and_eq_true] at h
  simp only [List.length_cons] at hl
  rw [eqV_eq h.1,eqVs_eq (by omega) h.2]
 | [],_::_,hl,_=>by simp at hl
 | _::_,[],hl,_=>by simp at hl
end
end Go.Proofs.YtaammoodcgfhpaaDoor
