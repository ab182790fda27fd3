/-
 Plain functions: the size of what is read.
-/
import Derived.Test.YtecdbogicpffeaaGreatDoorKN10
import Derived.Test.YtecdbogicpffeaaGreatDoorKPure14
set_option linter.unusedSimpArgs false
set_option linter.unusedVariables false
set_option linter.defProp false
set_option maxRecDepth 100000
set_option maxHeartbeats 4000000
namespace Go.Proofs.YtecdbogicpffeaaGreatDoor.Eng
open Go Go.RowKit

theorem VBs.app {M:Nat}{v:V}{vs:List V} (h:VB M v) (k:VBs M vs):VBs M (v::vs):=by unfold VBs;exact ⟨h,k⟩
theorem VB_0 {M:Nat}:VB M V0:=by unfold V0 VB;exact ⟨Nat.zero_le _,Nat.zero_le _,by unfold VBs;trivial⟩
theorem rdItems_VB {M:Nat}{f:Nat→Nat→V × Nat × Nat} (hf:∀ k p,VB M (f k p).1):∀ (ks:List Nat) (p:Nat),VBs M (rdItems f ks p).1∧(rdItems f ks p).1.length≤ks.length
 | [],p=>⟨by unfold rdItems VBs;trivial,Nat.le_refl _⟩
 | k::ks,p=>by
  have h1:=hf k p
  unfold rdItems
  generalize f k p=x at *
  obtain ⟨v,q,c⟩:=x
  have h2:=rdItems_VB hf ks q
  simp only
  split
  ·generalize rdItems f ks q=y at *
   obtain ⟨vs,q2,c2⟩:=y
   simp only
   split
   ·exact ⟨VBs.app h1 h2.1,by simp only [List.length_cons];have:=h2.2;simp only at this;omega⟩
   ·exact ⟨by unfold VBs;trivial,Nat.zero_le _⟩
  ·exact ⟨by unfold VBs;trivial,Nat.zero_le _⟩
theorem mkItems_VB {M:Nat}{n:Int}{x:List V × Nat × Nat} (h:VBs M x.1) (hl:x.1.length≤M):VB M (mkItems n x).1:=by
 unfold mkItems
 split
 ·unfold VB;exact ⟨Nat.zero_le _,hl,h⟩
 ·exact VB_0
theorem bytesAt_VB {M:Nat}{b:List UInt8}{p n:Nat} (h:b.length≤M):VB M (bytesAt b p n).1:=by
 unfold bytesAt
 split
 ·exact VB_0
 ·unfold VB;exact ⟨by simp;omega,Nat.zero_le _,by unfold VBs;trivial⟩
theorem term_VB (t:UInt8):∀ (n:Nat) (l:List UInt8),l.length≤n→∀ x,term t l=some x→x.1.length≤l.length:=by
 intro n
 induction n with
 | zero=>
  intro l hl x h
  have:l=[]:=List.eq_nil_of_length_eq_zero (by omega)
  subst this
  simp [term] at h
 | succ n ih=>
  intro l hl x h
  match l with
  | []=>simp [term] at h
  | c::r=>
   rw [term_cons] at h
   simp only [List.length_cons] at hl ⊢
   split at h
   ·have:=Option.some.inj h;subst this;simp
   ·split at h
    ·match r with
     | []=>simp at h
     | d::r2=>
      simp only [Option.map_eq_some_iff] at h
      obtain ⟨y,hy,rfl⟩:=h
      have:=ih r2 (by simp at hl;omega) y hy
      simp;omega
    ·simp only [Option.map_eq_some_iff] at h
     obtain ⟨y,hy,rfl⟩:=h
     have:=ih r (by omega) y hy
     simp;omega
theorem readTerm_VB {b:List UInt8}{p:Nat}{t:UInt8}{x:List UInt8 × Nat} (h:readTerm b p t=some x):x.1.length≤b.length:=by
 unfold readTerm at h
 simp only [Option.map_eq_some_iff] at h
 obtain ⟨y,hy,rfl⟩:=h
 have:=term_VB t _ _ (Nat.le_refl _) y hy
 simp at this ⊢
 omega
theorem rd_VB {D:List RuleD}{b:List UInt8}{M:Nat} (hD:DB M D) (hb:b.length≤M) (h40:40≤M):∀ (f rule p:Nat),VB M (rd D b f rule p).1
 | 0,rule,p=>VB_0
 | f+1,rule,p=>by
  have IT:∀ (n:Int) (ks:List Nat) (q:Nat),ks.length≤M→VB M (mkItems n (rdItems (rd D b f) ks q)).1:=fun n ks q h=>by
   have:=rdItems_VB (fun k p=>rd_VB hD hb h40 f k p) ks q
   exact mkItems_VB this.1 (by omega)
  have ITE:∀ (c:Prop) [Decidable c] (x y:V × Nat × Nat),(c→VB M x.1)→VB M y.1→VB M (if c then x else y).1:=fun c _ x y hx hy=>by
   by_cases h:c
   ·rw [if_pos h];exact hx h
   ·rw [if_neg h];exact hy
  have hk:(ruleD D rule).kids.length≤M:=by
   unfold ruleD
   cases hr:ruleAt D rule with
   | none=>exact Nat.zero_le _
   | some r=>
    unfold ruleAt at hr
    split at hr
    ·exact (hD.rule r (List.mem_of_getElem? hr)).lk
    ·cases hr
  rw [rd]
  dsimp only
  generalize ruleD D rule=r at *
  refine ITE _ _ _ (fun _=>?_) (ITE _ _ _ (fun _=>VB_0) (ITE _ _ _ (fun _=>bytesAt_VB hb) (ITE _ _ _ (fun _=>?_) (ITE _ _ _ (fun _=>IT _ _ _ (by simpa using hk)) (ITE _ _ _ (fun _=>?_) (ITE _ _ _ (fun _=>?_) (ITE _ _ _ (fun _=>?_) ?_)))))))
  ·split
   ·unfold VB;exact ⟨Nat.zero_le _,Nat.zero_le _,by unfold VBs;trivial⟩
   ·exact VB_0
  ·split
   ·rename_i x h
    unfold VB
    exact ⟨by have:=readTerm_VB h;omega,Nat.zero_le _,by unfold VBs;trivial⟩
   ·exact VB_0
  ·split
   ·exact VB_0
   ·split
    ·exact VB_0
    ·exact IT _ _ _ (by simp;omega)
  ·split
   ·exact VB_0
   ·rename_i c _
    by_cases h:1<c.toNat
    ·rw [if_pos h];exact VB_0
    ·rw [if_neg h];exact IT _ _ _ (by simp;omega)
  ·have h1:=IT 0 [(kid0 r).toNat] p (by simp;omega)
   generalize mkItems 0 (rdItems (rd D b f) [(kid0 r).toNat] p)=x at *
   obtain ⟨v,q,c⟩:=x
   dsimp only
   refine ITE _ _ _ (fun _=>?_) h1
   split
   ·exact VB_0
   ·exact ITE _ _ _ (fun _=>h1) VB_0
  ·split
   ·exact VB_0
   ·rename_i n _
    refine ITE _ _ _ (fun _=>bytesAt_VB hb) ?_
    by_cases h:40<n
    ·rw [if_pos h];exact VB_0
    ·rw [if_neg h];exact IT _ _ _ (by simp;omega)
theorem DB.mono {M N:Nat}{D:List RuleD} (h:DB M D) (k:M≤N):DB N D:=
 ⟨Nat.le_trans h.len k,fun r hr=>by
  have:=h.rule r hr
  exact ⟨Nat.le_trans this.name k,Nat.le_trans this.lb k,Nat.le_trans this.ln k,Nat.le_trans this.lt k,Nat.le_trans this.lk k,fun s hs=>Nat.le_trans (this.nm s hs) k⟩⟩

def Tq (f p:Nat) (z:V × Nat × Nat):Prop:=z.2.2=0→p+1≤z.2.1∧totV z.1+f*p≤f*z.2.1
end Go.Proofs.YtecdbogicpffeaaGreatDoor.Eng
