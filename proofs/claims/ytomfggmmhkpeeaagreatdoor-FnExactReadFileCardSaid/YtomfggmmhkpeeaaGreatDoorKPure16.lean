/-
 Plain functions: the size of what is read.
-/
import Derived.Test.YtomfggmmhkpeeaaGreatDoorKN9
import Derived.Test.YtomfggmmhkpeeaaGreatDoorKPure14
set_option linter.unusedSimpArgs false
set_option linter.unusedVariables false
set_option linter.defProp false
set_option maxRecDepth 100000
set_option maxHeartbeats 4000000
namespace Go.Proofs.YtomfggmmhkpeeaaGreatDoor.Eng
open Go Go.RowKit

theorem VBs.app {M:Nat}{v:V}{vs:List V} (h:VB M v) (k:VBs M vs):VBs M (v::vs):=by unfold VBs;exact ⟨h,k⟩
theorem VB_0 {M:Nat}:VB M V0:=by unfold V0 VB;exact ⟨Nat.zero_le _,Nat.zero_le _,by unfold VBs;trivial⟩
theorem rdItems_VB {M:Nat}{f:Nat→Nat→V × Nat × Nat} (hf:∀ k p,VB M (f k p).1):∀ (ks:List Nat) (p:Nat),VBs M (rdItems f ks p).1∧(rdItems f ks p).1.length≤ks.length
 | [],p=>⟨by unfold rdItems VBs;trivial,Nat.le_refl _⟩
 | k::ks,p=>by
  have h1:=hf k p
  unfold rdItems
  generalize f k p=x at *
  obtain ⟨v,q,c⟩:=x
  have h2:=rdItems_VB hf ks q
  simp only
  split
  ·generalize rdItems f ks q=y at *
   obtain ⟨vs,q2,c2⟩:=y
   simp only
   split
   ·exact ⟨VBs.app h1 h2.1,by simp only [List.length_cons];have:=h2.2;simp only at this;omega⟩
   ·exact ⟨by unfold VBs;trivial,Nat.zero_le _⟩
  ·exact ⟨by unfold VBs;trivial,Nat.zero_le _⟩
theorem mkItems_VB {M:Nat}{n:Int}{x:List V × Nat × Nat} (h:VBs M x.1) (hl:x.1.length≤M):VB M (mkItems n x).1:=by
 unfold mkItems
 split
 ·unfold VB;exact ⟨Nat.zero_le _,hl,h⟩
 ·exact VB_0
theorem bytesAt_VB {M:Nat}{b:List UInt8}{p n:Nat} (h:b.length≤M):VB M (bytesAt b p n).1:=by
 unfold bytesAt
 split
 ·exact VB_0
 ·unfold VB;exact ⟨by simp;omega,Nat.zero_le _,by unfold VBs;trivial⟩
theorem term_VB (t:UInt8):∀ (n:Nat) (l:List UInt8),l.length≤n→∀ x,term t l=some x→x.1.length≤l.length:=by
 intro n
 induction n with
 | zero=>
  intro l hl x h
  have:l=[]:=List.eq_nil_of_length_eq_zero (by omega)
  subst this
  simp [term] at h
 | succ n ih=>
  intro l hl x h
  match l with
  | []=>simp [term] at h
  | c::r=>
   rw [term_cons] at h
   simp only [List.length_cons] at hl ⊢
   split at h
   ·have:=Option.some.inj h;subst this;simp
   ·split at h
    ·match r with
     | []=>simp at h
     | d::r2=>
      simp only [Option.map_eq_some_iff] at h
      obtain ⟨y,hy,rfl⟩:=h
      have:=ih r2 (by simp at hl;omega) y hy
      simp;omega
    ·simp only [Option.map_eq_some_iff] at h
     obtain ⟨y,hy,rfl⟩:=h
     have:=ih r (by omega) y hy
     simp;omega
theorem readTerm_VB {b:List UInt8}{p:Nat}{t:UInt8}{x:List UInt8 × Nat} (h:readTerm b p t=some x):x.1.length≤b.length:=by
 unfold readTerm at h
 simp only [Option.map_eq_some_iff] at h
 obtain ⟨y,hy,rfl⟩:=h
 have:=term_VB t _ _ (Nat.le_refl _) y hy
 simp at this ⊢
 omega
theorem rd_VB {D:List RuleD}{b:List UInt8}{M:Nat} (hD:DB M D) (hb:b.length≤M) (h40:40≤M):∀ (f rule p:Nat),VB M (rd D b f rule p).1
 | 0,rule,p=>VB_0
 | f+1,rule,p=>by
  have IT:∀ (n:Int) (ks:List Nat) (q:Nat),ks.length≤M→VB M (mkItems n (rdItems (rd D b f) ks q)).1:=fun n ks q h=>by
   have:=rdItems_VB (fun k p=>rd_VB hD hb h40 f k p) ks q
   exact mkItems_VB this.1 (by omega)
  have ITE:∀ (c:Prop) [Decidable c] (x y:V × Nat × Nat),(c→VB M x.1)→VB M y.1→VB M (if c then x else y).1:=fun c _ x y hx hy=>by
   by_cases h:c
   ·rw [if_pos h];exact hx h
   ·rw [if_neg h];exact hy
  have hk:(ruleD D rule).kids.length≤M:=by
   unfold ruleD
   cases hr:ruleAt D rule with
   | none=>exact Nat.zero_le _
   | some r=>
    unfold ruleAt at hr
    split at hr
    ·exact (hD.rule r (List.mem_of_getElem? hr)).lk
    ·cases hr
  rw [rd]
  dsimp only
  generalize ruleD D rule=r at *
  refine ITE _ _ _ (fun _=>?_) (ITE _ _ _ (fun _=>VB_0) (ITE _ _ _ (fun _=>bytesAt_VB hb) (ITE _ _ _ (fun _=>?_) (ITE _ _ _ (fun _=>IT _ _ _ (by simpa using hk)) (ITE _ _ _ (fun _=>?_) (ITE _ _ _ (fun _=>?_) (ITE _ _ _ (fun _=>?_) ?_)))))))
  ·split
   ·unfold VB;exact ⟨Nat.zero_le _,Nat.zero_le _,by unfold VBs;trivial⟩
   ·exact VB_0
  ·split
   ·rename_i x h
    unfold VB
    exact ⟨by have:=readTerm_VB h;omega,Nat.zero_le _,by unfold VBs;trivial⟩
   ·exact VB_0
  ·split
   ·exact VB_0
   ·split
    ·exact VB_0
    ·exact IT _ _ _ (by simp;omega)
  ·split
   ·exact VB_0
   ·rename_i c _
    by_cases h:1<c.toNat
    ·rw [if_pos h];exact VB_0
    ·rw [if_neg h];exact IT _ _ _ (by simp;omega)
  ·have h1:=IT 0 [(kid0 r).toNat] p (by simp;omega)
   generalize mkItems 0 (rdItems (rd D b f) [(kid0 r).toNat] p)=x at *
   obtain ⟨v,q,c⟩:=x
   dsimp only
   refine ITE _ _ _ (fun _=>?_) h1
   split
   ·exact VB_0
   ·exact ITE _ _ _ (fun _=>h1) VB_0
  ·split
   ·exact VB_0
   ·rename_i n _
    refine ITE _ _ _ (fun _=>bytesAt_VB hb) ?_
    by_cases h:40<n
    ·rw [if_pos h];exact VB_0
    ·rw [if_neg h];exact IT _ _ _ (by simp;omega)
theorem readV_VB {D:List RuleD}{b:List UInt8}{M:Nat} (hD:DB M D) (hb:b.length≤M) (h40:40≤M) (i p:Int):VB M (readV D b i p).1:=by
 unfold readV
 split
 ·exact rd_VB hD hb h40 _ _ _
 ·exact VB_0
theorem readF_VB {D:List RuleD}{b:List UInt8}{M:Nat} (hD:DB M D) (hb:b.length≤M) (h40:40≤M):VB M (readF D b).1:=by
 unfold readF
 split
 ·exact VB_0
 ·exact readV_VB hD hb h40 _ _
theorem DB.mono {M N:Nat}{D:List RuleD} (h:DB M D) (k:M≤N):DB N D:=
 ⟨Nat.le_trans h.len k,fun r hr=>by
  have:=h.rule r hr
  exact ⟨Nat.le_trans this.name k,Nat.le_trans this.lb k,Nat.le_trans this.ln k,Nat.le_trans this.lt k,Nat.le_trans this.lk k,fun s hs=>Nat.le_trans (this.nm s hs) k⟩⟩

theorem mkItems_bad {n:Int}{x:List V × Nat × Nat} (h:(mkItems n x).2.2≠0):(mkItems n x).1=V0:=by
 unfold mkItems at h ⊢
 split
 ·rename_i hc;rw [if_pos hc] at h;exact absurd rfl h
 ·rfl
theorem rd_bad (D:List RuleD) (b:List UInt8):∀ (f rule p:Nat),(rd D b f rule p).2.2≠0→(rd D b f rule p).1=V0
 | 0,_,_,_=>by rw [rd]
 | f+1,rule,p,h=>by
  have ITE:∀ (c:Prop) [Decidable c] (x y:V × Nat × Nat),(x.2.2≠0→x.1=V0)→(y.2.2≠0→y.1=V0)→((if c then x else y).2.2≠0→(if c then x else y).1=V0):=fun c _ x y hx hy=>by
   by_cases h:c
   ·rw [if_pos h];exact hx
   ·rw [if_neg h];exact hy
  have BA:∀ p n,(bytesAt b p n).2.2≠0→(bytesAt b p n).1=V0:=fun p n h=>by
   unfold bytesAt at h ⊢
   split
   ·rfl
   ·rename_i hc;rw [if_neg hc] at h;exact absurd rfl h
  revert h
  rw [rd]
  dsimp only
  refine ITE _ _ _ ?_ (ITE _ _ _ (fun _=>rfl) (ITE _ _ _ (BA _ _) (ITE _ _ _ ?_ (ITE _ _ _ mkItems_bad (ITE _ _ _ ?_ (ITE _ _ _ ?_ (ITE _ _ _ ?_ ?_)))))))
  ·split
   ·intro h;exact absurd rfl h
   ·intro _;rfl
  ·split
   ·intro h;exact absurd rfl h
   ·intro _;rfl
  ·split
   ·intro _;rfl
   ·split
    ·intro _;rfl
    ·exact mkItems_bad
  ·split
   ·intro _;rfl
   ·exact ITE _ _ _ (fun _=>rfl) mkItems_bad
  ·have h1:=mkItems_bad (n:=0) (x:=rdItems (rd D b f) [(kid0 (ruleD D rule)).toNat] p)
   generalize mkItems 0 (rdItems (rd D b f) [(kid0 (ruleD D rule)).toNat] p)=x at *
   obtain ⟨v,q,c⟩:=x
   dsimp only
   refine ITE _ _ _ ?_ h1
   split
   ·intro _;rfl
   ·exact ITE _ _ _ (fun h=>absurd rfl h) (fun _=>rfl)
  ·split
   ·intro _;rfl
   ·exact ITE _ _ _ (BA _ _) (ITE _ _ _ (fun _=>rfl) mkItems_bad)
theorem const_ge {D:List RuleD} (h:descP D) {n:Nat}{r:RuleD} (hr:D[n]?=some r) (h2:r.kind=2):1≤r.bytes.length:=by
 have hn:n<D.length:=(List.getElem?_eq_some_iff.1 hr).1
 have hrn:ruleAt D n=some r:=by simp [ruleAt,hr]
 have hp:ruleP D n r:=by
  refine Classical.byContradiction fun hq=>?_
  have:=h.2 n hn
  rw [vRule_no hrn hq] at this
  exact Bool.noConfusion this
 obtain ⟨_,_,_,hk⟩:=hp
 rw [kl_2 h2] at hk
 simp only [Bool.and_eq_true,decide_eq_true_eq] at hk
 exact hk.2.1
theorem seq_ge {D:List RuleD} (h:descP D) {n:Nat}{r:RuleD} (hr:D[n]?=some r) (h6:r.kind=6):1≤r.kids.length:=by
 have hn:n<D.length:=(List.getElem?_eq_some_iff.1 hr).1
 have hrn:ruleAt D n=some r:=by simp [ruleAt,hr]
 have hp:ruleP D n r:=by
  refine Classical.byContradiction fun hq=>?_
  have:=h.2 n hn
  rw [vRule_no hrn hq] at this
  exact Bool.noConfusion this
 obtain ⟨_,_,_,hk⟩:=hp
 rw [kl_6 h6] at hk
 simp only [Bool.and_eq_true] at hk
 have h1:=shape_len (by omega) (shapeL_b hk.1)
 have h2:=namesP_of hk.2
 omega
theorem constAt_ok {b:List UInt8}{p:Nat}:∀ (cs:List UInt8) (i:Nat),(constAt b p i cs).2=0→(constAt b p i cs).1=p+i+cs.length
 | [],i,_=>rfl
 | c::cs,i,h=>by
  rw [constAt] at h ⊢
  by_cases h1:b.length≤p+i
  ·rw [if_pos h1] at h;cases h
  ·rw [if_neg h1] at h ⊢
   by_cases h2:b[p+i]?=some c
   ·rw [if_pos h2] at h ⊢
    rw [constAt_ok cs (i+1) h,List.length_cons]
    omega
   ·rw [if_neg h2] at h;cases h
theorem term_tot (t:UInt8):∀ (n:Nat) (l:List UInt8),l.length≤n→∀ x,term t l=some x→x.1.length+1≤x.2:=by
 intro n
 induction n with
 | zero=>
  intro l hl x h
  have:l=[]:=List.eq_nil_of_length_eq_zero (by omega)
  subst this
  simp [term] at h
 | succ n ih=>
  intro l hl x h
  match l with
  | []=>simp [term] at h
  | c::r=>
   rw [term_cons] at h
   simp only [List.length_cons] at hl ⊢
   split at h
   ·have:=Option.some.inj h;subst this;simp
   ·split at h
    ·match r with
     | []=>simp at h
     | d::r2=>
      simp only [Option.map_eq_some_iff] at h
      obtain ⟨y,hy,rfl⟩:=h
      have:=ih r2 (by simp at hl;omega) y hy
      simp;omega
    ·simp only [Option.map_eq_some_iff] at h
     obtain ⟨y,hy,rfl⟩:=h
     have:=ih r (by omega) y hy
     simp;omega
def Tq (f p:Nat) (z:V × Nat × Nat):Prop:=z.2.2=0→p+1≤z.2.1∧totV z.1+f*p≤f*z.2.1
theorem Tq.bad {f p:Nat}{z:V × Nat × Nat} (h:z.2.2≠0):Tq f p z:=fun h0=>absurd h0 h
theorem rdItems_tot {f:Nat}{g:Nat→Nat→V × Nat × Nat}:∀ (ks:List Nat) (p:Nat),(∀ k∈ks,∀ p,Tq f p (g k p))→(rdItems g ks p).2.2=0→
  p+ks.length≤(rdItems g ks p).2.1∧(rdItems g ks p).1.length=ks.length∧totVs (rdItems g ks p).1+f*p≤f*(rdItems g ks p).2.1
 | [],p,_,_=>⟨Nat.le_refl _,rfl,by rw [rdItems];show totVs []+f*p≤f*p;rw [totVs];omega⟩
 | k::ks,p,H,h0=>by
  have h1:=H k (by simp) p
  unfold rdItems at h0 ⊢
  generalize g k p=x at *
  obtain ⟨v,q,c⟩:=x
  simp only at h0 ⊢
  by_cases hc:c=0
  ·rw [if_pos hc] at h0 ⊢
   have h2:=rdItems_tot (f:=f) (g:=g) ks q (fun k hk=>H k (by simp [hk]))
   generalize rdItems g ks q=y at *
   obtain ⟨vs,q2,c2⟩:=y
   simp only at h0 h2 ⊢
   by_cases hc2:c2=0
   ·rw [if_pos hc2] at h0 ⊢
    obtain ⟨a1,a2⟩:=h1 hc
    obtain ⟨b1,b2,b3⟩:=h2 hc2
    simp only at a1 a2 ⊢
    refine ⟨by rw [List.length_cons];omega,by rw [List.length_cons,List.length_cons,b2],?_⟩
    rw [totVs]
    omega
   ·rw [if_neg hc2] at h0;exact absurd h0 hc2
  ·rw [if_neg hc] at h0;exact absurd h0 hc
theorem mkItems_tot {f p0 p:Nat}{n:Int}{g:Nat→Nat→V × Nat × Nat}{ks:List Nat} (H:∀ k∈ks,∀ p,Tq f p (g k p)) (h1:p0≤p) (h2:p0+1≤p+ks.length):Tq (f+1) p0 (mkItems n (rdItems g ks p)):=by
 have hh:=rdItems_tot ks p H
 generalize rdItems g ks p=x at *
 obtain ⟨vs,q,c⟩:=x
 unfold mkItems
 simp only at hh ⊢
 by_cases hc:c=0
 ·rw [if_pos hc]
  obtain ⟨a1,a2,a3⟩:=hh hc
  intro _
  simp only
  refine ⟨by omega,?_⟩
  rw [totV,List.length_nil,Nat.add_mul,Nat.add_mul,Nat.one_mul,Nat.one_mul]
  have:=Nat.mul_le_mul_left f h1
  omega
 ·rw [if_neg hc]
  exact Tq.bad hc
theorem bytesAt_tot {f:Nat}{b:List UInt8}{p0 p n:Nat} (h1:p0≤p) (h2:p0+1≤p+n):Tq (f+1) p0 (bytesAt b p n):=by
 unfold bytesAt
 split
 ·exact Tq.bad (by simp)
 ·intro _
  simp only
  refine ⟨by omega,?_⟩
  rw [totV,totVs,List.length_nil,Nat.add_mul,Nat.add_mul,Nat.one_mul,Nat.one_mul,List.length_take]
  have:=Nat.mul_le_mul_left f (show p0≤p+n by omega)
  omega
theorem rd_tot {D:List RuleD}{b:List UInt8} (hV:descP D):∀ (f rule p:Nat),rule<D.length→Tq f p (rd D b f rule p)
 | 0,rule,p,_=>Tq.bad (by rw [rd];simp)
 | f+1,rule,p,hl=>by
  obtain ⟨r,hr⟩:∃ r,D[rule]?=some r:=⟨_,List.getElem?_eq_getElem hl⟩
  have G:=good_of hV hr
  have hrD:=ruleD_get hr
  have HK:∀ j (hj:j<r.kids.length),∀ p,Tq f p (rd D b f (r.kids[j]).toNat p):=fun j hj p=>rd_tot hV f _ p (by have:=G.kid j hj;omega)
  have H0:1≤r.kids.length→∀ p,Tq f p (rd D b f (kid0 r).toNat p):=fun h p=>by
   have:=HK 0 h p
   rwa [show r.kids[0]=kid0 r by have k:=kids0 h;rw [List.getElem?_eq_getElem (by omega)] at k;exact Option.some.inj k] at this
  have HN:(r.kind=4∨r.kind=5∨r.kind=7)→1≤(ruleD D (kid0 r)).size.toNat:=fun h=>by
   obtain ⟨j,q,_,_,hq,hqr,_⟩:=head_kid G h
   rw [hqr]
   omega
  have ITE:∀ (c:Prop) [Decidable c] (x y:V × Nat × Nat),(c→Tq (f+1) p x)→(¬c→Tq (f+1) p y)→Tq (f+1) p (if c then x else y):=fun c _ x y hx hy=>by
   by_cases h:c
   ·rw [if_pos h];exact hx h
   ·rw [if_neg h];exact hy h
  have hmul:∀ q,p≤q→(f+1)*p≤(f+1)*q:=fun q h=>Nat.mul_le_mul_left _ h
  rw [rd]
  dsimp only
  rw [hrD]
  refine ITE _ _ _ (fun h1=>?_) fun n1=>ITE _ _ _ (fun h2=>?_) fun n2=>ITE _ _ _ (fun h3=>?_) fun n3=>ITE _ _ _ (fun h10=>?_) fun n10=>ITE _ _ _ (fun h6=>?_) fun n6=>ITE _ _ _ (fun h7=>?_) fun n7=>ITE _ _ _ (fun h8=>?_) fun n8=>ITE _ _ _ (fun h9=>?_) fun n9=>?_
  ·have hs:=G.k1 h1
   split
   ·intro _
    simp only
    refine ⟨by omega,?_⟩
    rw [totV,totVs,List.length_nil,List.length_nil]
    have:=hmul (p+r.size.toNat) (by omega)
    omega
   ·exact Tq.bad (by simp)
  ·intro h
   have hq:=constAt_ok r.bytes 0 h
   have hg:=const_ge hV hr h2
   simp only
   rw [hq]
   refine ⟨by omega,?_⟩
   rw [V0,totV,totVs,List.length_nil,List.length_nil]
   have:=hmul (p+0+r.bytes.length) (by omega)
   omega
  ·have hs:=G.k3 h3
   exact bytesAt_tot (Nat.le_refl _) (by omega)
  ·split
   ·rename_i x h
    unfold readTerm at h
    simp only [Option.map_eq_some_iff] at h
    obtain ⟨y,hy,rfl⟩:=h
    have ht:=term_tot _ _ _ (Nat.le_refl _) y hy
    intro _
    simp only
    refine ⟨by omega,?_⟩
    rw [totV,totVs,List.length_nil,Nat.add_mul,Nat.add_mul,Nat.one_mul,Nat.one_mul]
    have:=Nat.mul_le_mul_left f (show p≤p+y.2 by omega)
    omega
   ·exact Tq.bad (by simp)
  ·refine mkItems_tot (fun k hk=>?_) (Nat.le_refl _) (by rw [List.length_map];have:=seq_ge hV hr h6;omega)
   obtain ⟨x,hx,rfl⟩:=List.mem_map.1 hk
   obtain ⟨j,hj,rfl⟩:=List.getElem_of_mem hx
   exact HK j hj
  ·split
   ·exact Tq.bad (by simp)
   ·split
    ·exact Tq.bad (by simp)
    ·rename_i n _ k hk
     have hs:=HN (by omega)
     refine mkItems_tot (fun k' hk'=>?_) (Nat.le_add_right _ _) (by simp)
     rw [List.mem_singleton] at hk'
     subst hk'
     have hkl:k<r.tags.length:=by
      unfold tagIx at hk
      rw [List.findIdx?_eq_some_iff_getElem] at hk
      exact hk.1
     have hkk:k+1<r.kids.length:=by have:=(G.k7 h7).1;omega
     have:=HK (k+1) hkk
     rwa [show r.kids[k+1]=r.kids.getD (k+1) 0 by simp [List.getD,hkk]] at this
  ·split
   ·exact Tq.bad (by simp)
   ·rename_i c _
    refine ITE _ _ _ (fun _=>Tq.bad (by simp)) fun _=>mkItems_tot (fun k hk=>?_) (Nat.le_add_right _ _) (by simp)
    rw [List.mem_replicate] at hk
    rw [hk.2]
    exact H0 (by have:=G.k8 h8;omega)
  ·have h1:Tq (f+1) p (mkItems 0 (rdItems (rd D b f) [(kid0 r).toNat] p)):=mkItems_tot (fun k hk=>by rw [List.mem_singleton] at hk;rw [hk];exact H0 (by have:=G.k9 h9;omega)) (Nat.le_refl _) (by simp)
   generalize mkItems 0 (rdItems (rd D b f) [(kid0 r).toNat] p)=x at *
   obtain ⟨v,q,c⟩:=x
   dsimp only
   refine ITE _ _ _ (fun hc=>?_) fun hc=>Tq.bad hc
   split
   ·exact Tq.bad (by simp)
   ·refine ITE _ _ _ (fun _=>?_) fun _=>Tq.bad (by simp)
    intro _
    obtain ⟨a1,a2⟩:=h1 hc
    simp only at a1 a2 ⊢
    refine ⟨by omega,?_⟩
    have:=Nat.mul_le_mul_left (f+1) (Nat.le_succ q)
    simp only [Nat.succ_eq_add_one] at this
    omega
  ·have h45:r.kind=4∨r.kind=5:=by have:=G.kd;omega
   have hs:=HN (by omega)
   split
   ·exact Tq.bad (by simp)
   ·refine ITE _ _ _ (fun _=>bytesAt_tot (Nat.le_add_right _ _) (by omega)) fun n4=>ITE _ _ _ (fun _=>Tq.bad (by simp)) fun _=>?_
    have h5:r.kind=5:=by omega
    refine mkItems_tot (fun k hk=>?_) (Nat.le_add_right _ _) (by omega)
    rw [List.mem_replicate] at hk
    rw [hk.2]
    have hk1:1<r.kids.length:=by have:=G.k5 h5;omega
    have:=HK 1 hk1
    rwa [show r.kids[1]=kid1 r by have:=kids1 hk1;rw [List.getElem?_eq_getElem hk1] at this;exact Option.some.inj this] at this
theorem readV_tot {D:List RuleD}{b:List UInt8} (i p:Int):totV (readV D b i p).1≤1048576:=by
 have h0:totV V0≤1048576:=by rw [V0,totV,totVs,List.length_nil,List.length_nil];omega
 unfold readV
 split
 ·rename_i h
  obtain ⟨v1,v2,v3⟩:=vKnown_spec h.1
  have ht:=rd_tot (b:=b) v1 D.length i.toNat p.toNat (by omega)
  have hin:=rd_in D b D.length i.toNat p.toNat (by omega)
  have hz:=rd_bad D b D.length i.toNat p.toNat
  generalize rd D b D.length i.toNat p.toNat=z at *
  obtain ⟨v,q,c⟩:=z
  by_cases hc:c=0
  ·have:=(ht hc).2
   simp only at this ⊢
   have hq:q≤b.length:=hin.2
   have hm:D.length*q≤24*400:=Nat.mul_le_mul v1.1.2 (by omega)
   omega
  ·have:=hz hc
   simp only at this ⊢
   rw [this]
   exact h0
 ·exact h0
theorem readF_tot {D:List RuleD}{b:List UInt8}:totV (readF D b).1≤1048576:=by
 have h0:totV V0≤1048576:=by rw [V0,totV,totVs,List.length_nil,List.length_nil];omega
 unfold readF
 split
 ·exact h0
 ·exact readV_tot _ _
end Go.Proofs.YtomfggmmhkpeeaaGreatDoor.Eng
