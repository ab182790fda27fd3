/-
 Plain functions: the greatest sizes and the depths of the rules of a description.
-/
import Derived.Test.YtomfggmmhkpeeaaDoorKPure21
import Derived.Test.YtomfggmmhkpeeaaDoorKPure14
set_option linter.unusedSimpArgs false
set_option linter.unusedVariables false
set_option linter.defProp false
set_option maxRecDepth 100000
set_option maxHeartbeats 4000000
namespace Go.Proofs.YtomfggmmhkpeeaaDoor
open Go.RowKit

def topK (ts:List Int) (a:Int) (ks:List Int):Int:=(ks.map (atT ts)).foldl max a
def grN (ts:List Int) (r:RuleD) (lim:Int):Int:=
 if r.kind=1∨r.kind=3 then r.size
 else if r.kind=2 then r.bytes.length
 else if r.kind=4 then atT ts (kid0 r)+lim
 else if r.kind=5 then atT ts (kid0 r)+40*atT ts (kid1 r)
 else if r.kind=6 then sumK ts r.kids
 else if r.kind=7 then atT ts (kid0 r)+topK ts (atT ts (kid1 r)) (r.kids.drop 2)
 else if r.kind=8∨r.kind=9 then atT ts (kid0 r)+1
 else 400
def grI (D:List RuleD):Nat→List Int
 | 0=>[]
 | n+1=>grI D n++[min (grN (grI D n) (ruleD D n) (limD D (kid0 (ruleD D n)))) 401]
def grS (D:List RuleD):Nat→List Int
 | 0=>[]
 | n+1=>grS D n++[min (grN (grS D n) (ruleD D n) (min 400 (limD D (kid0 (ruleD D n))))) 400]
theorem grI_len (D:List RuleD):∀ n,(grI D n).length=n
 | 0=>rfl
 | n+1=>by simp [grI,grI_len D n]
theorem grS_len (D:List RuleD):∀ n,(grS D n).length=n
 | 0=>rfl
 | n+1=>by simp [grS,grS_len D n]
def cutT (ts:List Int):List Int:=ts.map (min 400)
theorem atT_cut {ts:List Int} (k:Int):atT (cutT ts) k=min 400 (atT ts k):=by
 unfold atT cutT
 by_cases hk:k.toNat<ts.length
 ·simp [List.getD,hk]
 ·simp [List.getD,Nat.le_of_not_lt hk]
  decide
theorem sum_cut {ts:List Int} (h:inT ts):∀ (ks:List Int) (a b:Int),0≤a→0≤b→min 400 a=min 400 b→min 400 ((ks.map (atT (cutT ts))).foldl (·+·) a)=min 400 ((ks.map (atT ts)).foldl (·+·) b)
 | [],a,b,_,_,hab=>hab
 | k::ks,a,b,ha,hb,hab=>by
  rw [List.map_cons,List.map_cons,List.foldl_cons,List.foldl_cons]
  have h1:=atT_in h k
  have h2:=atT_cut (ts:=ts) k
  exact sum_cut h ks _ _ (by omega) (by omega) (by omega)
theorem top_cut {ts:List Int}:∀ (ks:List Int) (a b:Int),min 400 a=min 400 b→min 400 (topK (cutT ts) a ks)=min 400 (topK ts b ks)
 | [],a,b,hab=>hab
 | k::ks,a,b,hab=>by
  have h2:=atT_cut (ts:=ts) k
  exact top_cut ks _ _ (by omega)
theorem topK_in {ts:List Int} (h:inT ts):∀ (ks:List Int) (a:Int),0≤a∧a≤401→0≤topK ts a ks∧topK ts a ks≤401
 | [],a,ha=>ha
 | x::l,a,ha=>by
  have:=atT_in h x
  exact topK_in h l (max a (atT ts x)) (by omega)
theorem topK_le {ts:List Int}:∀ (ks:List Int) (a:Int),a≤topK ts a ks
 | [],a=>Int.le_refl _
 | x::l,a=>by
  have:=topK_le (ts:=ts) l (max a (atT ts x))
  have e:topK ts a (x::l)=topK ts (max a (atT ts x)) l:=rfl
  omega
theorem grN_cut {ts:List Int}{r:RuleD}{lim:Int} (h:inT ts) (hl:r.kind=4→0≤lim):min (grN (cutT ts) r (min 400 lim)) 400=min 400 (min (grN ts r lim) 401):=by
 have a0:=atT_cut (ts:=ts) (kid0 r)
 have a1:=atT_cut (ts:=ts) (kid1 r)
 have i0:=atT_in h (kid0 r)
 have i1:=atT_in h (kid1 r)
 have s:=sum_cut h r.kids 0 0 (by omega) (by omega) rfl
 have t:=top_cut (ts:=ts) (r.kids.drop 2) (atT (cutT ts) (kid1 r)) (atT ts (kid1 r)) (by omega)
 have t1:=topK_in h (r.kids.drop 2) (atT ts (kid1 r)) i1
 have t2:=topK_le (ts:=cutT ts) (r.kids.drop 2) (atT (cutT ts) (kid1 r))
 unfold grN sumK
 split
 ·omega
 split
 ·omega
 split
 ·have:=hl ‹_›
  omega
 split
 ·omega
 split
 ·omega
 split
 ·omega
 split
 ·omega
 ·omega
theorem grN_nn {ts:List Int}{r:RuleD}{lim:Int} (h:inT ts) (hs:r.kind=1∨r.kind=3→0≤r.size) (hl:r.kind=4→0≤lim):0≤grN ts r lim:=by
 unfold grN
 have h0:=atT_in h (kid0 r)
 have h1:=topK_in h (r.kids.drop 2) _ (atT_in h (kid1 r))
 have h3:=atT_in h (kid1 r)
 have h2:=sumK_nn h r.kids
 split
 ·exact hs ‹_›
 split
 ·omega
 split
 ·have:=hl ‹_›
  omega
 split
 ·omega
 split
 ·exact h2
 split
 ·omega
 split
 ·omega
 ·omega
theorem lim_4 {D:List RuleD} (hV:descP D) {n:Nat}{r:RuleD} (hr:D[n]?=some r) (hk:r.kind=4):0≤limD D (kid0 r):=by
 obtain ⟨j,q,_,_,hq,_,hl⟩:=Eng.head_kid (good_of hV hr) (Or.inl hk)
 rw [hl]
 have h2:(0:Int)<2 ^ (8*q.size.toNat):=Int.pow_pos (by decide)
 omega
theorem grI_in {D:List RuleD} (hV:descP D):∀ n,n≤D.length→inT (grI D n)
 | 0,_=>fun x hx=>by cases hx
 | n+1,hn=>fun x hx=>by
  have ih:=grI_in hV n (by omega)
  rw [grI,List.mem_append,List.mem_singleton] at hx
  rcases hx with hx|rfl
  ·exact ih x hx
  ·obtain ⟨r,hr⟩:∃ r,D[n]?=some r:=⟨_,List.getElem?_eq_getElem (by omega)⟩
   have G:=good_of hV hr
   rw [ruleD_get hr]
   have:=grN_nn (r:=r) (lim:=limD D (kid0 r)) ih (fun hk=>by
    rcases hk with k|k
    ·have:=G.k1 k;omega
    ·have:=G.k3 k;omega) (fun hk=>lim_4 hV hr hk)
   omega
theorem grS_cut {D:List RuleD} (hV:descP D):∀ n,n≤D.length→grS D n=cutT (grI D n)
 | 0,_=>rfl
 | n+1,hn=>by
  have ih:=grS_cut hV n (by omega)
  obtain ⟨r,hr⟩:∃ r,D[n]?=some r:=⟨_,List.getElem?_eq_getElem (by omega)⟩
  rw [grS,grI,ih,ruleD_get hr,grN_cut (grI_in hV n (by omega)) (fun hk=>lim_4 hV hr hk)]
  unfold cutT
  rw [List.map_append]
  rfl
def depS (D:List RuleD):Nat→List Int
 | 0=>[]
 | n+1=>depS D n++[topK (depS D n) 0 (ruleD D n).kids+1]
theorem depS_len (D:List RuleD):∀ n,(depS D n).length=n
 | 0=>rfl
 | n+1=>by simp [depS,depS_len D n]
theorem topK_bd {ts:List Int}{m:Int} (h:∀ x∈ts,0≤x∧x≤m) (hm:0≤m):∀ (ks:List Int) (a:Int),0≤a∧a≤m→0≤topK ts a ks∧topK ts a ks≤m
 | [],a,ha=>ha
 | x::l,a,ha=>by
  have hx:0≤atT ts x∧atT ts x≤m:=by
   unfold atT
   by_cases hk:x.toNat<ts.length
   ·rw [show ts.getD x.toNat 0=ts[x.toNat] by simp [List.getD,hk]]
    exact h _ (List.getElem_mem hk)
   ·rw [show ts.getD x.toNat 0=0 by simp [List.getD,Nat.le_of_not_lt hk]]
    omega
  exact topK_bd h hm l (max a (atT ts x)) (by omega)
theorem depS_bd (D:List RuleD):∀ n,∀ x∈depS D n,0≤x∧x≤n
 | 0=>fun x hx=>by cases hx
 | n+1=>fun x hx=>by
  have ih:=depS_bd D n
  rw [depS,List.mem_append,List.mem_singleton] at hx
  rcases hx with hx|rfl
  ·have:=ih x hx;omega
  ·have:=topK_bd ih (by omega) (ruleD D n).kids 0 (by omega)
   omega
theorem depS_pre (D:List RuleD):∀ n i,i≤n→∃ zs,depS D n=depS D i++zs
 | 0,i,h=>⟨[],by
   obtain rfl:i=0:=by omega
   rfl⟩
 | n+1,i,h=>by
  by_cases e:i=n+1
  ·subst e
   exact ⟨[],by rw [List.append_nil]⟩
  ·obtain ⟨zs,hz⟩:=depS_pre D n i (by omega)
   exact ⟨zs++[topK (depS D n) 0 (ruleD D n).kids+1],by rw [depS,hz,List.append_assoc]⟩
end Go.Proofs.YtomfggmmhkpeeaaDoor
