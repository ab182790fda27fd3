/-
 Plain functions: the least sizes of the rules of a description.
-/
import Derived.Test.YtomfggmmhkpeeaaDoorKP
set_option linter.unusedSimpArgs false
set_option linter.unusedVariables false
set_option linter.defProp false
set_option maxRecDepth 100000
set_option maxHeartbeats 4000000
namespace Go.Proofs.YtomfggmmhkpeeaaDoor
open Go.RowKit

def atT (ts:List Int) (k:Int):Int:=ts.getD k.toNat 0
def sumK (ts:List Int) (ks:List Int):Int:=(ks.map (atT ts)).foldl (·+·) 0
def altK (ts:List Int) (a:Int) (ks:List Int):Int:=(ks.map (atT ts)).foldl min a
def minN (ts:List Int) (r:RuleD):Int:=
 if r.kind=1∨r.kind=3 then r.size
 else if r.kind=2 then r.bytes.length
 else if r.kind=4∨r.kind=5 then atT ts (kid0 r)
 else if r.kind=6 then sumK ts r.kids
 else if r.kind=7 then atT ts (kid0 r)+altK ts (atT ts (kid1 r)) (r.kids.drop 2)
 else if r.kind=9 then atT ts (kid0 r)+1
 else 1
def minS (D:List RuleD):Nat→List Int
 | 0=>[]
 | n+1=>minS D n++[min (minN (minS D n) (ruleD D n)) 401]

theorem minS_len (D:List RuleD):∀ n,(minS D n).length=n
 | 0=>rfl
 | n+1=>by simp [minS,minS_len D n]

theorem atT_app {ts zs:List Int}{k:Int} (h:0≤k∧k<ts.length):atT (ts++zs) k=atT ts k:=by
 have hk:k.toNat<ts.length:=by omega
 simp [atT,List.getD,List.getElem?_append_left hk]
theorem mapT_app {ts zs:List Int}{ks:List Int} (h:∀ k∈ks,0≤k∧k<ts.length):ks.map (atT (ts++zs))=ks.map (atT ts):=
 List.map_congr_left fun k hk=>atT_app (h k hk)
def inT (ts:List Int):Prop:=∀ x∈ts,0≤x∧x≤401
theorem atT_in {ts:List Int} (h:inT ts) (k:Int):0≤atT ts k∧atT ts k≤401:=by
 unfold atT
 by_cases hk:k.toNat<ts.length
 ·rw [show ts.getD k.toNat 0=ts[k.toNat] by simp [List.getD,hk]]
  exact h _ (List.getElem_mem hk)
 ·rw [show ts.getD k.toNat 0=0 by simp [List.getD,Nat.le_of_not_lt hk]]
  omega
theorem sumK_nn {ts:List Int} (h:inT ts) (ks:List Int):0≤sumK ts ks:=by
 have H:∀ (l:List Int) (a:Int),0≤a→0≤(l.map (atT ts)).foldl (·+·) a:=by
  intro l
  induction l with
  | nil=>intro a ha;exact ha
  | cons x l ih=>
   intro a ha
   rw [List.map_cons,List.foldl_cons]
   have:=(atT_in h x).1
   exact ih _ (by omega)
 exact H ks 0 (by omega)
theorem altK_in {ts:List Int} (h:inT ts):∀ (ks:List Int) (a:Int),0≤a∧a≤401→0≤altK ts a ks∧altK ts a ks≤401
 | [],a,ha=>ha
 | x::l,a,ha=>by
  have:=atT_in h x
  have:=altK_in h l (min a (atT ts x)) (by omega)
  exact this
theorem minN_nn {ts:List Int}{r:RuleD} (h:inT ts) (hs:r.kind=1∨r.kind=3→0≤r.size):0≤minN ts r:=by
 unfold minN
 have h0:=atT_in h (kid0 r)
 have h1:=altK_in h (r.kids.drop 2) _ (atT_in h (kid1 r))
 have h2:=sumK_nn h r.kids
 split
 ·exact hs ‹_›
 split
 ·omega
 split
 ·omega
 split
 ·exact h2
 split
 ·omega
 split
 ·omega
 ·omega
theorem minS_in {D:List RuleD} (hV:descP D):∀ n,n≤D.length→inT (minS D n)
 | 0,_=>fun x hx=>by cases hx
 | n+1,hn=>fun x hx=>by
  have ih:=minS_in hV n (by omega)
  rw [minS,List.mem_append,List.mem_singleton] at hx
  rcases hx with hx|rfl
  ·exact ih x hx
  ·obtain ⟨r,hr⟩:∃ r,D[n]?=some r:=⟨_,List.getElem?_eq_getElem (by omega)⟩
   have G:=good_of hV hr
   rw [ruleD_get hr]
   have:=minN_nn (r:=r) ih (fun hk=>by
    rcases hk with k|k
    ·have:=G.k1 k;omega
    ·have:=G.k3 k;omega)
   omega
end Go.Proofs.YtomfggmmhkpeeaaDoor
