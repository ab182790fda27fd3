/-
 Small functions of the reference; the rule of an item.
-/
import Derived.Test.YtecdbogicpffeabDoorKNE
import Derived.Test.YtecdbogicpffeabDoorKNB
import Derived.Test.YtecdbogicpffeabDoorKP2
set_option linter.unusedSimpArgs false
set_option linter.unusedVariables false
set_option linter.defProp false
set_option maxRecDepth 100000
set_option maxHeartbeats 4000000
namespace Go.Proofs.YtecdbogicpffeabDoor.Eng
open Go Go.RowKit

private def tyF:=tg3
section
variable {M:Nat}{D:List RuleD}
theorem good_items {i:Nat}{r:RuleD} (G:GoodR D i r):(r.kind=5→2≤r.kids.length)∧(r.kind=7→r.kids.length=r.tags.length+1)∧(r.kind=8∨r.kind=9→1≤r.kids.length):=
 ⟨fun h=>by have:=(G.k5 h).1;omega,fun h=>(G.k7 h).1,fun h=>h.elim (fun h=>by have:=G.k8 h;omega) fun h=>by have:=G.k9 h;omega⟩
theorem own_kid {i:Nat}{r:RuleD} (G:GoodR D i r) (hi:i<D.length) {n:Int}{lb lv:Nat} (h:ownV D r n lb lv=true) {k:Nat} (hk:k<lv):∃ j:Nat,itemK r n k=j∧j<D.length:=by
 obtain ⟨kd1,kd2⟩:=G.kd
 obtain ⟨h5,h7,h8⟩:=good_items G
 have kid:∀ j (hj:j<r.kids.length),∃ x:Nat,r.kids[j]=x∧x<D.length:=fun j hj=>by
  have:=G.kid j hj
  exact ⟨r.kids[j].toNat,by omega,by omega⟩
 have k0:0<r.kids.length→∃ x:Nat,kid0 r=x∧x<D.length:=fun h=>by
  have e:=kids0 h
  rw [List.getElem?_eq_getElem h] at e
  rw [←Option.some.inj e]
  exact kid 0 h
 by_cases e5:r.kind=5
 ·rw [itemK_5 e5]
  have h:=h5 e5
  have e:=kids1 (r:=r) (by omega)
  rw [List.getElem?_eq_getElem (by omega)] at e
  rw [←Option.some.inj e]
  exact kid 1 (by omega)
 by_cases e6:r.kind=6
 ·rw [ownV_6 e6,decide_eq_true_eq] at h
  rw [itemK_6 e6 (by omega)]
  exact kid k (by omega)
 by_cases e7:r.kind=7
 ·rw [ownV_7 e7,decide_eq_true_eq] at h
  obtain ⟨_,_,h3⟩:=h
  cases ht:tagIx r.tags n with
  | none=>rw [itemK_7n e7 ht] at h3;omega
  | some t=>
   have:=tagIx_lt ht
   have:=h7 e7
   rw [itemK_7 e7 ht (by omega)]
   exact kid (t+1) (by omega)
 by_cases e8:r.kind=8
 ·rw [itemK_8 (.inl e8)]
  exact k0 (by have:=h8 (.inl e8);omega)
 by_cases e9:r.kind=9
 ·rw [itemK_8 (.inr e9)]
  exact k0 (by have:=h8 (.inr e9);omega)
 exfalso
 have:r.kind=1∨r.kind=2∨r.kind=3∨r.kind=4∨r.kind=10:=by omega
 rcases this with e|e|e|e|e
 ·rw [ownV_1 e,decide_eq_true_eq] at h;omega
 ·rw [ownV_2 e,decide_eq_true_eq] at h;omega
 ·rw [ownV_3 e,decide_eq_true_eq] at h;omega
 ·rw [ownV_4 e,decide_eq_true_eq] at h;omega
 ·rw [ownV_10 e,decide_eq_true_eq] at h;omega
end
end Go.Proofs.YtecdbogicpffeabDoor.Eng
