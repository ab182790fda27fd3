/-
 The engine, part 31: cells of known kinds that are written over.
-/
import Derived.Test.YtomfggmmhkpeeaaGreatDoorKE30
import Derived.Laws.IdiomCopy
set_option linter.unusedSimpArgs false
set_option linter.unusedVariables false
set_option linter.defProp false
set_option maxRecDepth 100000
set_option maxHeartbeats 4000000
namespace Go.Proofs.YtomfggmmhkpeeaaGreatDoor.Eng
open Go Go.RowKit

def isSc:Value→Bool
 | .int _ _=>true
 | .string _=>true
 | .bool _=>true
 | _=>false
theorem isSc_one {v:Value} (h:isSc v=true):v.oneCell'=true:=by
 cases v<;>first|rfl|(simp [isSc] at h)
def MK (C:CellR) (w:World):Prop:=∀ b o u,C b o u→∃ v,w.cell? ⟨b,o,none⟩=some v∧v.oneCell'=true∧w.frozen? ⟨b,o,none⟩=false∧(v=u∨(isSc u=true∧isSc v=true))
def Zof (C:CellR) (b:Nat):Prop:=∃ o v,C b o v
theorem MK.of {C:CellR}{w:World} (h:CokM C w):MK C w:=fun b o u hc=>⟨u,(h b o u hc).1,(h b o u hc).2.1,(h b o u hc).2.2,.inl rfl⟩
theorem MK.stab (C:CellR) (w w':World) (h:∀ b,Zof C b→w'.heap[b]?=w.heap[b]?) (k:MK C w):MK C w':=fun b o u hc=>by
 obtain ⟨v,h1,h2,h3,h4⟩:=k b o u hc
 have hb:=h b ⟨o,u,hc⟩
 exact ⟨v,(World.cell?_of_block (w:=w) (a:=⟨b,o,none⟩) hb).trans h1,h2,(frz_of_block hb).trans h3,h4⟩
theorem MK.set {C:CellR}{w:World} (k:MK C w) {b o:Nat}{u0 y:Value} (hc:C b o u0) (h0:isSc u0=true) (hy:isSc y=true):MK C (w.setCell ⟨b,o,none⟩ y):=fun b' o' u hc'=>by
 obtain ⟨v,h1,h2,h3,h4⟩:=k b' o' u hc'
 by_cases e:b'=b∧o'=o
 ·obtain ⟨rfl,rfl⟩:=e
  obtain ⟨v0,g1,g2,g3,g4⟩:=k _ _ _ hc
  rw [h1] at g1
  obtain rfl:=Option.some.inj g1
  refine ⟨y,World.cell?_setCell_same _ _ _ h1,isSc_one hy,(World.frozen?_setCell ..).trans h3,.inr ⟨?_,hy⟩⟩
  rcases h4 with rfl|h4
  ·rcases g4 with rfl|g4
   ·exact h0
   ·exact g4.2
  ·exact h4.1
 ·refine ⟨v,(World.cell?_setCell_other _ _ _ _ (fun e'=>e ?_)).trans h1,h2,(World.frozen?_setCell ..).trans h3,h4⟩
  simp only [Addr.mk.injEq] at e'
  exact ⟨e'.1.symm,e'.2.1.symm⟩

structure CK (P:Program) (f:FuncId) (C:CellR) (u:Value) (k k':Int):Prop where
 enter:∀ vs w,(callFunc f vs).run P w=.ok (.enter f vs) w
 go:∀ (w:World) (Ce:CellR),Cok Ce w→(∀ b o v,Ce b o v→¬Zof C b)→MK C w→Calls P f ⟨[u,.int .i64 k]⟩ w fun e w'=>e=.returned (.int .i64 k')∧BelowX (Zof C) w.heap.size w w'∧MK C w'

def ACK (P:Program) (f:FuncId) (X:D) (k k':Int):Prop:=∀ (C:CellR) (u:Value),RepD C X u→CK P f C u k k'
section
variable {P:Program}{en:En}{ops:Array Oper}{o:Oper}{l:List Oper}{K:St→Prop}{s:St}
end
end Go.Proofs.YtomfggmmhkpeeaaGreatDoor.Eng
