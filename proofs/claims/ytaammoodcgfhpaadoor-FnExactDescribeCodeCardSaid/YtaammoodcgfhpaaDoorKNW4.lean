/-
 Ranges over functions: worlds and rows; a new row of texts as a contract's answer.
-/
import Derived.Test.YtaammoodcgfhpaaDoorKNW0
set_option linter.unusedSimpArgs false
set_option linter.unusedVariables false
set_option linter.defProp false
set_option maxRecDepth 100000
set_option maxHeartbeats 4000000
namespace Go.Proofs.YtaammoodcgfhpaaDoor.Eng
open Go Go.RowKit Go.Shelf

theorem row0 {w:World}{n₀ g:Nat}{e:TypeId} (h:w.heap[g]?=some (.cells #[] e (0,0))) (hg:n₀≤g):w.ownsRow n₀ e 1 (.slice (some ⟨g,0,none⟩) 0 0) 0 []:=
 ⟨rfl,.inr ⟨g,0,#[],rfl,hg,h,Nat.le_refl _,Nat.zero_le _,rfl,rfl⟩⟩
theorem heap_al {w:World}{o:Obj}{k:Nat} (hk:k=w.heap.size):(w.alloc o).heap[k]?=some o:=hk▸World.alloc_heap_new w o
theorem heap_old {w:World}{o o':Obj}{k:Nat} (h:w.heap[k]?=some o):(w.alloc o').heap[k]?=some o:=(Below.heap_alloc w o' k (Array.getElem?_eq_some_iff.1 h).1).trans h
theorem KpW.of_below {n₀ n₁ B:Nat}{W W':World} (h:Below W.heap.size W W') (hn:n₀≤W.heap.size) (hB:B<W.heap.size):KpW n₀ n₁ B W W':=
 ⟨h.size,fun k hk=>h.block k (by omega),fun k o _ ho _ hm=>⟨(h.block k (Array.getElem?_eq_some_iff.1 ho).1).trans ho,fun ⟨n,c,h1⟩=>hm ⟨n,c,by
  rw [←h1]
  exact (World.cell?_of_block (a:=⟨B,0,none⟩) (h.block B hB)).symm⟩⟩⟩
theorem repEs_row {C:CellR}{g:Nat}:∀ (l:List ByteArray) (o:Nat),(∀ j x,l[j]?=some x→C g (o+j) (.string x))→RepEs C 1 (l.map fun t=>[sD t]) g o
 | [],_,_=>by simp only [List.map_nil];unfold RepEs;trivial
 | x::l,o,h=>by
  simp only [List.map_cons]
  unfold RepEs
  refine ⟨rfl,?_,repEs_row l (o+1) fun j y hj=>?_⟩
  ·unfold RepCs
   refine ⟨⟨_,h 0 x rfl,by unfold RepD;rfl⟩,?_⟩
   unfold RepCs
   trivial
  ·have:=h (j+1) y (by simpa using hj)
   rwa [show o+(j+1)=o+1+j by omega] at this
theorem AC.of_rowS {P:Program}{f:FuncId}{args:List A}{l:List ByteArray}{t:TypeId} (he:∀ vs w,(callFunc f vs).run P w=.ok (.enter f vs) w)
  (h:∀ w C vs,Cok C w→RepAL (argG C none 0) args vs→Calls P f ⟨vs⟩ w fun e w'=>∃ v,e=.returned v∧w'.ownsRow w.heap.size t 1 v l.length (l.map Value.string)∧Below w.heap.size w w'):AC P f args none (fun r _=>r=.d (encS l)):=by
 refine ⟨he,fun w C β F0 vs hC hr hbo _=>?_⟩
 have e0:argG C none β=argG C none 0:=by simp [argG]
 rw [e0] at hr
 refine (h w C vs hC hr).mono fun e w' ⟨v,h1,h2,h3⟩=>?_
 have hC1:=hC.below h3
 obtain ⟨g,hrow⟩:∃ g,(v=.slice none 0 0∧l=[])∨(∃ cap,v=.slice (some ⟨g,0,none⟩) l.length cap∧w.heap.size≤g∧l.length≤cap∧cap≤maxLen∧(∀ j x,l[j]?=some x→w'.cell? ⟨g,j,none⟩=some (.string x))∧∀ o,w'.frozen? ⟨g,o,none⟩=false):=by
  rcases h2.2 with ⟨rfl,h0⟩|⟨g,cap,cur,rfl,hb,hg,hn,hm,hs,ht⟩
  ·exact ⟨0,.inl ⟨rfl,List.length_eq_zero_iff.1 h0⟩⟩
  ·refine ⟨g,.inr ⟨cap,rfl,hb,hn,hm,fun j x hj=>?_,fun o=>frz_of_cells hg⟩⟩
   have:=h2.cells (g:=g) rfl j (.string x) (by rw [List.getElem?_map,hj];rfl)
   rwa [addr_add,Nat.zero_add] at this
 let C':CellR:=fun b o u=>C b o u∨(b=g∧w.heap.size≤g∧w'.cell? ⟨g,o,none⟩=some u∧(∃ x,u=.string x)∧w'.frozen? ⟨g,o,none⟩=false)
 refine ⟨_,.d (encS l),none,C',[],[],h1,rfl,rfl,fun _ _ _ h=>.inl h,⟨fun b o u hc=>?_,fun b o u hc hb=>?_,hC1.gl.mono fun _ _ _ h=>.inl h,hC1.tb⟩,BelowX.of h3,fun b o u hc=>?_,?_,rfl,by simp [XO],fun b hb=>by simp at hb⟩
 ·rcases hc with hc|⟨rfl,_,hc,⟨x,rfl⟩,_⟩
  ·exact hC1.cell b o u hc
  ·exact ⟨hc,rfl⟩
 ·rcases hc with hc|⟨rfl,_,_,_,hc⟩
  ·exact hC1.nf b o u hc hb
  ·exact hc
 ·rcases hc with hc|⟨rfl,hg,_⟩
  ·exact .inl hc
  ·exact .inr (.inl hg)
 ·unfold RepZ
  refine ⟨rfl,?_⟩
  unfold encS RepD
  rcases hrow with ⟨rfl,rfl⟩|⟨cap,rfl,hg,h4,h5,h6,h7⟩
  ·exact ⟨none,0,rfl,Nat.le_refl _,by decide,.inl rfl⟩
  ·refine ⟨_,cap,by simp,by simpa using h4,h5,.inr ⟨g,0,rfl,repEs_row l 0 fun j x hj=>.inr ⟨rfl,hg,?_,⟨x,rfl⟩,h7 _⟩⟩⟩
   rw [Nat.zero_add]
   exact h6 j x hj
theorem ACD.of_rowS {P:Program}{f:FuncId}{args:List A}{l:List ByteArray}{t:TypeId} (he:∀ vs w,(callFunc f vs).run P w=.ok (.enter f vs) w)
  (h:∀ w C vs,Cok C w→RepAL (argG C none 0) args vs→Calls P f ⟨vs⟩ w fun e w'=>∃ v,e=.returned v∧w'.ownsRow w.heap.size t 1 v l.length (l.map Value.string)∧Below w.heap.size w w'):ACD P f args (fun n=>.iv (fun b=>n≤b) (encS l)):=by
 refine ⟨he,fun w C vs hC hr=>?_⟩
 refine (h w C vs hC hr).mono fun e w' ⟨v,h1,h2,h3⟩=>?_
 have hC1:=hC.below h3
 obtain ⟨g,hrow⟩:∃ g,(v=.slice none 0 0∧l=[])∨(∃ cap,v=.slice (some ⟨g,0,none⟩) l.length cap∧w.heap.size≤g∧l.length≤cap∧cap≤maxLen∧(∀ j x,l[j]?=some x→w'.cell? ⟨g,j,none⟩=some (.string x))∧∀ o,w'.frozen? ⟨g,o,none⟩=false):=by
  rcases h2.2 with ⟨rfl,h0⟩|⟨g,cap,cur,rfl,hb,hg,hn,hm,hs,ht⟩
  ·exact ⟨0,.inl ⟨rfl,List.length_eq_zero_iff.1 h0⟩⟩
  ·refine ⟨g,.inr ⟨cap,rfl,hb,hn,hm,fun j x hj=>?_,fun o=>frz_of_cells hg⟩⟩
   have:=h2.cells (g:=g) rfl j (.string x) (by rw [List.getElem?_map,hj];rfl)
   rwa [addr_add,Nat.zero_add] at this
 let C':CellR:=fun b o u=>C b o u∨(b=g∧w.heap.size≤g∧w'.cell? ⟨g,o,none⟩=some u∧(∃ x,u=.string x)∧w'.frozen? ⟨g,o,none⟩=false)
 refine ⟨_,C',h1,fun _ _ _ h=>.inl h,⟨fun b o u hc=>?_,fun b o u hc hb=>?_,hC1.gl.mono fun _ _ _ h=>.inl h,hC1.tb⟩,BelowX.of h3,fun b o u hc=>?_,?_⟩
 ·rcases hc with hc|⟨rfl,_,hc,⟨x,rfl⟩,_⟩
  ·exact hC1.cell b o u hc
  ·exact ⟨hc,rfl⟩
 ·rcases hc with hc|⟨rfl,_,_,_,hc⟩
  ·exact hC1.nf b o u hc hb
  ·exact hc
 ·rcases hc with hc|⟨rfl,hg,_⟩
  ·exact .inl hc
  ·exact .inr hg
 ·unfold RepD encS RepD
  rcases hrow with ⟨rfl,rfl⟩|⟨cap,rfl,hg,h4,h5,h6,h7⟩
  ·exact ⟨none,0,rfl,Nat.le_refl _,by decide,.inl rfl⟩
  ·refine ⟨_,cap,by simp,by simpa using h4,h5,.inr ⟨g,0,rfl,repEs_row l 0 fun j x hj=>⟨.inr ⟨rfl,hg,?_,⟨x,rfl⟩,h7 _⟩,hg⟩⟩⟩
   rw [Nat.zero_add]
   exact h6 j x hj
end Go.Proofs.YtaammoodcgfhpaaDoor.Eng
