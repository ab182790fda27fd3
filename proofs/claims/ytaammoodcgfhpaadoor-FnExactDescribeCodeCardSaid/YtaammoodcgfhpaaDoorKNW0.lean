/-
 Ranges over functions: what rounds keep, where an appended row lies; contracts as calls.
-/
import Derived.RangeFuncBox
import Derived.RangeFuncFrom
import Derived.RangeFuncCalls
import Derived.RangeFuncLeaves
import Derived.Shelf.Abstract
import Derived.WalkKit
import Derived.OwnWalkIn
import Derived.TacticsInMore
import Derived.LoopNIn
import Derived.LoopIn
import Derived.Maps.AppendAt
import Derived.Laws.AppendOwn
import Derived.Test.YtaammoodcgfhpaaDoorKN0
import Derived.Test.YtaammoodcgfhpaaDoorKE30
set_option linter.unusedSimpArgs false
set_option linter.unusedVariables false
set_option linter.defProp false
set_option maxRecDepth 100000
set_option maxHeartbeats 4000000
namespace Go.Proofs.YtaammoodcgfhpaaDoor.Eng
open Go Go.RowKit Go.Shelf

/-! ### Contracts as calls -/
theorem Cok.below {C:CellR}{w w':World} (hC:Cok C w) (h2:Below w.heap.size w w'):Cok C w':=
 ⟨fun b o u hc=>by
  have:=hC.cell b o u hc
  exact ⟨(h2.cell (p:=⟨b,o,none⟩) (cell_lt this.1)).trans this.1,this.2⟩,
 fun b o u hc hb=>by
  rw [frz_of_block (h2.block b (cell_lt (hC.cell b o u hc).1))]
  exact hC.nf b o u hc hb,hC.gl,hC.tb.keep hC.gl fun b _ _ _ h1 _ _=>h2.block b (heap_lt h1)⟩
theorem AC.flat1 {P:Program}{f:FuncId}{ds:List D}{v0:Value} (h:AC P f (ds.map .d) none fun r _=>r=.d (.v v0)) {w:World}{C:CellR}{vs:List Value} (hC:Cok C w) (hr:RepL C ds vs):Calls P f ⟨vs⟩ w fun e w'=>e=.returned v0∧Below w.heap.size w w':=by
 refine (h.2 w C 0 [] vs hC (RepL_map (G:=argG C none 0) hr) rfl List.nodup_nil).mono fun e w' ⟨v,r,bx',C',F,F',he,hq,hb,_,_,hfw,_,hz,_,_,_⟩=>?_
 subst hq
 unfold RepZ RepD at hz
 obtain ⟨_,rfl⟩:=hz
 exact ⟨he,hfw.below fun k _ hk=>by simp [XO] at hk⟩
theorem repL_v1 {C:CellR}{v:Value}:RepL C [.v v] [v]:=by simp [RepL,RepD]
/-! ### What rounds keep -/
def upto {α:Type} (f:Nat→α) (k:Nat):List α:=(List.range k).map f
theorem upto_succ {α:Type} (f:Nat→α) (k:Nat):upto f (k+1)=upto f k++[f k]:=by simp [upto,List.range_succ]
def MineB (W:World) (B k:Nat):Prop:=∃ n c,W.cell? ⟨B,0,none⟩=some (.slice (some ⟨k,0,none⟩) n c)
structure KpW (n₀ n₁ B:Nat) (W W':World):Prop where
 size:W.heap.size≤W'.heap.size
 old:∀ k,k<n₀→W'.heap[k]?=W.heap[k]?
 new:∀ k o,n₁≤k→W.heap[k]?=some o→o.isCells=true→¬MineB W B k→W'.heap[k]?=some o∧¬MineB W' B k
theorem KpW.refl (n₀ n₁ B:Nat) (W:World):KpW n₀ n₁ B W W:=⟨Nat.le_refl _,fun _ _=>rfl,fun _ _ _ h _ hm=>⟨h,hm⟩⟩
theorem KpW.trans {n₀ n₁ B:Nat}{W1 W2 W3:World} (h:KpW n₀ n₁ B W1 W2) (k:KpW n₀ n₁ B W2 W3):KpW n₀ n₁ B W1 W3:=
 ⟨Nat.le_trans h.size k.size,fun i hi=>(k.old i hi).trans (h.old i hi),fun i o hi ho hc hm=>by
  obtain ⟨h1,h2⟩:=h.new i o hi ho hc hm
  exact k.new i o hi h1 hc h2⟩
theorem KpW.book {n₀ n₁ B:Nat} (h01:n₀≤n₁) (hB:B<n₁) {w:World} (hw:n₁≤w.heap.size) (W:World) (l:Nat) (o o':Obj) (hl:w.heap.size≤l) (h:W.heap[l]?=some o) (hc:o.isCells=false) (_:o.isWalk=false):KpW n₀ n₁ B W (W.putObj l o'):=by
 have hs:(W.putObj l o').heap.size=W.heap.size:=by simp
 refine ⟨by rw [hs];exact Nat.le_refl _,fun k hk=>World.putObj_heap_other (by omega),fun k o2 hk ho2 hc2 hm=>?_⟩
 have hne:k≠l:=fun e=>by
  subst e
  rw [h] at ho2
  obtain rfl:=Option.some.inj ho2
  rw [hc] at hc2
  cases hc2
 refine ⟨(World.putObj_heap_other hne).trans ho2,fun ⟨n,c,hm'⟩=>hm ⟨n,c,?_⟩⟩
 rw [←hm']
 exact (World.cell?_of_block (a:=⟨B,0,none⟩) (World.putObj_heap_other (by show B≠l;omega))).symm
theorem below_grow0 {n:Nat}{W W':World} (h:Below n W W') (hn:W.heap.size≤n):W.grownBy W' none:=⟨h.os,h.tape,h.output,h.size,fun k hk _=>h.block k (by omega)⟩

theorem run_append_at {P:Program} (w:World) (base:Nat) (t ty e:TypeId) (i:TypeInfo) (z:Value) (bytes:Nat) (ht:P.underlying t=some (.slice e)) (hi:P.info? e=some i) (hz:i.zero=some z) (hsize:i.size=1) (hby:i.bytes=bytes) (hzs:z.cells.size=1)
  (v:Value) (n:Nat) (xs:List Value) (hown:w.ownsRow base e 1 v n xs) (ad:Addr) (u:Value) (hu:w.cell? ad=some u) (h1:u.oneCell'=true) (h63:n+1≤maxLen) (hbytes:(n+1)*bytes≤140737488355328) (hbase:base≤w.heap.size) :
  ∃ v' w',(Builtin.append_ #[t,t] ty #[v,.slice (some ad) 1 1]).run P w=.ok v' w'∧w'.ownsRow base e 1 v' (n+1) (xs++[u])∧w.grownBy w' v.ownBlock∧∀ k,v'.ownBlock=some k→v.ownBlock=some k∨w.heap.size≤k:=by
 have hnews:∀ j x,[u][j]?=some x→w.cell? (ad.add j)=some x:=fun j x hj=>by
  cases j with
  | zero=>
   obtain rfl:u=x:=by simpa using hj
   simpa [Addr.add] using hu
  | succ j=>simp at hj
 obtain ⟨v',w',hr,h2,h3,_⟩:=run_append_own (P:=P) w base t ty e i z 1 bytes ht hi hz hsize hby hzs (by decide) v n xs hown ad 1 1 [u] rfl hnews (by simpa using h1) h63 hbytes hbase
 refine ⟨v',w',hr,h2,h3,fun k hk=>?_⟩
 have h63':n+1≤9223372036854775807:=by simp only [maxLen] at h63;omega
 have hb1:(n+1)*i.bytes≤140737488355328:=by rw [hby];exact hbytes
 rcases hown.2 with ⟨rfl,rfl⟩|⟨g,cap,cur,rfl,hbg,hg,hnc,hcm,hcs,htake⟩
 ·have hr':=run_append_nil (P:=P) w t ty e i z ht hi hz ad 1 1 [u] (by simp [hsize]) hnews (by omega) (by omega) (by omega)
  rw [hr] at hr'
  injection hr' with e1 e2
  subst e1
  right
  simp only [Value.ownBlock,Option.some.injEq] at hk
  omega
 ·by_cases hroom:n+1≤cap
  ·have hr':=run_append_room (P:=P) w t ty e i ht hi g n cap cur hg ad 1 1 [u] (by simp [hsize]) hnews (by simpa using h1) hroom (by rw [hsize,hcs];simp;omega)
   rw [hr] at hr'
   injection hr' with e1 e2
   subst e1
   left
   exact hk
  ·have hr':=run_append_grow (P:=P) w t ty e i z ht hi hz ⟨g,0,none⟩ n cap xs (by rw [hsize];exact hown.1) (hown.cells (g:=g) rfl) ad 1 1 [u] (by simp [hsize]) hnews (by omega) (by omega) (growslice_fits (by omega) hb1)
   rw [hr] at hr'
   injection hr' with e1 e2
   subst e1
   right
   simp only [Value.ownBlock,Option.some.injEq] at hk
   omega
theorem wpListIn_append_at {F:Fence}{n:Nat}{P:Program} (w:World) {ops:Array Oper}{rest:List Oper}{o:Oper}{a:Act}{Q:Exit→Act→World→Prop}
  (hg:o.guard=none) (s x:Operand) (t:TypeId) (hop:o.op=Op.call { callee:=Callee.builtin Builtin.append,args:=#[s,x],argTypes:=#[t,t] })
  (base:Nat) (e:TypeId) (i:TypeInfo) (z:Value) (bytes:Nat) (h1:P.underlying t=some (.slice e)) (h2:P.info? e=some i) (h3:i.zero=some z) (h4:i.size=1) (h5:i.bytes=bytes) (h6:z.cells.size=1)
  (v:Value) (k:Nat) (xs:List Value) (hs:a.eval s=v) (hown:w.ownsRow base e 1 v k xs) (ad:Addr) (u:Value) (hx:a.eval x=.slice (some ad) 1 1) (hu:w.cell? ad=some u) (h1c:u.oneCell'=true) (b1:k+1≤maxLen) (b2:(k+1)*bytes≤140737488355328) (b3:base≤w.heap.size)
  (hK:∀ v' w',w'.ownsRow base e 1 v' (k+1) (xs++[u])→w.grownBy w' v.ownBlock→(∀ k,v'.ownBlock=some k→v.ownBlock=some k∨w.heap.size≤k)→wpListIn F n P ops Q rest (a.put o.dst v') w') :
  wpListIn F n P ops Q (o::rest) a w:=by
 refine wpListIn_plain hg fun K hK'=>?_
 obtain ⟨v',w',hrun,r1,r2,r3⟩:=run_append_at (P:=P) w base t o.type e i z bytes h1 h2 h3 h4 h5 h6 v k xs hown ad u hu h1c b1 b2 b3
 unfold Oper.wpIn
 refine ⟨by simp [Oper.about,hop,resolve,Target.leads,Sem.run_pure],?_⟩
 rw [Oper.semAt_plain F _ _ (by rw [hop];intro c hc';cases hc')]
 simp [execOp,hop,resolve,invoke,builtin,hs,hx,hrun,Result.andThen]
 exact hK' _ _ (hK v' w' r1 r2 r3)
theorem boxed_at {W:World}{t:TypeId}{v:Value}{k:Nat} (hk:k=W.heap.size):Boxed (W.alloc (.cells #[v] t)) k t v:=hk▸Boxed.new W t v
theorem KpW.appended {W w1:World}{n₀ n₁ B:Nat}{t e:TypeId}{v v':Value}{k:Nat}{xs:List Value}{tmp:Obj} (hv:Boxed W B t v) (hrow:W.ownsRow n₀ e 1 v k xs) (hn₀:n₀≤W.heap.size) (hnB:n₀≤B) (hBn:B<n₁)
  (hgrow:(W.alloc tmp).grownBy w1 v.ownBlock) (hnew:∀ k,v'.ownBlock=some k→v.ownBlock=some k∨(W.alloc tmp).heap.size≤k) (hc:w1.cell? ⟨B,0,none⟩=some v):KpW n₀ n₁ B W (w1.setCell ⟨B,0,none⟩ v'):=by
 have hs1:(W.alloc tmp).heap.size=W.heap.size+1:=by simp
 have hblk:∀ j,j<W.heap.size→j≠B→v.ownBlock≠some j→(w1.setCell ⟨B,0,none⟩ v').heap[j]?=W.heap[j]?:=fun j hj hjB hjv=>
  (Below.heap_setCell w1 ⟨B,0,none⟩ v' j hjB).trans ((hgrow.block j (by omega) (fun e=>hjv e.symm)).trans (Below.heap_alloc W tmp j hj))
 refine ⟨?_,fun j hj=>hblk j (by omega) (by omega) (fun e=>?_),fun j o hj ho hoc hm=>?_⟩
 ·have:=hgrow.size
  have h2:(w1.setCell ⟨B,0,none⟩ v').heap.size=w1.heap.size:=by simp [World.setCell]
  omega
 ·have:=(hrow.lt j e).1
  omega
 ·have hjl:j<W.heap.size:=(Array.getElem?_eq_some_iff.1 ho).1
  have hne:v.ownBlock≠some j:=fun e=>by
   rcases hrow.2 with ⟨rfl,_⟩|⟨g,cap,cur,rfl,_⟩
   ·cases e
   ·obtain rfl:g=j:=by simpa [Value.ownBlock] using e
    exact hm ⟨_,_,hv.cell⟩
  refine ⟨(hblk j hjl (by omega) hne).trans ho,fun ⟨n1,c1,h1⟩=>?_⟩
  rw [World.cell?_setCell_same _ _ _ hc] at h1
  have e1:=Option.some.inj h1
  rcases hnew j (by rw [e1];rfl) with h|h
  ·exact hne h
  ·omega
end Go.Proofs.YtaammoodcgfhpaaDoor.Eng
