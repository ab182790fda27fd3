/-
 Ranges over functions: what raw regions want.
-/
import Derived.Test.YtaammoodcgfhpaaDoorKNW4
import Derived.Test.YtaammoodcgfhpaaDoorKE50
set_option linter.unusedSimpArgs false
set_option linter.unusedVariables false
set_option linter.defProp false
set_option maxRecDepth 100000
set_option maxHeartbeats 4000000
namespace Go.Proofs.YtaammoodcgfhpaaDoor.Eng
open Go Go.RowKit Go.Shelf
attribute [local go_sem] Oper.semAt_some

theorem simS_v {en:En}{s:St}{a:Act}{w:World} (h:SimS en s a w) (t:Nat) {v:Value} (hv:s.f t=.d (.v v)):a.tmps.getD t undef=v:=by
 obtain ⟨G,hG⟩:=h
 have:=hG.rep t
 rw [hv] at this
 unfold RepA RepD at this
 exact this
theorem simS_below {w0:World}{C:CellR}{n:Nat}{s:St}{a:Act}{w:World} (h:SimS (enOf w0 C n) s a w):Below w0.heap.size w0 w:=by
 obtain ⟨G,hG⟩:=h
 exact hG.fw.below fun k _ hx=>hx
theorem simS_df {en:En}{s:St}{a:Act}{w:World} (h:SimS en s a w):a.defers=[]:=by
 obtain ⟨G,hG⟩:=h
 exact hG.df
theorem put_get {a:Act}{d:Nat}{v:Value} (h:d<a.tmps.size):(a.put (some d) v).eval (.tmp d)=v:=by simp [Act.eval,Act.put,h]
theorem put_ne {a:Act}{d t:Nat}{v:Value} (h:t≠d):(a.put (some d) v).tmps.getD t undef=a.tmps.getD t undef:=by
 have h':¬d=t:=fun e=>h e.symm
 simp [Act.put,Array.getD_eq_getD_getElem?,Array.getElem?_setIfInBounds,h']
theorem put_size {a:Act}{d:Nat}{v:Value}:(a.put (some d) v).tmps.size=a.tmps.size:=by simp [Act.put]
theorem not_run {P:Program}{a:Act}{w:World}{t:Nat}{b:Bool}{ty:TypeId} (o:Oper) (h:a.eval (.tmp t)=.bool b) (ho:o.op=.unOp .not ty (.tmp t)):(execOp a.eval o).run P w=.ok (.value (.bool (!b))) w:=by
 simp [execOp,ho,h,Op.unary]
theorem not_runT {P:Program}{a:Act}{w:World}{t:Nat}{ty:TypeId} (o:Oper) (h:a.eval (.tmp t)=.bool true) (ho:o.op=.unOp .not ty (.tmp t)):(execOp a.eval o).run P w=.ok (.value (.bool false)) w:=not_run o h ho
theorem not_runF {P:Program}{a:Act}{w:World}{t:Nat}{ty:TypeId} (o:Oper) (h:a.eval (.tmp t)=.bool false) (ho:o.op=.unOp .not ty (.tmp t)):(execOp a.eval o).run P w=.ok (.value (.bool true)) w:=not_run o h ho
theorem row_base {w:World}{base base':Nat}{e:TypeId}{size:Nat}{v:Value}{n:Nat}{xs:List Value} (h:w.ownsRow base e size v n xs) (hb:base'≤base):w.ownsRow base' e size v n xs:=
 ⟨h.1,h.2.imp id fun ⟨g,cap,cur,q1,q2,q3⟩=>⟨g,cap,cur,q1,Nat.le_trans hb q2,q3⟩⟩
theorem Cok.one {C:CellR}{w:World}{b:Nat}{u:Value} (h:Cok C w) (hc:w.cell? ⟨b,0,none⟩=some u) (h1:u.oneCell'=true) (hf:w.frozen? ⟨b,0,none⟩=false):Cok (fun b' o v=>C b' o v∨(b'=b∧o=0∧v=u)) w:=by
 refine ⟨fun b' o v hcv=>?_,fun b' o v hcv hb=>?_,h.gl.mono fun _ _ _ h=>.inl h,h.tb⟩
 ·rcases hcv with hcv|⟨rfl,rfl,rfl⟩
  ·exact h.cell _ _ _ hcv
  ·exact ⟨hc,h1⟩
 ·rcases hcv with hcv|⟨rfl,rfl,rfl⟩
  ·exact h.nf _ _ _ hcv hb
  ·exact hf
end Go.Proofs.YtaammoodcgfhpaaDoor.Eng
