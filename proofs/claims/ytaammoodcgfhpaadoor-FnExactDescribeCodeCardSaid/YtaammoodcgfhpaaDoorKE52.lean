/-
 The engine, part 52: calls that work on a variable that holds three cells of data and a row of its own.
-/
import Derived.Test.YtaammoodcgfhpaaDoorKE5
set_option linter.unusedSimpArgs false
set_option linter.unusedVariables false
set_option linter.defProp false
set_option maxRecDepth 100000
set_option maxHeartbeats 4000000
namespace Go.Proofs.YtaammoodcgfhpaaDoor.Eng
open Go Go.RowKit

theorem toZL_q {m:Mem}{x0 x1 x2:D}{j:Nat}{e:TypeId}{z:Nat}{es:List (List D)} (h:m.al j=some (es.length,e,z)):ToZL m [.d x0,.d x1,.d x2,.own j e z es] [.d x0,.d x1,.d x2,.own e z es] [j]:=by
 unfold ToZL
 refine ⟨_,_,[],[j],rfl,rfl,by unfold ToZ;exact ⟨rfl,rfl⟩,?_⟩
 unfold ToZL
 refine ⟨_,_,[],[j],rfl,rfl,by unfold ToZ;exact ⟨rfl,rfl⟩,?_⟩
 unfold ToZL
 refine ⟨_,_,[],[j],rfl,rfl,by unfold ToZ;exact ⟨rfl,rfl⟩,?_⟩
 unfold ToZL
 refine ⟨_,_,[j],[],rfl,rfl,by unfold ToZ;exact ⟨rfl,rfl,h⟩,?_⟩
 unfold ToZL
 exact ⟨rfl,rfl⟩
theorem AC.nilrowQ {P:Program}{f:FuncId}{args:List A}{x0 x1 x2:D}{e:TypeId}{z:Nat}{Q:Rz→Option (List Rz)→Prop} (h:AC P f args (some [.d x0,.d x1,.d x2,.own e z []]) Q):AC P f args (some [.d x0,.d x1,.d x2,.d (.v (.slice none 0 0))]) Q:=
 ⟨h.1,fun w C β F0 vs h1 h2 h3 h4=>by
  refine h.2 w C β F0 vs h1 h2 ?_ h4
  unfold BoxO at h3 ⊢
  obtain ⟨us,ty,k1,k2,k3⟩:=h3
  refine ⟨us,ty,k1,?_,k3⟩
  unfold RepZL at k2 ⊢
  obtain ⟨u,us',F1,F2,e1,e2,g1,g2⟩:=k2
  refine ⟨u,us',F1,F2,e1,e2,g1,?_⟩
  unfold RepZL at g2 ⊢
  obtain ⟨u,us2,F3,F4,e3,e4,g3,g4⟩:=g2
  refine ⟨u,us2,F3,F4,e3,e4,g3,?_⟩
  unfold RepZL at g4 ⊢
  obtain ⟨u,us3,F5,F6,e5,e6,g5,g6⟩:=g4
  refine ⟨u,us3,F5,F6,e5,e6,g5,?_⟩
  unfold RepZL at g6 ⊢
  obtain ⟨u',us4,F7,F8,e7,e8,g7,g8⟩:=g6
  refine ⟨u',us4,F7,F8,e7,e8,?_,g8⟩
  unfold RepZ at g7 ⊢
  obtain ⟨rfl,g7⟩:=g7
  rw [repD_v'] at g7
  exact .inl ⟨rfl,g7,rfl⟩⟩
section
variable {P:Program}{en:En}{ops:Array Oper}{o:Oper}{l:List Oper}{K:St→Prop}{s:St}
theorem ow_call1q {f:FuncId}{xs:Array Operand}{ats:Array TypeId}{k j:Nat}{e:TypeId}{z:Nat}{ys:List A}{x0 x1 x2 x:D}{es es':List (List D)}{t:Nat} (hg:Wanted s ops o) (hd:∀ x,o.dst=some x→x<en.sz) (ht:o.dst=some t) (ho:o.op=.call { callee:=.value (.func f),args:=xs,argTypes:=ats })
  (hc:AC P f ys (some [.d x0,.d x1,.d x2,.own e z es]) fun r b=>r=.d x∧b=some [.d x0,.d x1,.d x2,.own e z es'])
  (h1:argsOf (some k) (xs.toList.map (ev s.f))=some ys) (h2:lk none s.bx k=some [.d x0,.d x1,.d x2,.own j e z es]) (h3:lk none s.al j=some (es.length,e,z)) (hkj:k≠j)
  (h:OWs P en ops l K ({ s with bx:=(k,some [.d x0,.d x1,.d x2,.own s.nx e z es'])::(k,none)::s.bx,al:=(s.nx,some (es'.length,e,z))::(j,none)::s.al,nx:=s.nx+16 }.set (some t) (.d x))):OWs P en ops (o::l) K s:=by
 rw [←ht] at h
 refine ow_call1 hg hd ho ⟨k,ys,_,_,[j],_,h1,h2,toZL_q h3,fun i hi=>?_,by simpa using hkj,hc,fun r zs' ⟨e1,e2⟩=>?_⟩
 ·have:=List.mem_singleton.1 hi
  subst this
  rw [h3]
  rfl
 ·have e2:=Option.some.inj e2
  subst e1 e2
  exact ⟨by simp [Rz.nkL,Rz.nk],h⟩
theorem ow_call1qn {f:FuncId}{c:Operand}{fs cl:List A}{xs:Array Operand}{ats:Array TypeId}{k:Nat}{e:TypeId}{z:Nat}{ys:List A}{x0 x1 x2 x:D}{es':List (List D)}{t:Nat} (hg:Wanted s ops o) (hd:∀ x,o.dst=some x→x<en.sz) (ht:o.dst=some t) (ho:o.op=.call { callee:=.value c,args:=xs,argTypes:=ats }) (hcl:clA (ev s.f c)=some (f,fs,cl))
  (hc:AC P f ys (some [.d x0,.d x1,.d x2,.own e z []]) fun r b=>r=.d x∧b=some [.d x0,.d x1,.d x2,.own e z es'])
  (h1:argsOf (some k) (fs++xs.toList.map (ev s.f)++cl)=some ys) (h2:lk none s.bx k=some [.d x0,.d x1,.d x2,.d (.v (.slice none 0 0))])
  (h:OWs P en ops l K ({ s with bx:=(k,some [.d x0,.d x1,.d x2,.own s.nx e z es'])::(k,none)::s.bx,al:=(s.nx,some (es'.length,e,z))::s.al,nx:=s.nx+16 }.set (some t) (.d x))):OWs P en ops (o::l) K s:=by
 rw [←ht] at h
 refine ow_call1V hg hd ho hcl ⟨k,ys,_,_,[],_,h1,h2,toZL_d s.mem [x0,x1,x2,.v (.slice none 0 0)],fun i hi=>(by cases hi),by simp,hc.nilrowQ,fun r zs' ⟨e1,e2⟩=>?_⟩
 have e2:=Option.some.inj e2
 subst e1 e2
 exact ⟨by simp [Rz.nkL,Rz.nk],h⟩
variable {K2:List Nat→St→Prop}{acc:List Nat}
theorem ol_call1q {N:Nat}{f:FuncId}{xs:Array Operand}{ats:Array TypeId}{k j:Nat}{e:TypeId}{z:Nat}{ys:List A}{x0 x1 x2 x:D}{es es':List (List D)}{t:Nat} (hg:match o.guard with|none=>True|some (g,want)=>guardB s ops g=some want) (ht:o.dst=some t) (ho:o.op=.call { callee:=.value (.func f),args:=xs,argTypes:=ats })
  (hc:AC P f ys (some [.d x0,.d x1,.d x2,.own e z es]) fun r b=>r=.d x∧b=some [.d x0,.d x1,.d x2,.own e z es'])
  (h1:argsOf (some k) (xs.toList.map (ev s.f))=some ys) (h2:lk none s.bx k=some [.d x0,.d x1,.d x2,.own j e z es]) (h3:lk none s.al j=some (es.length,e,z)) (hkj:k≠j) (h8:∃ o,A.ptr k o∈xs.toList.map (ev s.f))
  (h:OL P N ops l (acc++[3]) K2 ({ s with bx:=(k,some [.d x0,.d x1,.d x2,.own s.nx e z es'])::(k,none)::s.bx,al:=(s.nx,some (es'.length,e,z))::(j,none)::s.al,nx:=s.nx+16 }.set (some t) (.d x))):OL P N ops (o::l) acc K2 s:=by
 rw [←ht] at h
 refine ol_call1 hg ho h1 h2 (toZL_q h3) (fun i hi=>?_) (by simpa using hkj) hc (by simp [Rz.nkL,Rz.nk]) h8 h
 have:=List.mem_singleton.1 hi
 subst this
 rw [h3]
 rfl
end
end Go.Proofs.YtaammoodcgfhpaaDoor.Eng
