/-
 The engine, part 38: slice expressions with three indexes.

 The engine, part 39: elements of rows that are ours are written; a variable whose first cell lies in older blocks.

 The engine, part 40: functions with one variable, whose first cell lies in older blocks.
-/
import Derived.Test.YtaammoodcgfhpaaDoorKE31
import Derived.Test.YtaammoodcgfhpaaDoorKE6
import Derived.Test.YtaammoodcgfhpaaDoorKE30
import Derived.Test.YtaammoodcgfhpaaDoorKN0
set_option linter.unusedSimpArgs false
set_option linter.unusedVariables false
set_option linter.defProp false
set_option maxRecDepth 100000
set_option maxHeartbeats 4000000
namespace Go.Proofs.YtaammoodcgfhpaaDoor.Eng
open Go Go.RowKit

theorem aw_condT {P:Program}{en:En}{K:Exit→St→Prop}{s:St}{c:Operand}{x y:Code} (hc:ev s.f c=.d (.v (.bool true))) (h:AWs P en x K s):AWs P en (.cond c x y) K s:=aw_cond hc (fun _=>h) (fun h=>by cases h)
theorem aw_condF {P:Program}{en:En}{K:Exit→St→Prop}{s:St}{c:Operand}{x y:Code} (hc:ev s.f c=.d (.v (.bool false))) (h:AWs P en y K s):AWs P en (.cond c x y) K s:=aw_cond hc (fun h=>by cases h) (fun _=>h)
section
variable {P:Program}{en:En}{ops:Array Oper}{o:Oper}{l:List Oper}{K:St→Prop}{s:St}
end
end Go.Proofs.YtaammoodcgfhpaaDoor.Eng
namespace Go.Proofs.YtaammoodcgfhpaaDoor.Eng
open Go Go.RowKit

/-! ### A row of ours gets other elements -/
def UpA (N κ:Nat) (e:TypeId) (es es':List (List D)) (x y:A):Prop:=(y=x∧Safe (fun b=>N≤b) x)∨(x=.own κ e 1 es∧y=.own κ e 1 es'∧es'.length=es.length)
def UpL (N κ:Nat) (e:TypeId) (es es':List (List D)):List A→List A→Prop
 | [],ys=>ys=[]
 | x::xs,ys=>∃ y ys',ys=y::ys'∧UpA N κ e es es' x y∧UpL N κ e es es' xs ys'
theorem UpL.nil {N κ:Nat}{e:TypeId}{es es':List (List D)}:UpL N κ e es es' [] []:=rfl
theorem UpL.keep {N κ:Nat}{e:TypeId}{es es':List (List D)}{x:A}{xs ys:List A} (h:Safe (fun b=>N≤b) x) (k:UpL N κ e es es' xs ys):UpL N κ e es es' (x::xs) (x::ys):=⟨x,ys,rfl,.inl ⟨rfl,h⟩,k⟩
theorem UpL.row {N κ:Nat}{e:TypeId}{es es':List (List D)}{xs ys:List A} (h:es'.length=es.length) (k:UpL N κ e es es' xs ys):UpL N κ e es es' (.own κ e 1 es::xs) (.own κ e 1 es'::ys):=⟨_,ys,rfl,.inr ⟨rfl,rfl,h⟩,k⟩
theorem UpA.lt {N κ:Nat}{e:TypeId}{es es':List (List D)}{x y:A}{p:Nat→Prop} (h:UpA N κ e es es' x y) (k:x.lt p):y.lt p:=by
 rcases h with ⟨rfl,_⟩|⟨rfl,rfl,_⟩
 ·exact k
 ·unfold A.lt at k ⊢;exact k
theorem UpL.lt {N κ:Nat}{e:TypeId}{es es':List (List D)}{p:Nat→Prop}:∀ {xs ys:List A},UpL N κ e es es' xs ys→A.ltL p xs→A.ltL p ys
 | [],ys,h,_=>by unfold UpL at h;subst h;unfold A.ltL;trivial
 | x::xs,ys,h,k=>by
  unfold UpL at h
  obtain ⟨y,ys',rfl,h1,h2⟩:=h
  unfold A.ltL at k ⊢
  exact ⟨h1.lt k.1,h2.lt k.2⟩
structure NewRow (G G':Gh) (N κ b:Nat) (e:TypeId) (es es':List (List D)):Prop where
 E:G'.E=G.E
 cp:G'.cp=G.cp
 C:∀ b' o v,G.C b' o v→¬N≤b'→G'.C b' o v
 hE:G.E κ=some b
 rep:RepEs G'.C 1 es' b 0
theorem UpA.rep {G G':Gh}{N κ b:Nat}{e:TypeId}{es es':List (List D)} (hn:NewRow G G' N κ b e es es') {x y:A}{u:Value} (h:UpA N κ e es es' x y) (k:RepA G x u) (hne:es≠[]):RepA G' y u:=by
 have hG:G'={ G with C:=G'.C }:=by
  have h1:=hn.E
  have h2:=hn.cp
  cases G;cases G'
  simp only at h1 h2
  subst h1 h2
  rfl
 rcases h with ⟨rfl,h⟩|⟨rfl,rfl,hl⟩
 ·rw [hG]
  exact h G G'.C u (fun b o v c q=>hn.C b o v c q) k
 ·unfold RepA at k ⊢
  rcases k with ⟨_,k,_⟩|⟨b',k1,k2,k3,k4,_⟩
  ·exact absurd k hne
  ·rw [hn.hE] at k1
   have:=Option.some.inj k1;subst this
   right
   exact ⟨b,by rw [hn.E];exact hn.hE,by rw [hl,hn.cp];exact k2,by rw [hl,hn.cp];exact k3,by rw [hn.cp];exact k4,hn.rep⟩
theorem UpL.rep {G G':Gh}{N κ b:Nat}{e:TypeId}{es es':List (List D)} (hn:NewRow G G' N κ b e es es') (hne:es≠[]):∀ {xs ys:List A}{us:List Value},UpL N κ e es es' xs ys→RepAL G xs us→RepAL G' ys us
 | [],ys,us,h,k=>by unfold UpL at h;subst h;unfold RepAL at k ⊢;exact k
 | x::xs,ys,us,h,k=>by
  unfold UpL at h
  obtain ⟨y,ys',rfl,h1,h2⟩:=h
  unfold RepAL at k ⊢
  obtain ⟨u,us',rfl,k1,k2⟩:=k
  exact ⟨u,us',rfl,h1.rep hn k1 hne,h2.rep hn hne k2⟩
def St.keepO (s:St) (ts ws:List Nat) (κ n:Nat) (e:TypeId) (y:A) (bs:List (Nat × Option (List A))):St:={ fr:=ws.map (fun t=>(t,y))++ts.map fun t=>(t,s.f t),bx:=bs,al:=[(κ,some (n,e,1))],nx:=s.nx }
theorem keepO_f (s:St) (ts ws:List Nat) (κ n:Nat) (e:TypeId) (y:A) (bs:List (Nat × Option (List A))) (t:Nat):(s.keepO ts ws κ n e y bs).f t=if t∈ws then y else if t∈ts then s.f t else .top:=by
 unfold St.keepO St.f
 simp only
 induction ws with
 | nil=>simp only [List.map_nil,List.nil_append,List.not_mem_nil,if_false];exact keep_f s ts [] t
 | cons w ws ih=>
  simp only [List.map_cons,List.cons_append,lk_cons]
  by_cases h:t=w
  ·subst h;simp
  ·rw [upd_ne _ _ h,ih]
   simp [h]
def BsOk (s:St) (N κ:Nat) (e:TypeId) (es es':List (List D)):List (Nat × Option (List A))→Prop
 | []=>True
 | (k,o)::r=>(∃ cs cs',o=some cs'∧lk none s.bx k=some cs∧UpL N κ e es es' cs cs')∧BsOk s N κ e es es' r
theorem BsOk.get {s:St}{N κ:Nat}{e:TypeId}{es es':List (List D)}:∀ {bs:List (Nat × Option (List A))},BsOk s N κ e es es' bs→∀ {k:Nat}{cs':List A},lk none bs k=some cs'→∃ cs,lk none s.bx k=some cs∧UpL N κ e es es' cs cs'
 | [],_,k,cs',h=>by simp [lk] at h
 | (k0,o)::r,hb,k,cs',h=>by
  unfold BsOk at hb
  rw [lk_cons] at h
  by_cases e':k=k0
  ·subst e'
   rw [upd_same] at h
   obtain ⟨cs,cs2,h1,h2,h3⟩:=hb.1
   rw [h1] at h
   have:=Option.some.inj h;subst this
   exact ⟨cs,h2,h3⟩
  ·rw [upd_ne _ _ e'] at h
   exact hb.2.get h
structure Own1 (en:En) (s:St):Prop where
 cok:Cok en.C en.w
 X:∀ b,en.X b→en.E 0=some b
 ks:en.ks 0
 b0:(lk none s.bx 0).isSome=true
section
variable {P:Program}{en:En}{ops:Array Oper}{o:Oper}{l:List Oper}{K:St→Prop}{s:St}
abbrev rowB (l:List UInt8):List (List D):=l.map fun c=>[uD c]
end
section
variable {P:Program}{s:St}{ops:Array Oper}{o:Oper}{l:List Oper}{acc:List Nat}{K2:List Nat→St→Prop}
theorem ol_iaddrO {N:Nat}{t e e':TypeId}{x i:Operand}{k n z:Nat}{g:Bool}{kd:IntKind}{es:List (List D)} (hg:match o.guard with|none=>True|some (g,want)=>guardB s ops g=some want) (h:o.op=.indexAddr t x i) (ht:tyElem P t=some e) (hk:tyK P e=some (g,z)) (hx:ev s.f x=.own k e' z es) (hi:intA (ev s.f i)=some (kd,(n:Int))) (hn:n<es.length)
  (hK:OL P N ops l (acc++[0]) K2 ({ s with nx:=s.nx+16 }.set o.dst (.ptr k (n*z)))):OL P N ops (o::l) acc K2 s:=by
 refine ⟨0,_,?_,(St.set_nx _ _ _).trans rfl,hK⟩
 rw [St.set_f,St.set_mem,St.mem_bump (s:=s) (h:=rfl)]
 refine .run (fun g want hg'=>?_) (by rw [h];exact .iao ht hk hx hi hn)
 rw [hg'] at hg
 simp only at hg
 unfold guardB at hg
 split at hg
 ·rename_i t ht
  refine ⟨t,ht,?_⟩
  split at hg
  ·rename_i b hb
   show s.f t=_
   rw [hb,Option.some.inj hg]
  ·cases hg
 ·cases hg
end
end Go.Proofs.YtaammoodcgfhpaaDoor.Eng
namespace Go.Proofs.YtaammoodcgfhpaaDoor.Eng
open Go Go.RowKit

end Go.Proofs.YtaammoodcgfhpaaDoor.Eng
