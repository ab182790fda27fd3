/-
 Draws: descriptions of which one rule is changed: the beginning.

 Draws: descriptions of which one rule is changed.
-/
import Derived.Test.YtodkkldopciagaaGreatDoorKNDB
import Derived.Test.YtodkkldopciagaaGreatDoorKNDA
import Derived.Test.YtodkkldopciagaaGreatDoorKNDY
import Derived.Test.YtodkkldopciagaaGreatDoorKE41
set_option linter.unusedSimpArgs false
set_option linter.unusedVariables false
set_option linter.defProp false
set_option maxRecDepth 100000
set_option maxHeartbeats 4000000
namespace Go.Proofs.YtodkkldopciagaaGreatDoor.Eng
open Go Go.RowKit

theorem vwN {m:Mem}{k:Nat}:VwOk m k [] []:=by unfold VwOk;rfl
theorem vwD {m:Mem}{k:Nat}{x:Value}{cs:List A}{ds:List Eng.D} (h:VwOk m k cs ds):VwOk m k (.d (.v x)::cs) (.v x::ds):=by unfold VwOk;exact ⟨_,ds,rfl,.inl ⟨x,rfl,rfl⟩,h⟩
theorem vwO {m:Mem}{k j z:Nat}{e:TypeId}{es:List (List Eng.D)}{cs:List A}{ds:List Eng.D} (h1:m.al j=some (es.length,e,z)) (h2:j≠k) (h3:flatEs es) (h:VwOk m k cs ds):VwOk m k (.own j e z es::cs) (.sl z es::ds):=by unfold VwOk;exact ⟨_,ds,rfl,.inr ⟨j,e,z,es,rfl,rfl,h1,h2,h3⟩,h⟩
def rowF (f:Nat) (r:RuleD):List (List Eng.D):=if f=4 then r.bytes.map (fun c=>[uD c]) else if f=5 then r.names.map (fun s=>[sD s]) else if f=6 then r.tags.map (fun n=>[iD n]) else r.kids.map fun n=>[iD n]
theorem rowF_flat (f:Nat) (r:RuleD):flatEs (rowF f r):=by
 unfold rowF
 split
 ·exact flat_map _ _
 split
 ·exact flat_map _ _
 split
 ·exact flat_map _ _
 ·exact flat_map _ _
theorem vwR {mm:Mem}{κ a b c d:Nat}{r:RuleD} (h1:mm.al a=some ((r.bytes.map fun c=>[uD c]).length,5,1)) (h2:mm.al b=some ((r.names.map fun s=>[sD s]).length,9,1)) (h3:mm.al c=some ((r.tags.map fun n=>[iD n]).length,3,1)) (h4:mm.al d=some ((r.kids.map fun n=>[iD n]).length,3,1)) (h5:a≠κ∧b≠κ∧c≠κ∧d≠κ) :
  VwOk mm κ [.d (sD r.name),.d (iD r.kind),.d (iD r.size),.d (bD r.little),.own a 5 1 (r.bytes.map fun c=>[uD c]),.own b 9 1 (r.names.map fun s=>[sD s]),.own c 3 1 (r.tags.map fun n=>[iD n]),.own d 3 1 (r.kids.map fun n=>[iD n])] (encRc r):=
 vwD (vwD (vwD (vwD (vwO h1 h5.1 (flat_map _ _) (vwO h2 h5.2.1 (flat_map _ _) (vwO h3 h5.2.2.1 (flat_map _ _) (vwO h4 h5.2.2.2 (flat_map _ _) vwN)))))))
def gkA (k0 f0 κ n:Nat) (es:List (List Eng.D)):List (Nat × Nat × List (List Eng.D)):=if k0<n then [(8*k0+f0,κ,es)] else []
def gkM (k0 n:Nat) (e:TypeId) (es:List (List Eng.D)):Option (Nat × TypeId × Nat):=if k0<n then some (es.length,e,1) else none
theorem gkA_t {k0 f0 κ n:Nat}{es:List (List Eng.D)} (h:k0<n):gkA k0 f0 κ n es=[(8*k0+f0,κ,es)]:=if_pos h
theorem gkA_f {k0 f0 κ n:Nat}{es:List (List Eng.D)} (h:¬k0<n):gkA k0 f0 κ n es=[]:=if_neg h
theorem gkM_t {k0 n:Nat}{e:TypeId}{es:List (List Eng.D)} (h:k0<n):gkM k0 n e es=some (es.length,e,1):=if_pos h
theorem gkM_f {k0 n:Nat}{e:TypeId}{es:List (List Eng.D)} (h:¬k0<n):gkM k0 n e es=none:=if_neg h
theorem flat8_len:∀ {es:List (List Eng.D)},(∀ e∈es,e.length=8)→es.flatten.length=8*es.length
 | [],_=>rfl
 | e::es,h=>by
  rw [List.flatten_cons,List.length_append,flat8_len fun x hx=>h x (List.mem_cons_of_mem _ hx),h e List.mem_cons_self,List.length_cons]
  omega
theorem flat8_get:∀ {es:List (List Eng.D)}{k f:Nat}{e:List Eng.D},(∀ e∈es,e.length=8)→es[k]?=some e→f<8→es.flatten[8*k+f]?=e[f]?
 | [],_,_,_,_,h,_=>by simp at h
 | x::es,0,f,e,h8,h,hf=>by
  have:x=e:=by simpa using h
  subst this
  have:=h8 x List.mem_cons_self
  rw [List.flatten_cons,Nat.mul_zero,Nat.zero_add,List.getElem?_append_left (by omega)]
 | x::es,k+1,f,e,h8,h,hf=>by
  have h1:=h8 x List.mem_cons_self
  rw [List.flatten_cons,List.getElem?_append_right (by omega),show 8*(k+1)+f - x.length=8*k+f by omega]
  exact flat8_get (fun y hy=>h8 y (List.mem_cons_of_mem _ hy)) (by simpa using h) hf
theorem flat8_set:∀ {es:List (List Eng.D)}{k f:Nat}{e:List Eng.D}{x:Eng.D},(∀ e∈es,e.length=8)→es[k]?=some e→f<8→(es.set k (e.set f x)).flatten=es.flatten.set (8*k+f) x
 | [],_,_,_,_,_,h,_=>by simp at h
 | y::es,0,f,e,x,h8,h,hf=>by
  have:y=e:=by simpa using h
  subst this
  have:=h8 y List.mem_cons_self
  rw [List.set_cons_zero,List.flatten_cons,List.flatten_cons,Nat.mul_zero,Nat.zero_add,List.set_append_left _ _ (by omega)]
 | y::es,k+1,f,e,x,h8,h,hf=>by
  have h1:=h8 y List.mem_cons_self
  rw [List.set_cons_succ,List.flatten_cons,List.flatten_cons,List.set_append_right _ _ (by omega),show 8*(k+1)+f - y.length=8*k+f by omega,flat8_set (fun z hz=>h8 z (List.mem_cons_of_mem _ hz)) (by simpa using h) hf]
theorem splice1 {cs:List A}{x:A}{o:Nat} (h:o<cs.length):splice cs [x] o=cs.set o x:=by
 unfold splice
 rw [List.set_eq_take_append_cons_drop,if_pos h]
 simp
def csA (D:List RuleD) (o κ:Nat) (e:TypeId) (es:List (List Eng.D)) (tl:List A):List A:=(((D.map encRc).flatten).map A.d).set o (.own κ e 1 es)++tl
theorem mapRc8 (D:List RuleD):∀ e∈D.map encRc,e.length=8:=fun e he=>by
 obtain ⟨r,_,rfl⟩:=List.mem_map.1 he
 rfl
theorem csA_len (D:List RuleD) (o κ:Nat) (e:TypeId) (es:List (List Eng.D)) (tl:List A):8*D.length≤(csA D o κ e es tl).length:=by
 unfold csA
 rw [List.length_append,List.length_set,List.length_map,flat8_len (mapRc8 D),List.length_map]
 omega
theorem csA_get {D:List RuleD}{k f f0 κ:Nat}{e:TypeId}{es:List (List Eng.D)}{tl:List A}{r:RuleD}{x:Eng.D} (hr:D[k]?=some r) (hf:f<8) (hx:(encRc r)[f]?=some x) (hn:8*k+f≠f0):(csA D f0 κ e es tl)[8*k+f]?=some (.d x):=by
 have hk:=(List.getElem?_eq_some_iff.1 hr).1
 have h:=flat8_get (mapRc8 D) (k:=k) (f:=f) (e:=encRc r) (by rw [List.getElem?_map,hr];rfl) hf
 unfold csA
 rw [List.getElem?_append_left (by rw [List.length_set,List.length_map,flat8_len (mapRc8 D),List.length_map];omega),List.getElem?_set_ne (Ne.symm hn),List.getElem?_map,h,hx]
 rfl
theorem csA_own {D:List RuleD}{k f κ:Nat}{e:TypeId}{es:List (List Eng.D)}{tl:List A} (hk:k<D.length) (hf:f<8):(csA D (8*k+f) κ e es tl)[8*k+f]?=some (.own κ e 1 es):=by
 unfold csA
 have hl:8*k+f<(((D.map encRc).flatten).map A.d).length:=by
  rw [List.length_map,flat8_len (mapRc8 D),List.length_map];omega
 rw [List.getElem?_append_left (by rw [List.length_set];exact hl),List.getElem?_set_self hl]
theorem csA_dv {D:List RuleD}{k f0 κ:Nat}{e:TypeId}{es:List (List Eng.D)}{tl:List A}{r:RuleD} (hr:D[k]?=some r) (hf:f0<8) (h0:(encRc r)[f0]?=some (.sl 1 es)):dvL (csA D (8*k+f0) κ e es tl) (((D.map encRc).flatten).map A.d++tl):=by
 have h:=flat8_get (mapRc8 D) (k:=k) (f:=f0) (e:=encRc r) (by rw [List.getElem?_map,hr];rfl) hf
 unfold csA
 refine dvL_app ?_
 have:=dvL_set (k:=κ) (z:=1) (e:=e) (es:=es) (((D.map encRc).flatten).map A.d) (8*k+f0)
 rwa [show (((D.map encRc).flatten).map A.d).set (8*k+f0) (.d (.sl 1 es))=((D.map encRc).flatten).map A.d by
  apply List.ext_getElem?
  intro j
  by_cases e1:8*k+f0=j
  ·subst e1
   rw [List.getElem?_set]
   simp only [if_true]
   rw [List.getElem?_map,h,h0]
   split
   ·rfl
   ·rename_i hn
    rw [List.length_map,flat8_len (mapRc8 D),List.length_map] at hn
    have hk:=(List.getElem?_eq_some_iff.1 hr).1
    omega
  ·rw [List.getElem?_set_ne e1]] at this
theorem csA_set {D:List RuleD}{k f f0 κ:Nat}{e:TypeId}{es:List (List Eng.D)}{tl:List A}{r r':RuleD}{x:Eng.D} (hr:D[k]?=some r) (hf:f<8) (hn:f≠f0) (hx:encRc r'=(encRc r).set f x):splice (csA D (8*k+f0) κ e es tl) [.d x] (8*k+f)=csA (D.set k r') (8*k+f0) κ e es tl:=by
 have hk:=(List.getElem?_eq_some_iff.1 hr).1
 rw [splice1 (by have:=csA_len D (8*k+f0) κ e es tl;omega)]
 unfold csA
 rw [List.set_append_left _ _ (by rw [List.length_set,List.length_map,flat8_len (mapRc8 D),List.length_map];omega),List.set_comm _ _ (by omega),←List.map_set,←flat8_set (mapRc8 D) (e:=encRc r) (by rw [List.getElem?_map,hr];rfl) hf,←hx,List.map_set]
theorem csA_row {D:List RuleD}{k f0 κ κ':Nat}{e e':TypeId}{es es':List (List Eng.D)}{tl:List A}{r r':RuleD}{x:Eng.D} (hr:D[k]?=some r) (hf:f0<8) (hx:encRc r'=(encRc r).set f0 x):splice (csA D (8*k+f0) κ e es tl) [.own κ' e' 1 es'] (8*k+f0)=csA (D.set k r') (8*k+f0) κ' e' es' tl:=by
 have hk:=(List.getElem?_eq_some_iff.1 hr).1
 rw [splice1 (by have:=csA_len D (8*k+f0) κ e es tl;omega)]
 unfold csA
 rw [List.set_append_left _ _ (by rw [List.length_set,List.length_map,flat8_len (mapRc8 D),List.length_map];omega),List.set_set,List.map_set,hx,flat8_set (mapRc8 D) (e:=encRc r) (by rw [List.getElem?_map,hr];rfl) hf,List.map_set,List.set_set]
theorem csF_dv {D:List RuleD}{k f f0 κ:Nat}{e:TypeId}{es:List (List Eng.D)}{tl cs:List A}{r r':RuleD}{x:Eng.D}{o:Nat} (hcs:cs=csA D (8*k+f0) κ e es tl) (ho:o=8*k+f) (hr:D[k]?=some r) (hf:f<8) (hn:f≠f0) (hf0:f0<8) (hx:encRc r'=(encRc r).set f x) (h0:(encRc r')[f0]?=some (.sl 1 es)):dvL (splice cs [.d x] o) ((((D.set k r').map encRc).flatten).map A.d++tl):=by
 subst hcs ho
 rw [csA_set hr hf hn hx]
 exact csA_dv (by rw [List.getElem?_set_self (List.getElem?_eq_some_iff.1 hr).1]) hf0 h0
theorem csR_dv {D:List RuleD}{k f0 κ κ':Nat}{e e':TypeId}{es es':List (List Eng.D)}{tl cs:List A}{r r':RuleD}{o:Nat} (hcs:cs=csA D (8*k+f0) κ e es tl) (ho:o=8*k+f0) (hr:D[k]?=some r) (hf0:f0<8) (hx:encRc r'=(encRc r).set f0 (.sl 1 es')) (h0:(encRc r')[f0]?=some (.sl 1 es')):dvL (splice cs [.own κ' e' 1 es'] o) ((((D.set k r').map encRc).flatten).map A.d++tl):=by
 subst hcs ho
 rw [csA_row hr hf0 hx]
 exact csA_dv (by rw [List.getElem?_set_self (List.getElem?_eq_some_iff.1 hr).1]) hf0 h0
theorem rowF_len {f:Nat}{r:RuleD} (h:RB 1000 r):(rowF f r).length≤1000:=by
 unfold rowF
 have h1:=h.lb
 have h2:=h.ln
 have h3:=h.lt
 have h4:=h.lk
 split
 ·simpa using h1
 split
 ·simpa using h2
 split
 ·simpa using h3
 ·simpa using h4
theorem enc_4 (r:RuleD) (y:UInt8):encRc { r with bytes:=r.bytes++[y] }=(encRc r).set 4 (.sl 1 (rowF 4 r++[[uD y]])):=by
 simp [encRc,rowF,encB]
theorem enc_5 (r:RuleD) (y:ByteArray):encRc { r with names:=r.names++[y] }=(encRc r).set 5 (.sl 1 (rowF 5 r++[[sD y]])):=by
 simp [encRc,rowF,encS]
theorem enc_6 (r:RuleD) (y:Int):encRc { r with tags:=r.tags++[y] }=(encRc r).set 6 (.sl 1 (rowF 6 r++[[iD y]])):=by
 simp [encRc,rowF,encI]
theorem enc_7 (r:RuleD) (y:Int):encRc { r with kids:=r.kids++[y] }=(encRc r).set 7 (.sl 1 (rowF 7 r++[[iD y]])):=by
 simp [encRc,rowF,encI]
theorem encg_4 (r:RuleD) (y:UInt8):(encRc { r with bytes:=r.bytes++[y] })[4]?=some (.sl 1 (rowF 4 r++[[uD y]])):=by
 rw [enc_4];rfl
theorem encg_5 (r:RuleD) (y:ByteArray):(encRc { r with names:=r.names++[y] })[5]?=some (.sl 1 (rowF 5 r++[[sD y]])):=by
 rw [enc_5];rfl
theorem encg_6 (r:RuleD) (y:Int):(encRc { r with tags:=r.tags++[y] })[6]?=some (.sl 1 (rowF 6 r++[[iD y]])):=by
 rw [enc_6];rfl
theorem encg_7 (r:RuleD) (y:Int):(encRc { r with kids:=r.kids++[y] })[7]?=some (.sl 1 (rowF 7 r++[[iD y]])):=by
 rw [enc_7];rfl
theorem cur_end {q:Nat→Prop}{X Y:Cur}{b:List UInt8} (h:X=Y) (hb:X.b=b):some ((curP q X).map Rz.d)=some [Rz.d (.iv q (encB b)),Rz.d (iD Y.i),Rz.d (iD Y.h)]:=by
 subst h hb;rfl
section
variable {p:Nat→Prop}
private def tyF:=ai (ai (ai tg22 tg24) (ai tg58 (ai tg60 tg26))) (ai (ai tg62 (ai tg3 tg4)) (ai tg45 (ai tg5 tg9)))
theorem any_f (c:Cur) (hb:c.b.length≤1048576) (f0:Nat) (e0:TypeId) (g0 g1:Nat) (hf:(f0=4∧e0=5∧g0=144∧g1=1120∧(anyW c).1=5)∨(f0=5∧e0=9∧g0=145∧g1=1121∧(anyW c).1=6)∨(f0=6∧e0=3∧g0=146∧g1=1122∧(anyW c).1=7)∨(f0=7∧e0=3∧g0=147∧g1=1123∧((anyW c).1≠5∧(anyW c).1≠6∧(anyW c).1≠7))):AC Tryz.prog 45 [.ptr 0 0] (some ((Eng.D.iv p (encB c.b)::[iD c.i,iD c.h]).map .d)) (fun r' b=>r'=.d (encD (anyC c).1)∧b=some ((Eng.D.iv p (encB c.b)::[iD (anyC c).2.i,iD (anyC c).2.h]).map .d)):=by
 have hI:=descC_inv c
 have hlt:=anyK_lt c
 obtain ⟨k0,hk0⟩:∃ k0,k0=anyK c:=⟨_,rfl⟩
 rw [←hk0] at hlt
 have hr0:(descC c).1[k0]?=some (ruleD (descC c).1 (k0:Nat)):=by
  have h1:=List.getElem?_eq_getElem hlt
  rw [ruleD_get h1]
  exact h1
 generalize ruleD (descC c).1 (k0:Nat)=r0 at hr0
 obtain ⟨m,hm⟩:∃ m,m=(bel (mkR c [] 1).2 6).1.toNat:=⟨_,rfl⟩
 have g6:=bel_in (mkR c [] 1).2 (n:=6) (by omega)
 have hm1:(bel (mkR c [] 1).2 6).1=(m:Int):=by omega
 have hd:descC c=rulesC m (bel (mkR c [] 1).2 6).2 [(mkR c [] 1).1]:=by rw [hm];rfl
 have hb1:(mkR c [] 1).2.b.length≤1048576:=by rw [mkR_b];exact hb
 have hb2:(bel (mkR c [] 1).2 6).2.b.length≤1048576:=by rw [bel_b];exact hb1
 refine calls_bodyC Tryz.func45 rfl Tryz.call45 Tryz.ntmps45 (by simp) (by simp [ArgsOk]) fun en q hsz hcok hX hks0 hks hq=>?_;refine enS ?_
 have m0:=mkR_o (p:=q) (D:=[]) (c:=c) ⟨by simp,fun r h=>by cases h⟩ (by simp) hb 1 (fun h=>absurd rfl h)
 have m1:AC Tryz.prog 100 [.ptr 0 0,.d (.agg [.v (.slice none 0 0)]),.d (iD 1)] (some ((curP q c).map .d)) (fun r b=>r=.agg (ruL (mkR c [] 1).1)∧b=some ((curP q (mkR c [] 1).2).map .d)):=m0.w (by
  simp (decide:=true) only [wkL_d,wkL,wkA,encD,encDs,List.map_nil,wkD_aggd,dleL_cons,dleL_nil,dle_nil,wkD_selfT,and_true,true_and]
  exact ⟨0,rfl,rfl⟩)
 have b6:=bel_c (p:=q) (mkR c [] 1).2 hb1 6
 refine walkS ?_
 (have hsz0:=hsz;refine ow_inlineN ?_ dsS rfl Tryz.func60 rfl Tryz.call60 Tryz.ntmps60 (by simp) fun en2 hsz hks2=>?_;exact trS;simp (decide:=true) only [frOf,ev,St.f,lk,reduceIte,List.zipIdx_cons,List.zipIdx_nil,List.map_cons,List.map_nil,List.nil_append,List.cons_append,List.append_nil,Nat.zero_add,Nat.reduceAdd])
 (repeat (first|refine aw_seq ?_|refine aw_region ?_|refine aw_block ?_|(refine aw_exit ?_;(try simp (decide:=true) only [reduceIte]))|(refine aw_skip ?_;try dsimp only)|(refine ow_nil ?_;try dsimp only)|(refine ol_go ?_ (fun K1 hK1=>?_);exact trS;refine evS ?_;refine hK1 _ _ ?_;clear hK1 K1)|(refine ol_skip rfl rfl ?_ ?_;(focus (intro hne;cases hne;done));simp only [St.set])|(refine ol_nil ⟨by kernel_rfl,?_⟩;try dsimp only)|(refine ow_go ?_ dsS (fun K1 hK1=>?_);exact trS;refine evS ?_;refine hK1 _ ?_;clear hK1 K1)|(refine ow_skip rfl rfl ?_ dsS ?_;(focus (intro hne;cases hne;done));simp only [St.set])))
 refine aw_anyT 6 (by kernel_rfl) (by kernel_rfl) (by kernel_rfl) (by kernel_rfl) (by simp only [hsz];kernel_rfl) ?_
 refine walkLS ?_
 refine ol_call1z (k:=0) ?_ rfl m1 (by simp [Rz.nk,Rz.nkL]) rfl rfl ⟨0,List.mem_cons_self⟩ ?_
 ·exact trivial
 simp only [St.got,Rz.addS,Rz.addSL,Rz.toA,Rz.toAL,Rz.nk,Rz.nkL,St.set,mkAgg_0,mkAgg_1,mkTup,allD,Option.map_some,Option.map_none,Nat.reduceAdd,Nat.add_zero,Nat.zero_add,List.length_map,ruL]
 refine ol_bsliceA (z:=8) ?_ rfl te24 tr62 rfl rfl (by decide) ?_
 ·exact trivial
 simp only [St.set]
 refine ol_nil ⟨by kernel_rfl,?_⟩
 (try dsimp only)
 obtain ⟨r1,hr1⟩:∃ r1,r1=(mkR c [] 1).1:=⟨_,rfl⟩
 simp only [←hr1]
 have hr01:k0=0→r0=r1:=fun hk00=>by
  have h1:=rulesC_get m (bel (mkR c [] 1).2 6).2 [(mkR c [] 1).1] 0 (mkR c [] 1).1 rfl
  rw [←hd,←hk00,hr0] at h1
  rw [hr1]
  exact Option.some.inj h1
 refine ow_appD0 (ds:=encRc r1) (kt:=160) (gkA k0 f0 g0 1 (rowF f0 r1)) ?_ dsS rfl te24 tr62 rfl rfl rfl rfl (vwR (by simp [lk,St.mem]) (by simp [lk,St.mem]) (by simp [lk,St.mem]) (by simp [lk,St.mem]) (by refine ⟨?_,?_,?_,?_⟩<;>(dsimp only;decide))) (fun p hp=>by
  by_cases h:k0<1
  ·rw [gkA_t h,List.mem_singleton] at hp
   subst hp
   obtain rfl:k0=0:=by omega
   (rcases hf with ⟨rfl,rfl,rfl,rfl,_⟩|⟨rfl,rfl,rfl,rfl,_⟩|⟨rfl,rfl,rfl,rfl,_⟩|⟨rfl,rfl,rfl,rfl,_⟩)<;>exact ⟨_,rfl⟩
  ·rw [gkA_f h] at hp
   cases hp) ?_
 ·exact trivial
 simp only [St.set]
 (iterate 1 (first|refine aw_seq ?_|refine aw_region ?_|refine aw_block ?_|(refine aw_exit ?_;(try simp (decide:=true) only [reduceIte]))|(refine aw_skip ?_;try dsimp only)|(refine aw_any (by kernel_rfl) (by kernel_rfl) (by simp only [hsz];kernel_rfl) ?_)|(refine ow_nil ?_;try dsimp only)|(refine ol_go ?_ (fun K1 hK1=>?_);exact trS;refine evS ?_;refine hK1 _ _ ?_;clear hK1 K1)|(refine ol_skip rfl rfl ?_ ?_;(focus (intro hne;cases hne;done));simp only [St.set])|(refine ol_nil ⟨by kernel_rfl,?_⟩;try dsimp only)|(refine ow_go ?_ dsS (fun K1 hK1=>?_);exact trS;refine evS ?_;refine hK1 _ ?_;clear hK1 K1)|(refine ow_skip rfl rfl ?_ dsS ?_;(focus (intro hne;cases hne;done));simp only [St.set])))
 refine ow_store1 ?_ rfl rfl rfl (cells1_dec _ _ _ _ _) rfl tk24 (by decide) ?_
 ·exact trivial
 simp only [splice,List.take_zero,List.nil_append,List.length_singleton,List.drop_succ_cons,List.drop_nil,List.append_nil,Nat.zero_add]
 (repeat (first|refine ctlS ?_|(refine ol_go ?_ (fun K1 hK1=>?_);exact trS;refine evS ?_;(try simp only [hm1]);refine hK1 _ _ ?_;clear hK1 K1)|(refine ow_go ?_ dsS (fun K1 hK1=>?_);exact trS;refine evS ?_;(try simp only [hm1]);refine hK1 _ ?_;clear hK1 K1)|refine skipS ?_|refine vS 0 (b6) ?_))
 refine aw_loopN 48 (fun x:Nat × Cur × List RuleD=>{ fr:=[(4,.d (iD (x.1:Nat))),(3,.ptr 64 0),(2,.ptr 48 0),(0,.ptr 0 0)],bx:=[(0,some ((curP q x.2.1).map .d)),(64,some [.dec 1000 62 8 (x.2.2.map encRc) (gkA k0 f0 1001 x.2.2.length (rowF f0 r0))]),(48,some [.d (.v (.slice none 0 0))]),(32,some [.d (.v (.slice none 0 0))])],al:=[(1000,some (x.2.2.length,62,8)),(1001,gkM k0 x.2.2.length e0 (rowF f0 r0))],nx:=1008 })
  (fun x=>(x.2.2.length+x.1≤6∧DInv x.2.2∧x.2.1.b.length≤1048576)∧rulesC x.1 x.2.1 x.2.2=rulesC m (bel (mkR c [] 1).2 6).2 [(mkR c [] 1).1]) (fun x=>x.1) (m,(bel (mkR c [] 1).2 6).2,[(mkR c [] 1).1]) hks2 (fun _=>by show 48≤1008;decide) ⟨⟨by simp only [List.length_singleton];omega,DInv.one c,hb2⟩,rfl⟩ ⟨[(1000,some 176),(1001,some g0)],fun k hk=>by rw [sg,if_neg (by omega),sg,if_neg (by omega)];rfl,?_⟩ ?_
 ·rw [←hr1]
  dsimp only
  by_cases h:k0<1
  ·have hk00:k0=0:=by omega
   rw [hr01 hk00,hk00]
   rw [gkA_t (show 0<[r1].length by simp),gkM_t (show 0<[r1].length by simp),gkA_t (show 0<1 by decide)]
   (rcases hf with ⟨rfl,rfl,rfl,rfl,_⟩|⟨rfl,rfl,rfl,rfl,_⟩|⟨rfl,rfl,rfl,rfl,_⟩|⟨rfl,rfl,rfl,rfl,_⟩)<;>refine ⟨?_,?_,?_,?_⟩<;>simp (decide:=true) only [St.head,wkFr,wkBx,wkB,wkBc,wkAl,wkAlv,wkA,wkO,wkL,wkD_selfT,wkL_d,ltL_dT,sg,keyOf,keyB,keyBc,List.getD_cons_zero,List.getD_cons_succ,encVs_len,lk,St.f,rmv,keysOk,liveKeys,A.lt,A.ltL,List.map_cons,List.map_nil,List.cons_append,List.nil_append,and_true,true_and,and_self,reduceIte,reduceCtorEq,Option.some.injEq,List.length_cons,List.length_nil,List.length_append,Nat.reduceAdd,exists_eq_left',exists_eq_left,natCast0,natCast1,Int.add_sub_cancel,List.flatten_replicate_singleton,List.take_zero,Nat.sub_zero,List.map_replicate,Nat.zero_add,List.append_nil,List.all_nil,List.all_cons,List.map_append,List.length_map,wkL_arrC,arrC_lt,wkD_ownB,wkD_ownB0,wkD_ownV0,wkD_nilB,wkD_ownV,wkD_nilV,wkD_agg,wkD_tup,wkDL_nil,wkDL_cons,encVs_append,encVs_one,encVs_nil,encV_mk,V0,dle_agg,dle_tup,dleL_nil,dleL_cons,dle_nil,dle_nilB,wkD_tupd,wkD_aggd,dle_selfT,A.dec.injEq,rowF,List.length_map,List.mem_singleton,forall_eq,exists_eq_left',exists_and_left]
  ·rw [gkA_f (show ¬k0<[r1].length by simpa using h),gkM_f (show ¬k0<[r1].length by simpa using h),gkA_f h]
   (rcases hf with ⟨rfl,rfl,rfl,rfl,_⟩|⟨rfl,rfl,rfl,rfl,_⟩|⟨rfl,rfl,rfl,rfl,_⟩|⟨rfl,rfl,rfl,rfl,_⟩)<;>refine ⟨?_,?_,?_,?_⟩<;>simp (decide:=true) only [St.head,wkFr,wkBx,wkB,wkBc,wkAl,wkAlv,wkA,wkO,wkL,wkD_selfT,wkL_d,ltL_dT,sg,keyOf,keyB,keyBc,List.getD_cons_zero,List.getD_cons_succ,encVs_len,lk,St.f,rmv,keysOk,liveKeys,A.lt,A.ltL,List.map_cons,List.map_nil,List.cons_append,List.nil_append,and_true,true_and,and_self,reduceIte,reduceCtorEq,Option.some.injEq,List.length_cons,List.length_nil,List.length_append,Nat.reduceAdd,exists_eq_left',exists_eq_left,natCast0,natCast1,Int.add_sub_cancel,List.flatten_replicate_singleton,List.take_zero,Nat.sub_zero,List.map_replicate,Nat.zero_add,List.append_nil,List.all_nil,List.all_cons,List.map_append,List.length_map,wkL_arrC,arrC_lt,wkD_ownB,wkD_ownB0,wkD_ownV0,wkD_nilB,wkD_ownV,wkD_nilV,wkD_agg,wkD_tup,wkDL_nil,wkDL_cons,encVs_append,encVs_one,encVs_nil,encV_mk,V0,dle_agg,dle_tup,dleL_nil,dleL_cons,dle_nil,dle_nilB,wkD_tupd,wkD_aggd,dle_selfT,A.dec.injEq,rowF,List.length_map,List.not_mem_nil,false_implies,implies_true,exists_eq_left',exists_and_left]
 rintro ⟨i,c',D'⟩ ⟨⟨hx1,hx2,hx3⟩,hx4⟩
 simp only at hx1 hx2 hx3 hx4 ⊢
 have hdb:=DInv.db hx2 (by omega)
 have hl0:=hx2.len
 (repeat (first|refine aw_seq ?_|refine aw_region ?_|refine aw_block ?_|(refine aw_exit ?_;(try simp (decide:=true) only [reduceIte]))|(refine aw_skip ?_;try dsimp only)|(refine ow_nil ?_;try dsimp only)|(refine ol_go ?_ (fun K1 hK1=>?_);exact trS;refine evS ?_;refine hK1 _ _ ?_;clear hK1 K1)|(refine ol_skip rfl rfl ?_ ?_;(focus (intro hne;cases hne;done));simp only [St.set])|(refine ol_nil ⟨by kernel_rfl,?_⟩;try dsimp only)|(refine ow_go ?_ dsS (fun K1 hK1=>?_);exact trS;refine evS ?_;refine hK1 _ ?_;clear hK1 K1)|(refine ow_skip rfl rfl ?_ dsS ?_;(focus (intro hne;cases hne;done));simp only [St.set])))
 refine aw_condS rfl (fun hc=>?_) (fun hc=>?_)
 ·obtain ⟨i,rfl⟩:∃ j,i=j+1:=⟨i - 1,by omega⟩
  have q1:=bel_c (p:=q) c' hx3 10
  have q2:=bel_in c' (n:=10) (by omega)
  have hxb:(bel c' 10).2.b.length≤1048576:=by rw [bel_b];exact hx3
  have q3:=mkR_o (p:=q) (c:=(bel c' 10).2) hdb (by omega) hxb (1+(bel c' 10).1) (fun _=>⟨intIx_ne hx2.fst _ hx2.len,hx2.len⟩)
  have e1:IntKind.i64.wrap (((i+1:Nat):Int) - 1)=(i:Int):=by rw [wrap_small (by omega) (by omega)];omega
  have e2:IntKind.i64.wrap (1+(bel c' 10).1)=1+(bel c' 10).1:=wrap_small (by omega) (by omega)
  (repeat (first|refine aw_seq ?_|refine aw_region ?_|refine aw_block ?_|(refine aw_exit ?_;(try simp (decide:=true) only [reduceIte]))|(refine aw_skip ?_;try dsimp only)|(refine ow_nil ?_;try dsimp only)|(refine ol_go ?_ (fun K1 hK1=>?_);exact trS;refine evS ?_;refine hK1 _ _ ?_;clear hK1 K1)|(refine ol_skip rfl rfl ?_ ?_;(focus (intro hne;cases hne;done));simp only [St.set])|(refine ol_nil ⟨by kernel_rfl,?_⟩;try dsimp only)|(refine ow_go ?_ dsS (fun K1 hK1=>?_);exact trS;refine evS ?_;refine hK1 _ ?_;clear hK1 K1)|(refine ow_skip rfl rfl ?_ dsS ?_;(focus (intro hne;cases hne;done));simp only [St.set])))
  refine aw_anyT 9 (by kernel_rfl) (by kernel_rfl) (by kernel_rfl) (by kernel_rfl) (by simp only [hsz];kernel_rfl) ?_
  refine walkLS ?_
  (first|refine vS 0 (q1) ?_)
  (iterate 1 (first|refine aw_seq ?_|refine aw_region ?_|refine aw_block ?_|(refine aw_exit ?_;(try simp (decide:=true) only [reduceIte]))|(refine aw_skip ?_;try dsimp only)|(refine aw_any (by kernel_rfl) (by kernel_rfl) (by simp only [hsz];kernel_rfl) ?_)|(refine ow_nil ?_;try dsimp only)|(refine ol_go ?_ (fun K1 hK1=>?_);exact trS;refine evS ?_;refine hK1 _ _ ?_;clear hK1 K1)|(refine ol_skip rfl rfl ?_ ?_;(focus (intro hne;cases hne;done));simp only [St.set])|(refine ol_nil ⟨by kernel_rfl,?_⟩;try dsimp only)|(refine ow_go ?_ dsS (fun K1 hK1=>?_);exact trS;refine evS ?_;refine hK1 _ ?_;clear hK1 K1)|(refine ow_skip rfl rfl ?_ dsS ?_;(focus (intro hne;cases hne;done));simp only [St.set])))
  (try simp only [e2])
  refine ol_call1z (k:=0) ?_ rfl q3 (by simp [Rz.nk,Rz.nkL]) rfl rfl ⟨0,List.mem_cons_self⟩ ?_
  ·exact trivial
  simp only [St.got,Rz.addS,Rz.addSL,Rz.toA,Rz.toAL,Rz.nk,Rz.nkL,St.set,mkAgg_0,mkAgg_1,mkTup,allD,Option.map_some,Option.map_none,Nat.reduceAdd,Nat.add_zero,Nat.zero_add,List.length_map,ruL]
  refine ol_bsliceA (z:=8) ?_ rfl te24 tr62 rfl rfl (by decide) ?_
  ·exact trivial
  simp only [St.set]
  refine ol_nil ⟨by kernel_rfl,?_⟩
  (try dsimp only)
  obtain ⟨r2,hr2⟩:∃ r2,r2=(mkR (bel c' 10).2 D' (1+(bel c' 10).1)).1:=⟨_,rfl⟩
  simp only [←hr2]
  have hn9:D'.length+1≤9:=by omega
  have hr2k:k0=D'.length→r0=r2:=fun h=>by
   have h1:=rulesC_get i (mkR (bel c' 10).2 D' (1+(bel c' 10).1)).2 (D'++[(mkR (bel c' 10).2 D' (1+(bel c' 10).1)).1]) k0 r2 (by rw [h,List.getElem?_append_right (Nat.le_refl _),Nat.sub_self,hr2];rfl)
   rw [rulesC] at hx4
   rw [hx4,←hd,hr0] at h1
   exact Option.some.inj h1
  refine ow_appD (k:=1000) (ds:=encRc r2) (kt:=1136) (if k0=D'.length then [(f0,g1,rowF f0 r2)] else []) ?_ dsS rfl te24 tr62 rfl ?_ rfl rfl rfl (vwR (by simp [lk,St.mem]) (by simp [lk,St.mem]) (by simp [lk,St.mem]) (by simp [lk,St.mem]) (by decide)) (fun p hp=>by
   by_cases h:k0=D'.length
   ·rw [if_pos h,List.mem_singleton] at hp
    subst hp
    (rcases hf with ⟨rfl,rfl,rfl,rfl,_⟩|⟨rfl,rfl,rfl,rfl,_⟩|⟨rfl,rfl,rfl,rfl,_⟩|⟨rfl,rfl,rfl,rfl,_⟩)<;>exact ⟨_,rfl⟩
   ·rw [if_neg h] at hp
    cases hp) (by rw [List.length_map];omega) ?_
  ·exact trivial
  ·simp [lk]
  simp only [St.set,List.length_map]
  (iterate 1 (first|refine aw_seq ?_|refine aw_region ?_|refine aw_block ?_|(refine aw_exit ?_;(try simp (decide:=true) only [reduceIte]))|(refine aw_skip ?_;try dsimp only)|(refine aw_any (by kernel_rfl) (by kernel_rfl) (by simp only [hsz];kernel_rfl) ?_)|(refine ow_nil ?_;try dsimp only)|(refine ol_go ?_ (fun K1 hK1=>?_);exact trS;refine evS ?_;refine hK1 _ _ ?_;clear hK1 K1)|(refine ol_skip rfl rfl ?_ ?_;(focus (intro hne;cases hne;done));simp only [St.set])|(refine ol_nil ⟨by kernel_rfl,?_⟩;try dsimp only)|(refine ow_go ?_ dsS (fun K1 hK1=>?_);exact trS;refine evS ?_;refine hK1 _ ?_;clear hK1 K1)|(refine ow_skip rfl rfl ?_ dsS ?_;(focus (intro hne;cases hne;done));simp only [St.set])))
  refine ow_store1 ?_ rfl rfl rfl (cells1_dec _ _ _ _ _) rfl tk24 (by simp) ?_
  ·exact trivial
  simp only [splice,List.take_zero,List.nil_append,List.length_singleton,List.drop_succ_cons,List.drop_nil,List.append_nil,Nat.zero_add]
  (repeat (first|refine ctlS ?_|(refine ol_go ?_ (fun K1 hK1=>?_);exact trS;refine evS ?_;(try simp only [e1]);refine hK1 _ _ ?_;clear hK1 K1)|(refine ow_go ?_ dsS (fun K1 hK1=>?_);exact trS;refine evS ?_;(try simp only [e1]);refine hK1 _ ?_;clear hK1 K1)|refine skipS ?_))
  refine ⟨(i,(mkR (bel c' 10).2 D' (1+(bel c' 10).1)).2,D'++[r2]),[(1000,some 1152),(1001,if k0=D'.length then some g1 else some 1001)],⟨⟨by simp;omega,by rw [hr2];exact hx2.snoc (mkR_ok hx2 _ (by omega)),by simp only;rw [mkR_b];exact hxb⟩,by rw [←hx4,hr2];rfl⟩,by simp only;omega,fun k hk=>by rw [sg,if_neg (by omega),sg,if_neg (by omega)];rfl,?_⟩
  dsimp only
  have hll:(D'++[r2]).length=D'.length+1:=by simp
  rcases Nat.lt_trichotomy k0 D'.length with h|h|h
  ·rw [hll,gkA_t h,if_neg (Nat.ne_of_lt h),if_neg (Nat.ne_of_lt h),gkA_t (show k0<D'.length+1 by omega),gkM_t (show k0<D'.length+1 by omega),gkM_t h]
   (rcases hf with ⟨rfl,rfl,rfl,rfl,_⟩|⟨rfl,rfl,rfl,rfl,_⟩|⟨rfl,rfl,rfl,rfl,_⟩|⟨rfl,rfl,rfl,rfl,_⟩)<;>refine ⟨?_,?_,?_,?_⟩<;>simp (decide:=true) only [St.head,wkFr,wkBx,wkB,wkBc,wkAl,wkAlv,wkA,wkO,wkL,wkD_selfT,wkL_d,ltL_dT,sg,keyOf,keyB,keyBc,List.getD_cons_zero,List.getD_cons_succ,encVs_len,lk,St.f,rmv,keysOk,liveKeys,A.lt,A.ltL,List.map_cons,List.map_nil,List.cons_append,List.nil_append,and_true,true_and,and_self,reduceIte,reduceCtorEq,Option.some.injEq,List.length_cons,List.length_nil,List.length_append,Nat.reduceAdd,exists_eq_left',exists_eq_left,natCast0,natCast1,Int.add_sub_cancel,List.flatten_replicate_singleton,List.take_zero,Nat.sub_zero,List.map_replicate,Nat.zero_add,List.append_nil,List.all_nil,List.all_cons,List.map_append,List.length_map,wkL_arrC,arrC_lt,wkD_ownB,wkD_ownB0,wkD_ownV0,wkD_nilB,wkD_ownV,wkD_nilV,wkD_agg,wkD_tup,wkDL_nil,wkDL_cons,encVs_append,encVs_one,encVs_nil,encV_mk,V0,dle_agg,dle_tup,dleL_nil,dleL_cons,dle_nil,dle_nilB,wkD_tupd,wkD_aggd,dle_selfT,A.dec.injEq,rowF,List.length_map,List.mem_singleton,forall_eq,exists_eq_left',exists_and_left]
  ·subst h
   rw [hr2k rfl,hll,gkA_f (Nat.lt_irrefl _),if_pos rfl,if_pos rfl,gkA_t (show D'.length<D'.length+1 by omega),gkM_t (show D'.length<D'.length+1 by omega),gkM_f (Nat.lt_irrefl _),Nat.mul_comm D'.length 8]
   (rcases hf with ⟨rfl,rfl,rfl,rfl,_⟩|⟨rfl,rfl,rfl,rfl,_⟩|⟨rfl,rfl,rfl,rfl,_⟩|⟨rfl,rfl,rfl,rfl,_⟩)<;>refine ⟨?_,?_,?_,?_⟩<;>simp (decide:=true) only [St.head,wkFr,wkBx,wkB,wkBc,wkAl,wkAlv,wkA,wkO,wkL,wkD_selfT,wkL_d,ltL_dT,sg,keyOf,keyB,keyBc,List.getD_cons_zero,List.getD_cons_succ,encVs_len,lk,St.f,rmv,keysOk,liveKeys,A.lt,A.ltL,List.map_cons,List.map_nil,List.cons_append,List.nil_append,and_true,true_and,and_self,reduceIte,reduceCtorEq,Option.some.injEq,List.length_cons,List.length_nil,List.length_append,Nat.reduceAdd,exists_eq_left',exists_eq_left,natCast0,natCast1,Int.add_sub_cancel,List.flatten_replicate_singleton,List.take_zero,Nat.sub_zero,List.map_replicate,Nat.zero_add,List.append_nil,List.all_nil,List.all_cons,List.map_append,List.length_map,wkL_arrC,arrC_lt,wkD_ownB,wkD_ownB0,wkD_ownV0,wkD_nilB,wkD_ownV,wkD_nilV,wkD_agg,wkD_tup,wkDL_nil,wkDL_cons,encVs_append,encVs_one,encVs_nil,encV_mk,V0,dle_agg,dle_tup,dleL_nil,dleL_cons,dle_nil,dle_nilB,wkD_tupd,wkD_aggd,dle_selfT,A.dec.injEq,rowF,List.length_map,List.mem_singleton,forall_eq,exists_eq_left',exists_and_left]
  ·rw [hll,gkA_f (by omega),if_neg (by omega),if_neg (by omega),gkA_f (show ¬k0<D'.length+1 by omega),gkM_f (show ¬k0<D'.length+1 by omega),gkM_f (by omega)]
   (rcases hf with ⟨rfl,rfl,rfl,rfl,_⟩|⟨rfl,rfl,rfl,rfl,_⟩|⟨rfl,rfl,rfl,rfl,_⟩|⟨rfl,rfl,rfl,rfl,_⟩)<;>refine ⟨?_,?_,?_,?_⟩<;>simp (decide:=true) only [St.head,wkFr,wkBx,wkB,wkBc,wkAl,wkAlv,wkA,wkO,wkL,wkD_selfT,wkL_d,ltL_dT,sg,keyOf,keyB,keyBc,List.getD_cons_zero,List.getD_cons_succ,encVs_len,lk,St.f,rmv,keysOk,liveKeys,A.lt,A.ltL,List.map_cons,List.map_nil,List.cons_append,List.nil_append,and_true,true_and,and_self,reduceIte,reduceCtorEq,Option.some.injEq,List.length_cons,List.length_nil,List.length_append,Nat.reduceAdd,exists_eq_left',exists_eq_left,natCast0,natCast1,Int.add_sub_cancel,List.flatten_replicate_singleton,List.take_zero,Nat.sub_zero,List.map_replicate,Nat.zero_add,List.append_nil,List.all_nil,List.all_cons,List.map_append,List.length_map,wkL_arrC,arrC_lt,wkD_ownB,wkD_ownB0,wkD_ownV0,wkD_nilB,wkD_ownV,wkD_nilV,wkD_agg,wkD_tup,wkDL_nil,wkDL_cons,encVs_append,encVs_one,encVs_nil,encV_mk,V0,dle_agg,dle_tup,dleL_nil,dleL_cons,dle_nil,dle_nilB,wkD_tupd,wkD_aggd,dle_selfT,A.dec.injEq,rowF,List.length_map,List.not_mem_nil,false_implies,implies_true,exists_eq_left',exists_and_left]
 ·obtain rfl:i=0:=by omega
  (repeat (first|refine aw_seq ?_|refine aw_region ?_|refine aw_block ?_|(refine aw_exit ?_;(try simp (decide:=true) only [reduceIte]))|(refine aw_skip ?_;try dsimp only)|(refine ow_nil ?_;try dsimp only)|(refine ol_go ?_ (fun K1 hK1=>?_);exact trS;refine evS ?_;refine hK1 _ _ ?_;clear hK1 K1)|(refine ol_skip rfl rfl ?_ ?_;(focus (intro hne;cases hne;done));simp only [St.set])|(refine ol_nil ⟨by kernel_rfl,?_⟩;try dsimp only)|(refine ow_go ?_ dsS (fun K1 hK1=>?_);exact trS;refine evS ?_;refine hK1 _ ?_;clear hK1 K1)|(refine ow_skip rfl rfl ?_ dsS ?_;(focus (intro hne;cases hne;done));simp only [St.set])))
  have hDD:D'=(descC c).1∧c'=(descC c).2:=by
   rw [hd,←hx4]
   exact ⟨rfl,rfl⟩
  have hkl:k0<D'.length:=by rw [hDD.1];exact hlt
  rw [gkA_t hkl,gkM_t hkl]
  refine aw_ret ?_
  refine ⟨.inr rfl,?_⟩
  simp only [Tryz.results60]
  refine finS ?_
  have hsz:=hsz0
  simp only [resOf,St.set]
  (iterate 1 (first|refine aw_seq ?_|refine aw_region ?_|refine aw_block ?_|(refine aw_exit ?_;(try simp (decide:=true) only [reduceIte]))|(refine aw_skip ?_;try dsimp only)|(refine aw_any (by kernel_rfl) (by kernel_rfl) (by simp only [hsz];kernel_rfl) ?_)|(refine ow_nil ?_;try dsimp only)|(refine ol_go ?_ (fun K1 hK1=>?_);exact trS;refine evS ?_;refine hK1 _ _ ?_;clear hK1 K1)|(refine ol_skip rfl rfl ?_ ?_;(focus (intro hne;cases hne;done));simp only [St.set])|(refine ol_nil ⟨by kernel_rfl,?_⟩;try dsimp only)|(refine ow_go ?_ dsS (fun K1 hK1=>?_);exact trS;refine evS ?_;refine hK1 _ ?_;clear hK1 K1)|(refine ow_skip rfl rfl ?_ dsS ?_;(focus (intro hne;cases hne;done));simp only [St.set])))
  refine ow_store1 ?_ rfl rfl rfl (cells1_dec _ _ _ _ _) rfl tk26 (by simp) ?_
  ·exact trivial
  simp only [splice,List.take_zero,List.nil_append,List.length_singleton,List.drop_succ_cons,List.drop_nil,List.append_nil,Nat.zero_add]
  refine ow_nil ?_
  (try dsimp only)
  have hfx:(D'.map encRc).length=D'.length:=List.length_map _
  have hk1:(bel c' (D'.length:Nat)).1=((k0:Nat):Int):=by
   have:=bel_in (descC c).2 (n:=((descC c).1.length:Nat)) (by omega)
   rw [hDD.1,hDD.2,hk0]
   unfold anyK
   omega
  have hr0':D'[k0]?=some r0:=by rw [hDD.1];exact hr0
  have hrl:=rowF_len (f:=f0) (DInv.rb hx2 (by omega) hr0')
  obtain ⟨s2,hs2⟩:∃ s,s=anyW c:=⟨_,rfl⟩
  have hA:anyC c=chgC D' k0 r0 s2:=by
   unfold anyC
   rw [←hDD.1,←hk0,←hs2,ruleD_get hr0']
  have hbb:s2.2.b=c.b:=by rw [hs2];unfold anyW;rw [bel_b,bel_b,descC_b]
  rw [←hs2] at hf
  have hf0:4≤f0∧f0<8:=by omega
  rw [hA]
  have hb3:(bel c' (D'.length:Nat)).2.b.length≤1048576:=by rw [bel_b];exact hx3
  have r1':=bel_c (p:=q) c' hx3 (D'.length:Nat)
  rw [hk1] at r1'
  have r2':=bel_c (p:=q) (bel c' (D'.length:Nat)).2 hb3 16
  have hs2':bel (bel c' (D'.length:Nat)).2 16=s2:=by rw [hs2,hDD.1,hDD.2];rfl
  have hw:=bel_in (bel c' (D'.length:Nat)).2 (n:=16) (by decide)
  have hb4:s2.2.b.length≤1048576:=by rw [←hs2',bel_b];exact hb3
  rw [hs2'] at r2' hw
  refine aw_thaw (κd:=1008) (κ:=1000) (z:=8) (i:=8*k0+f0) (k':=1001) (e:=62) (e':=e0) (es:=D'.map encRc) (es':=rowF f0 r0) [0,3,2] [(0,some ((curP q c').map .d)),(32,some [.d (.v (.slice none 0 0))])] ⟨hcok,hX,hks0,rfl⟩ (by decide) rfl (by rw [hfx];rfl) rfl (by decide) (rowF_flat _ _) (by rw [hfx];omega) ⟨Safe.ptr,Safe.ptr,Safe.ptr,trivial⟩ ⟨⟨_,rfl,rfl,Safe.iv (fun b h1 h2=>by have:=hq b h1;omega),Safe.v,Safe.v,trivial⟩,⟨_,rfl,rfl,Safe.v,trivial⟩,trivial⟩ hks (fun tl=>?_)
  rw [show ((D'.map encRc).flatten.map A.d).set (8*k0+f0) (.own 1001 e0 1 (rowF f0 r0))++(tl.map fun x=>A.d (.v x))=csA D' (8*k0+f0) 1001 e0 (rowF f0 r0) (tl.map fun x=>A.d (.v x)) from rfl]
  obtain ⟨cs,hcs⟩:∃ cs,cs=csA D' (8*k0+f0) 1001 e0 (rowF f0 r0) (tl.map fun x=>A.d (.v x)):=⟨_,rfl⟩
  rw [←hcs]
  simp only [hfx,List.map_cons,List.map_nil,St.f,lk,curP]
  have hlc:8*k0+8≤cs.length:=by have:=csA_len D' (8*k0+f0) 1001 e0 (rowF f0 r0) (tl.map fun x=>A.d (.v x));rw [hcs];omega
  have hg3:cs[k0*8+3]?=some (.d (bD r0.little)):=by rw [show k0*8+3=8*k0+3 by omega,hcs];exact csA_get (f:=3) hr0' (by decide) rfl (by omega)
  have hg7:cs[k0*8+f0]?=some (.own 1001 e0 1 (rowF f0 r0)):=by rw [show k0*8+f0=8*k0+f0 by omega,hcs];exact csA_own (f:=f0) hkl (by omega)
  have hg0:cs[0]?=some (.d (sD (ruleD D' 0).name)):=by
   have h1:D'[0]?=some (ruleD D' (0:Nat)):=by
    have h1:=List.getElem?_eq_getElem (l:=D') (i:=0) (by omega)
    rw [ruleD_get h1]
    exact h1
   rw [hcs];exact csA_get (k:=0) (f:=0) h1 (by decide) rfl (by omega)
  have hp0:∀ {K:A→Prop},partA (some (false,1)) cs K=K (.d (sD (ruleD D' 0).name)):=fun {K}=>by
   have:=partA_at (n:=1) (K:=K) hg0
   rwa [List.drop_zero] at this
  (repeat (first|refine walkS ?_|refine vS 0 (r1') ?_|refine vS 0 (r2') ?_))
  refine aw_condS rfl (fun h0=>?_) (fun h0=>?_)
  ·have i1:=pickT_c (p:=q) s2.2 hb4 (l:=anyN (ruleD D' 0).name) (by simp) (by simp)
   (repeat (first|refine ctlS ?_|(refine ol_go ?_ (fun K1 hK1=>?_);exact trS;refine evS ?_;(try simp only [hp0]);refine hK1 _ _ ?_;clear hK1 K1)|(refine ow_go ?_ dsS (fun K1 hK1=>?_);exact trS;refine evS ?_;(try simp only [hp0]);refine hK1 _ ?_;clear hK1 K1)|refine skipS ?_|refine vS 0 (i1) ?_))
   obtain ⟨r',hr'⟩:∃ r':RuleD,r'={ r0 with name:=(pickT s2.2 (anyN (ruleD D' 0).name)).1 }:=⟨_,rfl⟩
   refine aw_boxD (k:=1000) (cs':=(((D'.set k0 r').map encRc).flatten).map A.d++(tl.map fun x=>A.d (.v x))) rfl (csF_dv (f:=0) (f0:=f0) hcs (by omega) hr0' (by decide) (by omega) (by omega) (by rw [hr'];rfl) (by rw [hr'];(rcases hf with ⟨rfl,rfl,rfl,rfl,_⟩|⟨rfl,rfl,rfl,rfl,_⟩|⟨rfl,rfl,rfl,rfl,_⟩|⟨rfl,rfl,rfl,rfl,_⟩)<;>rfl)) ?_
   refine aw_freezeX 32 1000 8 D'.length ((D'.set k0 r').map encRc) (tl.map fun x=>A.d (.v x)) rfl (by decide) rfl (by simp) (mapRc8 _) hks (by decide) ?_
   (refine rtS Tryz.results45 ?_;exact ⟨_,[],.inl ⟨rfl,rfl⟩,_,(curP q (pickT s2.2 (anyN (ruleD D' 0).name)).2:List Eng.D).map .d,[],rfl,toZL_d _ (curP q (pickT s2.2 (anyN (ruleD D' 0).name)).2),by simp,⟨by rw [chg_0 h0,hr'];rfl,cur_end (by rw [chg_0 h0]) (by rw [pickT_b];exact hbb)⟩⟩)
  refine walkS ?_
  refine aw_condS rfl (fun h1=>?_) (fun h1=>?_)
  ·have i1:=bel_c (p:=q) s2.2 hb4 13
   have g1:=bel_in s2.2 (n:=13) (by decide)
   have e1:IntKind.i64.wrap ((bel s2.2 13).1 - 1)=(bel s2.2 13).1 - 1:=wrap_small (by omega) (by omega)
   (repeat (first|refine ctlS ?_|(refine ol_go ?_ (fun K1 hK1=>?_);exact trS;refine evS ?_;(try simp only [e1]);refine hK1 _ _ ?_;clear hK1 K1)|(refine ow_go ?_ dsS (fun K1 hK1=>?_);exact trS;refine evS ?_;(try simp only [e1]);refine hK1 _ ?_;clear hK1 K1)|refine skipS ?_|refine vS 0 (i1) ?_))
   obtain ⟨r',hr'⟩:∃ r':RuleD,r'={ r0 with kind:=(bel s2.2 13).1 - 1 }:=⟨_,rfl⟩
   refine aw_boxD (k:=1000) (cs':=(((D'.set k0 r').map encRc).flatten).map A.d++(tl.map fun x=>A.d (.v x))) rfl (csF_dv (f:=1) (f0:=f0) hcs (by omega) hr0' (by decide) (by omega) (by omega) (by rw [hr'];rfl) (by rw [hr'];(rcases hf with ⟨rfl,rfl,rfl,rfl,_⟩|⟨rfl,rfl,rfl,rfl,_⟩|⟨rfl,rfl,rfl,rfl,_⟩|⟨rfl,rfl,rfl,rfl,_⟩)<;>rfl)) ?_
   refine aw_freezeX 32 1000 8 D'.length ((D'.set k0 r').map encRc) (tl.map fun x=>A.d (.v x)) rfl (by decide) rfl (by simp) (mapRc8 _) hks (by decide) ?_
   (refine rtS Tryz.results45 ?_;exact ⟨_,[],.inl ⟨rfl,rfl⟩,_,(curP q (bel s2.2 13).2:List Eng.D).map .d,[],rfl,toZL_d _ (curP q (bel s2.2 13).2),by simp,⟨by rw [chg_1 h1,hr'];rfl,cur_end (by rw [chg_1 h1]) (by rw [bel_b];exact hbb)⟩⟩)
  refine walkS ?_
  refine aw_condS rfl (fun h2=>?_) (fun h2=>?_)
  ·have i1:=pickI_c (p:=q) s2.2 hb4 (l:=anyZ) (by simp) (by simp)
   (repeat (first|refine walkS ?_|refine vS 0 (i1) ?_))
   obtain ⟨r',hr'⟩:∃ r':RuleD,r'={ r0 with size:=(pickI s2.2 anyZ).1 }:=⟨_,rfl⟩
   refine aw_boxD (k:=1000) (cs':=(((D'.set k0 r').map encRc).flatten).map A.d++(tl.map fun x=>A.d (.v x))) rfl (csF_dv (f:=2) (f0:=f0) hcs (by omega) hr0' (by decide) (by omega) (by omega) (by rw [hr'];rfl) (by rw [hr'];(rcases hf with ⟨rfl,rfl,rfl,rfl,_⟩|⟨rfl,rfl,rfl,rfl,_⟩|⟨rfl,rfl,rfl,rfl,_⟩|⟨rfl,rfl,rfl,rfl,_⟩)<;>rfl)) ?_
   refine aw_freezeX 32 1000 8 D'.length ((D'.set k0 r').map encRc) (tl.map fun x=>A.d (.v x)) rfl (by decide) rfl (by simp) (mapRc8 _) hks (by decide) ?_
   (refine rtS Tryz.results45 ?_;exact ⟨_,[],.inl ⟨rfl,rfl⟩,_,(curP q (pickI s2.2 anyZ).2:List Eng.D).map .d,[],rfl,toZL_d _ (curP q (pickI s2.2 anyZ).2),by simp,⟨by rw [chg_2 h2,hr'];rfl,cur_end (by rw [chg_2 h2]) (by rw [pickI_b];exact hbb)⟩⟩)
  refine walkS ?_
  refine aw_condS rfl (fun h3=>?_) (fun h3=>?_)
  ·(repeat (first|refine ctlS ?_|(refine ol_go ?_ (fun K1 hK1=>?_);exact trS;refine evS ?_;(try simp only [partA_at hg3]);refine hK1 _ _ ?_;clear hK1 K1)|(refine ow_go ?_ dsS (fun K1 hK1=>?_);exact trS;refine evS ?_;(try simp only [partA_at hg3]);refine hK1 _ ?_;clear hK1 K1)|refine skipS ?_))
   obtain ⟨r',hr'⟩:∃ r':RuleD,r'={ r0 with little:=!r0.little }:=⟨_,rfl⟩
   refine aw_boxD (k:=1000) (cs':=(((D'.set k0 r').map encRc).flatten).map A.d++(tl.map fun x=>A.d (.v x))) rfl (csF_dv (f:=3) (f0:=f0) hcs (by omega) hr0' (by decide) (by omega) (by omega) (by rw [hr'];rfl) (by rw [hr'];(rcases hf with ⟨rfl,rfl,rfl,rfl,_⟩|⟨rfl,rfl,rfl,rfl,_⟩|⟨rfl,rfl,rfl,rfl,_⟩|⟨rfl,rfl,rfl,rfl,_⟩)<;>rfl)) ?_
   refine aw_freezeX 32 1000 8 D'.length ((D'.set k0 r').map encRc) (tl.map fun x=>A.d (.v x)) rfl (by decide) rfl (by simp) (mapRc8 _) hks (by decide) ?_
   (refine rtS Tryz.results45 ?_;exact ⟨_,[],.inl ⟨rfl,rfl⟩,_,(curP q s2.2:List Eng.D).map .d,[],rfl,toZL_d _ (curP q s2.2),by simp,⟨by rw [chg_3 h3,hr'];rfl,cur_end (by rw [chg_3 h3]) (by exact hbb)⟩⟩)
  refine walkS ?_
  refine aw_condS rfl (fun h4=>?_) (fun h4=>?_)
  ·obtain ⟨hf1,hf2⟩:f0=7∧e0=3:=by
    rcases hf with ⟨h1,h2,_,_,h3⟩|⟨h1,h2,_,_,h3⟩|⟨h1,h2,_,_,h3⟩|⟨h1,h2,_,_,h3⟩
    all_goals first|exact ⟨h1,h2⟩|omega
   subst hf1
   subst hf2
   have i1:=bel_c (p:=q) s2.2 hb4 8
   have g1:=bel_in s2.2 (n:=8) (by decide)
   have e1:IntKind.i64.wrap ((bel s2.2 8).1 - 1)=(bel s2.2 8).1 - 1:=wrap_small (by omega) (by omega)
   (repeat (first|refine ctlS ?_|(refine ol_go ?_ (fun K1 hK1=>?_);exact trS;refine evS ?_;(try simp only [e1,partA_at hg7]);refine hK1 _ _ ?_;clear hK1 K1)|(refine ow_go ?_ dsS (fun K1 hK1=>?_);exact trS;refine evS ?_;(try simp only [e1,partA_at hg7]);refine hK1 _ ?_;clear hK1 K1)|refine skipS ?_|refine vS 0 (i1) ?_))
   obtain ⟨r',hr'⟩:∃ r':RuleD,r'={ r0 with kids:=r0.kids++[(bel s2.2 8).1 - 1] }:=⟨_,rfl⟩
   refine aw_boxD (k:=1000) (cs':=(((D'.set k0 r').map encRc).flatten).map A.d++(tl.map fun x=>A.d (.v x))) rfl (csR_dv (f0:=7) hcs (by omega) hr0' (by decide) (by rw [hr'];exact enc_7 r0 _) (by rw [hr'];exact encg_7 r0 _)) ?_
   refine aw_freezeX 32 1000 8 D'.length ((D'.set k0 r').map encRc) (tl.map fun x=>A.d (.v x)) rfl (by decide) rfl (by simp) (mapRc8 _) hks (by decide) ?_
   (refine rtS Tryz.results45 ?_;exact ⟨_,[],.inl ⟨rfl,rfl⟩,_,(curP q (bel s2.2 8).2:List Eng.D).map .d,[],rfl,toZL_d _ (curP q (bel s2.2 8).2),by simp,⟨by rw [chg_4 h4,hr'];rfl,cur_end (by rw [chg_4 h4]) (by rw [bel_b];exact hbb)⟩⟩)
  refine walkS ?_
  refine aw_condS rfl (fun h5=>?_) (fun h5=>?_)
  ·obtain ⟨hf1,hf2⟩:f0=4∧e0=5:=by
    rcases hf with ⟨h1,h2,_,_,h3⟩|⟨h1,h2,_,_,h3⟩|⟨h1,h2,_,_,h3⟩|⟨h1,h2,_,_,h3⟩
    all_goals first|exact ⟨h1,h2⟩|omega
   subst hf1
   subst hf2
   have i1:=pickI_c (p:=q) s2.2 hb4 (l:=anyB) (by simp) (by simp)
   have e1:IntKind.u8.wrap (pickI s2.2 anyB).1=((UInt8.ofNat (pickI s2.2 anyB).1.toNat).toNat:Int):=by
    have h:=pickI_mem s2.2 (l:=anyB) (by simp)
    simp only [List.mem_cons,List.not_mem_nil,or_false] at h
    rcases h with h|h<;>rw [h]<;>decide
   (repeat (first|refine ctlS ?_|(refine ol_go ?_ (fun K1 hK1=>?_);exact trS;refine evS ?_;(try simp only [e1,partA_at hg7]);refine hK1 _ _ ?_;clear hK1 K1)|(refine ow_go ?_ dsS (fun K1 hK1=>?_);exact trS;refine evS ?_;(try simp only [e1,partA_at hg7]);refine hK1 _ ?_;clear hK1 K1)|refine skipS ?_|refine vS 0 (i1) ?_))
   obtain ⟨r',hr'⟩:∃ r':RuleD,r'={ r0 with bytes:=r0.bytes++[UInt8.ofNat (pickI s2.2 anyB).1.toNat] }:=⟨_,rfl⟩
   refine aw_boxD (k:=1000) (cs':=(((D'.set k0 r').map encRc).flatten).map A.d++(tl.map fun x=>A.d (.v x))) rfl (csR_dv (f0:=4) hcs (by omega) hr0' (by decide) (by rw [hr'];exact enc_4 r0 _) (by rw [hr'];exact encg_4 r0 _)) ?_
   refine aw_freezeX 32 1000 8 D'.length ((D'.set k0 r').map encRc) (tl.map fun x=>A.d (.v x)) rfl (by decide) rfl (by simp) (mapRc8 _) hks (by decide) ?_
   (refine rtS Tryz.results45 ?_;exact ⟨_,[],.inl ⟨rfl,rfl⟩,_,(curP q (pickI s2.2 anyB).2:List Eng.D).map .d,[],rfl,toZL_d _ (curP q (pickI s2.2 anyB).2),by simp,⟨by rw [chg_5 h5,hr'];rfl,cur_end (by rw [chg_5 h5]) (by rw [pickI_b];exact hbb)⟩⟩)
  refine walkS ?_
  refine aw_condS rfl (fun h6=>?_) (fun h6=>?_)
  ·obtain ⟨hf1,hf2⟩:f0=5∧e0=9:=by
    rcases hf with ⟨h1,h2,_,_,h3⟩|⟨h1,h2,_,_,h3⟩|⟨h1,h2,_,_,h3⟩|⟨h1,h2,_,_,h3⟩
    all_goals first|exact ⟨h1,h2⟩|omega
   subst hf1
   subst hf2
   have i1:=pickT_c (p:=q) s2.2 hb4 (l:=anyS) (by simp) (by simp)
   (repeat (first|refine ctlS ?_|(refine ol_go ?_ (fun K1 hK1=>?_);exact trS;refine evS ?_;(try simp only [partA_at hg7]);refine hK1 _ _ ?_;clear hK1 K1)|(refine ow_go ?_ dsS (fun K1 hK1=>?_);exact trS;refine evS ?_;(try simp only [partA_at hg7]);refine hK1 _ ?_;clear hK1 K1)|refine skipS ?_|refine vS 0 (i1) ?_))
   obtain ⟨r',hr'⟩:∃ r':RuleD,r'={ r0 with names:=r0.names++[(pickT s2.2 anyS).1] }:=⟨_,rfl⟩
   refine aw_boxD (k:=1000) (cs':=(((D'.set k0 r').map encRc).flatten).map A.d++(tl.map fun x=>A.d (.v x))) rfl (csR_dv (f0:=5) hcs (by omega) hr0' (by decide) (by rw [hr'];exact enc_5 r0 _) (by rw [hr'];exact encg_5 r0 _)) ?_
   refine aw_freezeX 32 1000 8 D'.length ((D'.set k0 r').map encRc) (tl.map fun x=>A.d (.v x)) rfl (by decide) rfl (by simp) (mapRc8 _) hks (by decide) ?_
   (refine rtS Tryz.results45 ?_;exact ⟨_,[],.inl ⟨rfl,rfl⟩,_,(curP q (pickT s2.2 anyS).2:List Eng.D).map .d,[],rfl,toZL_d _ (curP q (pickT s2.2 anyS).2),by simp,⟨by rw [chg_6 h6,hr'];rfl,cur_end (by rw [chg_6 h6]) (by rw [pickT_b];exact hbb)⟩⟩)
  refine walkS ?_
  refine aw_condS rfl (fun h7=>?_) (fun h7=>?_)
  ·obtain ⟨hf1,hf2⟩:f0=6∧e0=3:=by
    rcases hf with ⟨h1,h2,_,_,h3⟩|⟨h1,h2,_,_,h3⟩|⟨h1,h2,_,_,h3⟩|⟨h1,h2,_,_,h3⟩
    all_goals first|exact ⟨h1,h2⟩|omega
   subst hf1
   subst hf2
   have i1:=pickI_c (p:=q) s2.2 hb4 (l:=anyT) (by simp) (by simp)
   (repeat (first|refine ctlS ?_|(refine ol_go ?_ (fun K1 hK1=>?_);exact trS;refine evS ?_;(try simp only [partA_at hg7]);refine hK1 _ _ ?_;clear hK1 K1)|(refine ow_go ?_ dsS (fun K1 hK1=>?_);exact trS;refine evS ?_;(try simp only [partA_at hg7]);refine hK1 _ ?_;clear hK1 K1)|refine skipS ?_|refine vS 0 (i1) ?_))
   obtain ⟨r',hr'⟩:∃ r':RuleD,r'={ r0 with tags:=r0.tags++[(pickI s2.2 anyT).1] }:=⟨_,rfl⟩
   refine aw_boxD (k:=1000) (cs':=(((D'.set k0 r').map encRc).flatten).map A.d++(tl.map fun x=>A.d (.v x))) rfl (csR_dv (f0:=6) hcs (by omega) hr0' (by decide) (by rw [hr'];exact enc_6 r0 _) (by rw [hr'];exact encg_6 r0 _)) ?_
   refine aw_freezeX 32 1000 8 D'.length ((D'.set k0 r').map encRc) (tl.map fun x=>A.d (.v x)) rfl (by decide) rfl (by simp) (mapRc8 _) hks (by decide) ?_
   (refine rtS Tryz.results45 ?_;exact ⟨_,[],.inl ⟨rfl,rfl⟩,_,(curP q (pickI s2.2 anyT).2:List Eng.D).map .d,[],rfl,toZL_d _ (curP q (pickI s2.2 anyT).2),by simp,⟨by rw [chg_7 h7,hr'];rfl,cur_end (by rw [chg_7 h7]) (by rw [pickI_b];exact hbb)⟩⟩)
  refine walkS ?_
  refine aw_condS rfl (fun h8=>?_) (fun h8=>?_)
  ·refine walkS ?_
   refine aw_ret ?_
   (simp only [Fin,Tryz.results45];refine finS ?_)
   refine ⟨_,[],.inr (.inl ⟨encD [],rfl,rfl,?_⟩),_,(curP q s2.2:List Eng.D).map .d,[],rfl,toZL_d _ (curP q s2.2),by simp,⟨by rw [chg_8 h8],cur_end (by rw [chg_8 h8]) hbb⟩⟩
   simp (decide:=true) only [wkL_d,wkL,wkA,encD,encDs,List.map_nil,wkD_aggd,dleL_cons,dleL_nil,dle_nil,wkD_selfT,and_true,true_and]
   first|done|exact ⟨0,rfl,rfl⟩
  refine walkS ?_
  refine aw_boxD (k:=1000) (cs':=((D'.map encRc).flatten).map A.d++(tl.map fun x=>A.d (.v x))) rfl (by rw [hcs];exact csA_dv hr0' (by omega) (by (rcases hf with ⟨rfl,rfl,rfl,rfl,_⟩|⟨rfl,rfl,rfl,rfl,_⟩|⟨rfl,rfl,rfl,rfl,_⟩|⟨rfl,rfl,rfl,rfl,_⟩)<;>rfl)) ?_
  refine aw_freezeX 32 1000 8 D'.length (D'.map encRc) (tl.map fun x=>A.d (.v x)) rfl (by decide) rfl (by simp) (mapRc8 _) hks (by decide) ?_
  have hcn:=chg_no (D:=D') (i:=k0) (r:=r0) (s:=s2) ⟨h0,h1,h2,h3,h4,h5,h6,h7,h8⟩
  (refine rtS Tryz.results45 ?_;exact ⟨_,[],.inl ⟨rfl,rfl⟩,_,(curP q s2.2:List Eng.D).map .d,[],rfl,toZL_d _ (curP q s2.2),by simp,⟨by rw [hcn];rfl,cur_end (by rw [hcn]) hbb⟩⟩)
end
end Go.Proofs.YtodkkldopciagaaGreatDoor.Eng
namespace Go.Proofs.YtodkkldopciagaaGreatDoor.Eng
open Go Go.RowKit

theorem any_c {p:Nat→Prop} (c:Cur) (hb:c.b.length≤1048576):AC Tryz.prog 45 [.ptr 0 0] (some ((curP p c).map .d)) (drwQ p (encD (anyC c).1) (anyC c).2):=by
 have key:AC Tryz.prog 45 [.ptr 0 0] (some ((Eng.D.iv p (encB c.b)::[iD c.i,iD c.h]).map .d)) (fun r' b=>r'=.d (encD (anyC c).1)∧b=some ((Eng.D.iv p (encB c.b)::[iD (anyC c).2.i,iD (anyC c).2.h]).map .d)):=by
  by_cases h5:(anyW c).1=5
  ·exact any_f c hb 4 5 144 1120 (.inl ⟨rfl,rfl,rfl,rfl,h5⟩)
  by_cases h6:(anyW c).1=6
  ·exact any_f c hb 5 9 145 1121 (.inr (.inl ⟨rfl,rfl,rfl,rfl,h6⟩))
  by_cases h7:(anyW c).1=7
  ·exact any_f c hb 6 3 146 1122 (.inr (.inr (.inl ⟨rfl,rfl,rfl,rfl,h7⟩)))
  ·exact any_f c hb 7 3 147 1123 (.inr (.inr (.inr ⟨rfl,rfl,rfl,rfl,h5,h6,h7⟩)))
 exact key.mono fun r b h=>⟨h.1,by rw [h.2,←anyC_b]⟩
end Go.Proofs.YtodkkldopciagaaGreatDoor.Eng
