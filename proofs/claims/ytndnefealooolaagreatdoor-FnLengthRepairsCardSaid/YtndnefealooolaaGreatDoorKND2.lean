/-
 Draws: numbers, bytes, texts.

 Draws: numbers as texts; which rules are integers.
-/
import Derived.Test.YtndnefealooolaaGreatDoorKTy
import Derived.Test.YtndnefealooolaaGreatDoorKN0
import Derived.Test.YtndnefealooolaaGreatDoorKPD
import Derived.Test.YtndnefealooolaaGreatDoorKE30
import Derived.Test.YtndnefealooolaaGreatDoorKE4
import Derived.Test.YtndnefealooolaaGreatDoorKE38
import Derived.Test.YtndnefealooolaaGreatDoorKNFS
set_option linter.unusedSimpArgs false
set_option linter.unusedVariables false
set_option linter.defProp false
set_option maxRecDepth 100000
set_option maxHeartbeats 4000000
namespace Go.Proofs.YtndnefealooolaaGreatDoor.Eng
open Go Go.RowKit

abbrev curP (p:Nat→Prop) (c:Cur):List Eng.D:=[.iv p (encB c.b),iD c.i,iD c.h]
abbrev drwQ (p:Nat→Prop) (x:Eng.D) (c:Cur):Rz→Option (List Rz)→Prop:=fun r b=>r=.d x∧b=some ((curP p c).map .d)
abbrev drwO (p:Nat→Prop) (l:List UInt8) (c:Cur):Rz→Option (List Rz)→Prop:=fun r b=>r=.own 5 1 (rowB l)∧b=some ((curP p c).map .d)
theorem AC.owndB {P:Program}{f:FuncId}{args:List A}{bx:Option (List Rz)}{e:TypeId}{z:Nat}{es:List (List D)}{b0:Option (List Rz)} (h:AC P f args bx fun r b=>r=.own e z es∧b=b0):AC P f args bx fun r b=>r=.d (.sl z es)∧b=b0:=
 ⟨h.1,fun w C β F0 vs h1 h2 h3 h4=>(h.2 w C β F0 vs h1 h2 h3 h4).mono fun x w' ⟨v,r,bx',C',F,F',he',⟨hq,hb0⟩,hb,g1,g2,g3,g4,g5,g6,g7,g8⟩=>by
  subst hq
  refine ⟨v,.d (.sl z es),bx',C',[],F',he',⟨rfl,hb0⟩,hb,g1,g2,g3,g4,?_,g6,?_,fun b' hb'=>g8 b' (by simp only [List.append_nil] at hb';exact List.mem_append_left _ hb')⟩
  ·unfold RepZ
   refine ⟨rfl,?_⟩
   unfold RepZ at g5
   have hw:wkD (.sl z es) (.own 0 e z es):=by unfold wkD;exact .inr ⟨_,_,_,rfl,dleLL_refl _⟩
   rcases g5 with ⟨rfl,rfl,_⟩|⟨b,cp,_,k1,_⟩
   ·exact wkD_rep (G:=⟨fun _=>none,fun _=>0,C'⟩) hw (by unfold RepA RepOwn;exact .inl ⟨rfl,rfl,rfl⟩)
   ·exact wkD_rep (G:=⟨fun _=>some b,fun _=>cp,C'⟩) hw (by unfold RepA;exact k1)
  ·rw [List.append_nil]
   exact (List.nodup_append.1 g7).1⟩
section
variable {P:Program}{en:En}{ops:Array Oper}{o:Oper}{l:List Oper}{K:St→Prop}{s:St}
theorem ow_call1o {f:FuncId}{xs:Array Operand}{ats:Array TypeId}{k:Nat}{e:TypeId}{z:Nat}{ys:List A}{ds ds':List D}{es:List (List D)} (hg:Wanted s ops o) (hd:∀ x,o.dst=some x→x<en.sz) (ho:o.op=.call { callee:=.value (.func f),args:=xs,argTypes:=ats })
  (hc:AC P f ys (some (ds.map .d)) fun r b=>r=.own e z es∧b=some (ds'.map .d)) (h1:argsOf (some k) (xs.toList.map (ev s.f))=some ys) (h2:lk none s.bx k=some (ds.map .d))
  (h:OWs P en ops l K ({ s with bx:=(k,some (ds'.map .d))::s.bx,al:=(s.nx,some (es.length,e,z))::s.al,nx:=s.nx+16 }.set o.dst (.own s.nx e z es))):OWs P en ops (o::l) K s:=by
 refine ow_step hg hd (does_call1 (κ:=s.nx) ho h1 h2 (toZL_d s.mem ds) (fun j hj=>by cases hj) (by simp) hc (mem_fresh s) fun r zs' ⟨e1,e2⟩=>?_) fun v m' ⟨r,zs',⟨q1,q2⟩,e1,e2⟩=>?_
 ·have:=Option.some.inj e2
  subst e1 this
  rw [nkL_d]
  unfold Rz.nk
  omega
 ·have:=Option.some.inj q2
  subst q1 this e1 e2
  refine ⟨{ s with bx:=(k,some (ds'.map .d))::s.bx,al:=(s.nx,some (es.length,e,z))::s.al,nx:=s.nx+16 },?_,rfl,?_⟩
  ·unfold Mem.back
   simp only [nkL_d,Nat.add_zero,addL_d,toAL_d]
   have e1:dropAll s.mem.al []=s.mem.al:=by funext j;simp [dropAll]
   have e2:upd (upd s.mem.bx k none) k (some (ds'.map A.d))=upd s.mem.bx k (some (ds'.map A.d)):=by
    funext j
    by_cases e:j=k
    ·subst e;rw [upd_same,upd_same]
    ·rw [upd_ne _ _ e,upd_ne _ _ e,upd_ne _ _ e]
   rw [e1,e2]
   unfold Rz.add
   rw [St.mem_bump (s:=s) (h:=rfl),lk_cons,lk_cons]
   unfold Mem.bump
   simp only
   congr 1
   funext j
   apply propext
   show Eng.bump s.mem.us s.nx j↔Eng.bump (fun k=>s.mem.us k∨k=s.nx) s.nx j
   unfold Eng.bump
   constructor
   ·rintro (h|h)
    ·exact .inl (.inl h)
    ·exact .inr h
   ·rintro ((h|h)|h)
    ·exact .inl h
    ·exact .inr (by omega)
    ·exact .inr h
  ·rw [nkL_d] 
   exact h
end
section
variable {p:Nat→Prop}
private def tyF:=ai (ai (ai tg22 (ai tg24 tg57)) (ai tg65 (ai tg26 tg73))) (ai (ai tg97 (ai tg3 tg4)) (ai tg5 (ai tg59 tg9)))
theorem by1_c (c:Cur) (hb:c.b.length≤1048576):AC Tryz.prog 81 [.ptr 0 0] (some ((curP p c).map .d)) (drwQ p (iD (by1 c).1) (by1 c).2):=by
 obtain ⟨B,i,h⟩:=c
 simp only at hb
 refine cbS Tryz.func81 rfl Tryz.call81 Tryz.ntmps81 fun en hsz hks hk0=>?_;refine enS ?_
 refine walkS ?_
 refine aw_condS rfl (fun hc=>?_) (fun hc=>?_)
 ·have hi:i<B.length:=by omega
  have i1:B[i]?=some B[i]:=getE? hi
  have e1:IntKind.i64.wrap ((B[i].toNat:Nat):Int)=(B[i].toNat:Int):=wrap_small (by omega) (by have:=B[i].toNat_lt;omega)
  refine walkS ?_
  (refine rtS Tryz.results81 ?_;exact ⟨_,[],.inl ⟨rfl,rfl⟩,_,([.iv p (encB B),iD ((i:Int)+1),iD (stepH h)]:List Eng.D).map .d,[],rfl,toZL_d _ ([.iv p (encB B),iD ((i:Int)+1),iD (stepH h)]),by simp,by rw [by1_hit hi,mix_raw,e1];rfl,by rw [by1_hit hi];rfl⟩)
 ·have hi:¬i<B.length:=by omega
  refine walkS ?_
  (refine rtS Tryz.results81 ?_;exact ⟨_,[],.inl ⟨rfl,rfl⟩,_,([.iv p (encB B),iD (i:Int),iD (stepH h)]:List Eng.D).map .d,[],rfl,toZL_d _ ([.iv p (encB B),iD (i:Int),iD (stepH h)]),by simp,by rw [by1_no hi];rfl,by rw [by1_no hi]⟩)
theorem bel_c (c:Cur) (hb:c.b.length≤1048576) (n:Int):AC Tryz.prog 58 [.ptr 0 0,.d (iD n)] (some ((curP p c).map .d)) (drwQ p (iD (bel c n).1) (bel c n).2):=by
 have g1:=by1_in c
 have g2:=by1_in (by1 c).2
 have g3:=by1_in (by1 (by1 c).2).2
 have c1:=by1_c (p:=p) c hb
 have c2:=by1_c (p:=p) (by1 c).2 (by rw [by1_b];exact hb)
 have c3:=by1_c (p:=p) (by1 (by1 c).2).2 (by rw [by1_b,by1_b];exact hb)
 refine cbS Tryz.func58 rfl Tryz.call58 Tryz.ntmps58 fun en hsz hks hk0=>?_;refine enS ?_
 refine walkS ?_
 refine aw_condS rfl (fun h0=>?_) (fun h0=>?_)
 ·refine walkS ?_
  (refine rtS Tryz.results58 ?_;exact ⟨_,[],.inl ⟨rfl,rfl⟩,_,(curP p c:List Eng.D).map .d,[],rfl,toZL_d _ (curP p c),by simp,by rw [bel,if_pos h0],by rw [bel,if_pos h0]⟩)
 refine walkS ?_
 refine aw_condS rfl (fun h1=>?_) (fun h1=>?_)
 ·(repeat (first|refine walkS ?_|refine vS 0 (c1) ?_))
  (refine rtS Tryz.results58 ?_;exact ⟨_,[],.inl ⟨rfl,rfl⟩,_,(curP p (by1 c).2:List Eng.D).map .d,[],rfl,toZL_d _ (curP p (by1 c).2),by simp,by rw [bel,if_neg h0,if_pos h1],by rw [bel,if_neg h0,if_pos h1]⟩)
 ·(repeat (first|refine walkS ?_|refine vS 0 (c1) ?_|refine vS 0 (c2) ?_|refine vS 0 (c3) ?_))
  (refine rtS Tryz.results58 ?_;exact ⟨_,[],.inl ⟨rfl,rfl⟩,_,(curP p (by1 (by1 (by1 c).2).2).2:List Eng.D).map .d,[],rfl,toZL_d _ (curP p (by1 (by1 (by1 c).2).2).2),by simp,by rw [bel,if_neg h0,if_neg h1],by rw [bel,if_neg h0,if_neg h1]⟩)
theorem once_c (c:Cur) (hb:c.b.length≤1048576) (n:Int):AC Tryz.prog 56 [.ptr 0 0,.d (iD n)] (some ((curP p c).map .d)) (drwQ p (bD (once c n).1) (once c n).2):=by
 have c1:=bel_c (p:=p) c hb n
 refine cbS Tryz.func56 rfl Tryz.call56 Tryz.ntmps56 fun en hsz hks hk0=>?_;refine enS ?_
 (repeat (first|refine walkS ?_|refine vS 0 (c1) ?_))
 (refine rtS Tryz.results56 ?_;exact ⟨_,[],.inl ⟨rfl,rfl⟩,_,(curP p (bel c n).2:List Eng.D).map .d,[],rfl,toZL_d _ (curP p (bel c n).2),by simp,rfl,rfl⟩)
theorem pickI_c (c:Cur) (hb:c.b.length≤1048576) {l:List Int} (hl:0<l.length) (hm:l.length≤1048576):AC Tryz.prog 80 [.ptr 0 0,.d (encI l)] (some ((curP p c).map .d)) (drwQ p (iD (pickI c l).1) (pickI c l).2):=by
 have c1:=bel_c (p:=p) c hb l.length
 have i1:=pickI_get c hl
 have g1:=bel_in c (n:=l.length) (by omega)
 refine cbS Tryz.func80 rfl Tryz.call80 Tryz.ntmps80 fun en hsz hks hk0=>?_;refine enS ?_
 (repeat (first|refine walkS ?_|refine vS 0 (c1) ?_))
 (refine rtS Tryz.results80 ?_;exact ⟨_,[],.inl ⟨rfl,rfl⟩,_,(curP p (bel c l.length).2:List Eng.D).map .d,[],rfl,toZL_d _ (curP p (bel c l.length).2),by simp,rfl,rfl⟩)
theorem pickT_c (c:Cur) (hb:c.b.length≤1048576) {l:List ByteArray} (hl:0<l.length) (hm:l.length≤1048576):AC Tryz.prog 116 [.ptr 0 0,.d (encS l)] (some ((curP p c).map .d)) (drwQ p (sD (pickT c l).1) (pickT c l).2):=by
 have c1:=bel_c (p:=p) c hb l.length
 have i1:=pickT_get c hl
 have g1:=bel_in c (n:=l.length) (by omega)
 refine cbS Tryz.func116 rfl Tryz.call116 Tryz.ntmps116 fun en hsz hks hk0=>?_;refine enS ?_
 (repeat (first|refine walkS ?_|refine vS 0 (c1) ?_))
 (refine rtS Tryz.results116 ?_;exact ⟨_,[],.inl ⟨rfl,rfl⟩,_,(curP p (bel c l.length).2:List Eng.D).map .d,[],rfl,toZL_d _ (curP p (bel c l.length).2),by simp,rfl,rfl⟩)
theorem u8_draw {n:Int} (h:0≤n∧n≤255):IntKind.u8.wrap n=((UInt8.ofNat n.toNat).toNat:Int):=by
 have h1:IntKind.u8.wrap n=n % 256:=by simp [IntKind.wrap,IntKind.bits,IntKind.signed]
 rw [h1,UInt8.toNat_ofNat']
 omega
theorem bysC_o (c:Cur) (hb:c.b.length≤1048576) {n:Nat} (hn:n≤1048576):AC Tryz.prog 59 [.ptr 0 0,.d (iD n)] (some ((curP p c).map .d)) (drwO p (bysC n c).1 (bysC n c).2):=by
 refine cbS Tryz.func59 rfl Tryz.call59 Tryz.ntmps59 fun en hsz hks hk0=>?_;refine enS ?_
 refine walkS ?_
 refine aw_loopS [0,1,4] (fun κ s'=>[(κ,keyOf (s'.f 5))]) (fun κ x=>[(6,.d (iD (x.1:Nat))),(5,.own κ 5 1 (x.2.1.map fun c=>[uD c]))]) [0] (fun κ x=>[(0,some ((curP p x.2.2).map .d))]) [32] (fun κ x=>[(κ,some (x.2.1.length,5,1))]) (fun x:Nat × List UInt8 × Cur=>x.1≤n∧x.2=bysC x.1 c) (fun x=>n - x.1) ((0,[],c)) hks (fun _=>rfl) ⟨Nat.zero_le _,rfl⟩ wkS ?_;intro x hx;refine headS ?_
 obtain ⟨x,y⟩:=x
 simp only at hx ⊢
 obtain ⟨hx,rfl⟩:=hx
 have hl:=bysC_len c x
 have g1:=by1_in (bysC x c).2
 have e1:=u8_draw g1
 have c1:=by1_c (p:=p) (bysC x c).2 (by rw [bysC_b];exact hb)
 refine walkS ?_
 refine aw_condS rfl (fun hc=>?_) (fun hc=>?_)
 ·(repeat (first|refine ctlS ?_|(refine ol_go ?_ (fun K1 hK1=>?_);exact trS;refine evS ?_;(try simp only [e1]);refine hK1 _ _ ?_;clear hK1 K1)|(refine ow_go ?_ dsS (fun K1 hK1=>?_);exact trS;refine evS ?_;(try simp only [e1]);refine hK1 _ ?_;clear hK1 K1)|refine skipS ?_|refine vS 0 (c1) ?_))
  refine ⟨(x+1,bysC (x+1) c),⟨by simp only;omega,rfl⟩,by simp only;omega,?_⟩
  rw [bysC]
  exact wkS
 ·obtain rfl:x=n:=by omega
  refine walkS ?_
  (refine rtS Tryz.results59 ?_;exact ⟨_,_,.inl (toZ_own (by simp [lk,St.mem])),_,(curP p (bysC x c).2:List Eng.D).map .d,[],rfl,toZL_d _ (curP p (bysC x c).2),by simp,⟨rfl,rfl⟩⟩)
theorem bysC_c (c:Cur) (hb:c.b.length≤1048576) {n:Nat} (hn:n≤1048576):AC Tryz.prog 59 [.ptr 0 0,.d (iD n)] (some ((curP p c).map .d)) (drwQ p (encB (bysC n c).1) (bysC n c).2):=(bysC_o c hb hn).owndB
end
end Go.Proofs.YtndnefealooolaaGreatDoor.Eng
namespace Go.Proofs.YtndnefealooolaaGreatDoor.Eng
open Go Go.RowKit

section
variable {p:Nat→Prop}
theorem wkD_ownS (l:List ByteArray) (k:Nat) (e:TypeId):wkD (encS l) (.own k e 1 (l.map fun s=>[sD s]))=True:=eq_true (by unfold encS wkD;exact .inr ⟨_,_,_,rfl,dleLL_refl _⟩)
theorem wkD_ownI (l:List Int) (k:Nat) (e:TypeId):wkD (encI l) (.own k e 1 (l.map fun n=>[iD n]))=True:=eq_true (by unfold encI wkD;exact .inr ⟨_,_,_,rfl,dleLL_refl _⟩)
theorem wkD_ownDs (l:List RuleD) (k:Nat) (e:TypeId):wkD (encDs l) (.own k e 8 (l.map encRc))=True:=eq_true (by unfold encDs wkD;exact .inr ⟨_,_,_,rfl,dleLL_refl _⟩)
theorem wkD_own2 (z k:Nat) (e:TypeId) (c d:List D):wkD (.sl z [c,d]) (.own k e z [c,d])=True:=eq_true (by unfold wkD;exact .inr ⟨_,_,_,rfl,dleLL_refl _⟩)
theorem wkDS3 {p:Prop} (h:p:=by first|exact wkD_self _|(simp (decide:=true) only [wkD_own1,wkD_own2,wkD_ownS,wkD_ownI,wkD_ownDs,wkD_selfT,wkD_ownB,wkD_ownB0,wkD_ownV0,wkD_nilB,wkD_ownV,wkD_nilV,wkD_agg,wkD_tup,wkDL_nil,wkDL_cons,encVs_append,encVs_one,encVs_nil,encV_mk,V0,dle_agg,dle_tup,dleL_nil,dleL_cons,dle_nil,dle_nilB,wkD_tupd,wkD_aggd,dle_selfT,and_true,true_and,List.map_cons,List.map_nil])):p:=h
theorem intIx_c {M:Nat}{D:List RuleD} (hD:DB M D) (hM:M≤1048576) (c:Cur) (hb:c.b.length≤1048576) (hp:0<(intIx D D.length).length):AC Tryz.prog 117 [.ptr 0 0,.d (encD D)] (some ((curP p c).map .d)) (drwQ p (iD (pickI c (intIx D D.length)).1) (pickI c (intIx D D.length)).2):=by
 have hl:=hD.len
 have hil:=intIx_len (D:=D) D.length
 have c1:=pickI_c (p:=p) c hb hp (by omega)
 refine cbS Tryz.func117 rfl Tryz.call117 Tryz.ntmps117 fun en hsz hks hk0=>?_;refine enS ?_
 refine walkS ?_
 refine aw_loopS [0,3,4] (fun κ s'=>[(κ,keyOf (s'.f 5))]) (fun κ x=>[(6,.d (iD (x.1:Nat))),(5,.own κ 3 1 (x.2.map fun n=>[iD n]))]) [] (fun _ _=>[]) [48] (fun κ x=>[(κ,some (x.2.length,3,1))]) (fun x:Nat × List Int=>x.1≤D.length∧x.2=intIx D x.1) (fun x=>D.length - x.1) ((0,[])) hks (fun _=>rfl) ⟨Nat.zero_le _,rfl⟩ wkS ?_;intro x hx;refine headS ?_
 obtain ⟨x,y⟩:=x
 simp only at hx ⊢
 obtain ⟨hx,rfl⟩:=hx
 have hix:=intIx_len (D:=D) x
 refine walkS ?_
 refine aw_condS rfl (fun hc=>?_) (fun hc=>?_)
 ·have hx':x<D.length:=by omega
  obtain ⟨r,hr⟩:∃ r,D[x]?=some r:=⟨_,List.getElem?_eq_getElem hx'⟩
  have hrD:=ruleD_get hr
  refine walkS ?_
  refine aw_condS rfl (fun h1=>?_) (fun h1=>?_)
  ·have e:intIx D (x+1)=intIx D x++[(x:Int)]:=by rw [intIx,hrD,if_pos h1]
   refine walkS ?_
   refine ⟨(x+1,intIx D (x+1)),⟨by simp only;omega,rfl⟩,by simp only;omega,?_⟩
   rw [e]
   exact wkS
  ·have e:intIx D (x+1)=intIx D x:=by rw [intIx,hrD,if_neg h1]
   refine walkS ?_
   refine ⟨(x+1,intIx D (x+1)),⟨by simp only;omega,rfl⟩,by simp only;omega,?_⟩
   rw [e]
   exact wkS
 ·obtain rfl:x=D.length:=by have:x≤D.length:=hx;omega
  (repeat (first|refine walkS ?_|refine vS 0 (c1) ?_))
  (refine rtS Tryz.results117 ?_;exact ⟨_,[],.inl ⟨rfl,rfl⟩,_,(curP p (pickI c (intIx D D.length)).2:List Eng.D).map .d,[],rfl,toZL_d _ (curP p (pickI c (intIx D D.length)).2),by simp,rfl,rfl⟩)
end
end Go.Proofs.YtndnefealooolaaGreatDoor.Eng
