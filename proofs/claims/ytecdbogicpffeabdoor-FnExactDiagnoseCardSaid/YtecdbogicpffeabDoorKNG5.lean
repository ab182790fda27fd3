/-
 Where reading fails: the program's search goes into a part.
-/
import Derived.Test.YtecdbogicpffeabDoorKNG5A
set_option linter.unusedSimpArgs false
set_option linter.unusedVariables false
set_option linter.defProp false
set_option maxRecDepth 100000
set_option maxHeartbeats 4000000
namespace Go.Proofs.YtecdbogicpffeabDoor.Eng
open Go Go.RowKit

section
variable {M:Nat}{D:List RuleD}{b:List UInt8}
private def tyF:=ai (ai (ai tg25 (ai tg30 tg52)) (ai tg53 (ai tg32 tg48))) (ai (ai tg61 (ai tg3 tg4)) (ai (ai tg46 tg5) (ai tg75 tg9)))
theorem partI_step (hD:DB M D) (hM:M≤1048576) (hb4:b.length≤400) (hV:descP D) {f:Nat} (H:PartOK D b f):PartOK D b (f+1):=fun n p path path0 rule0 hnf hnl hp hpath=>by
 obtain ⟨r,hr⟩:∃ r,D[n]?=some r:=⟨_,List.getElem?_eq_getElem hnl⟩
 have hrb:=hD.rule r (List.mem_of_getElem? hr)
 have G:GoodR D n r:=good_of hV hr
 have hrd:=ruleD_get hr
 have K:=fun L hl hL hk q hq=>kidsI_c hD hM hb4 hV H hr L hl hL hk q hq path path (n:Int) (by omega)
 have kidn:∀ j (hj:j<r.kids.length),0≤r.kids[j]∧r.kids[j].toNat<f∧r.kids[j].toNat<D.length:=fun j hj=>by have:=G.kid j hj;omega
 have hT:∀ q m ks,itemsAt D r b p=some (q,m,ks)→((kidsT D b f r ks q path path (n:Int)).1,(kidsT D b f r ks q path path (n:Int)).2)=((dig D b (f+1) n p path).1,((dig D b (f+1) n p path).2:Int)):=fun q m ks h=>by
  rw [dig_some hrd h]
  unfold kidsT
  cases badI (rd D b D.length) ks 0 q with
  | none=>rfl
  | some x=>rfl
 have hN:itemsAt D r b p=none→dig D b (f+1) n p path=(path,n):=fun h=>dig_none hrd h
 have done:∀ {q:Nat}{m:Int}{L:List Int},itemsAt D r b p=some (q,m,L.map Int.toNat)→∀ (hl:L.length≤40) (hL:∀ i (hi:i<L.length),0≤L[i]∧L[i].toNat<f∧L[i].toNat<D.length) (hk:∀ i,i<L.length→r.kind=5∨(r.kind=6∧i<r.names.length)∨((r.kind=7∨r.kind=8∨r.kind=9)∧i=0)) (hq:q≤b.length),
   ∃ e ok,AC Tryd.prog 29 [.ptr 0 0,.d (sD path),.d (iD n),.d (encI L),.d (iD q)] (some ((trD D b path n).map .d)) (fun r' bx=>r'=.d (.tup [iD e,bD ok])∧bx=some ((trD D b (dig D b (f+1) n p path).1 ((dig D b (f+1) n p path).2:Nat)).map .d)):=fun hx hl hL hk hq=>by
  have hT':=hT _ _ _ hx
  simp only [Prod.mk.injEq] at hT'
  have hK:=K _ hl hL hk _ hq
  rw [hT'.1,hT'.2] at hK
  exact ⟨_,_,hK⟩
 have kid0e:0<r.kids.length→[(kid0 r).toNat]=(r.kids.take 1).map Int.toNat:=fun h=>by
  cases hq:r.kids with
  | nil=>rw [hq] at h;simp at h
  | cons x l=>simp [kid0,hq]
 by_cases k6:r.kind=6
 ·obtain ⟨e,ok,hK⟩:=done (items_6 (D:=D) (b:=b) (p:=p) k6) (by have:=G.k6 k6;omega) kidn (fun i hi=>.inr (.inl ⟨k6,by have:=names_6 hV hr k6;omega⟩)) hp
  generalize dig D b (f+1) n p path=dg at *
  have c6:(r.kind==6)=true:=beq_iff_eq.2 k6
  refine cbS Tryd.func19 rfl Tryd.call19 Tryd.ntmps19 fun en hsz hks hk0=>?_;refine enS ?_
  (repeat (first|refine ctlS ?_|(refine ol_go ?_ (fun K1 hK1=>?_);exact trS;refine evS ?_;(try simp only [c6]);refine hK1 _ _ ?_;clear hK1 K1)|(refine ow_go ?_ dsS (fun K1 hK1=>?_);exact trS;refine evS ?_;(try simp only [c6]);refine hK1 _ ?_;clear hK1 K1)|refine skipS ?_|(refine ow_make ?_ dsS rfl rfl ?_ te53 tr3 tz3 ?_;exact trS;omega;refine stS0 ?_)|refine aw_condT rfl ?_|refine aw_condF rfl ?_))
  (repeat (first|refine walkS ?_|(refine ow_make ?_ dsS rfl rfl ?_ te53 tr3 tz3 ?_;exact trS;omega;refine stS0 ?_)|refine vS 0 (hK) ?_|refine aw_condT rfl ?_|refine aw_condF rfl ?_))
  ((simp only [Fin,Tryd.results19];refine finS ?_);exact ⟨_,[],.inl ⟨rfl,rfl⟩,_,(trD D b dg.1 (dg.2:Nat):List Eng.D).map .d,[],rfl,toZL_d _ (trD D b dg.1 (dg.2:Nat)),by simp,⟨rfl,rfl⟩⟩)
 have c6:(r.kind==6)=false:=by rw [beq_eq_false_iff_ne];exact k6
 by_cases k9:r.kind=9
 ·have hl9:=G.k9 k9
  have hx:=items_9 (D:=D) (b:=b) (p:=p) k9
  rw [kid0e (by omega),List.take_of_length_le (by omega)] at hx
  obtain ⟨e,ok,hK⟩:=done hx (by omega) kidn (fun i hi=>.inr (.inr ⟨.inr (.inr k9),by omega⟩)) hp
  generalize dig D b (f+1) n p path=dg at *
  have c9:(r.kind==9)=true:=beq_iff_eq.2 k9
  refine cbS Tryd.func19 rfl Tryd.call19 Tryd.ntmps19 fun en hsz hks hk0=>?_;refine enS ?_
  (repeat (first|refine ctlS ?_|(refine ol_go ?_ (fun K1 hK1=>?_);exact trS;refine evS ?_;(try simp only [c6,c9]);refine hK1 _ _ ?_;clear hK1 K1)|(refine ow_go ?_ dsS (fun K1 hK1=>?_);exact trS;refine evS ?_;(try simp only [c6,c9]);refine hK1 _ ?_;clear hK1 K1)|refine skipS ?_|(refine ow_make ?_ dsS rfl rfl ?_ te53 tr3 tz3 ?_;exact trS;omega;refine stS0 ?_)|refine aw_condT rfl ?_|refine aw_condF rfl ?_))
  (repeat (first|refine walkS ?_|(refine ow_make ?_ dsS rfl rfl ?_ te53 tr3 tz3 ?_;exact trS;omega;refine stS0 ?_)|refine vS 0 (hK) ?_|refine aw_condT rfl ?_|refine aw_condF rfl ?_))
  ((simp only [Fin,Tryd.results19];refine finS ?_);exact ⟨_,[],.inl ⟨rfl,rfl⟩,_,(trD D b dg.1 (dg.2:Nat):List Eng.D).map .d,[],rfl,toZL_d _ (trD D b dg.1 (dg.2:Nat)),by simp,⟨rfl,rfl⟩⟩)
 have c9:(r.kind==9)=false:=by rw [beq_eq_false_iff_ne];exact k9
 by_cases k8:r.kind=8
 ·have c8:(r.kind==8)=true:=beq_iff_eq.2 k8
  have hl8:=G.k8 k8
  have hx:=items_8 (D:=D) (b:=b) (p:=p) k8
  rw [kid0e (by omega),List.take_of_length_le (by omega)] at hx
  by_cases hlt:p<b.length
  ·have d1:decide ((p:Int)<(b.length:Int))=true:=decide_eq_true (by omega)
   have i1:b[p]?=some (b[p]'hlt):=List.getElem?_eq_getElem hlt
   by_cases h1:b[p]=1
   ·rw [i1,h1,if_pos rfl] at hx
    have w1:(((b[p].toNat:Nat):Int)==1)=true:=by rw [h1];rfl
    have e1:IntKind.i64.wrap ((p:Int)+1)=((p+1:Nat):Int):=by rw [wrap_small (by omega) (by omega)];omega
    obtain ⟨e,ok,hK⟩:=done hx (by omega) kidn (fun i hi=>.inr (.inr ⟨.inr (.inl k8),by omega⟩)) hlt
    generalize dig D b (f+1) n p path=dg at *
    refine cbS Tryd.func19 rfl Tryd.call19 Tryd.ntmps19 fun en hsz hks hk0=>?_;refine enS ?_
    (repeat (first|refine ctlS ?_|(refine ol_go ?_ (fun K1 hK1=>?_);exact trS;refine evS ?_;(try simp only [c6,c9,c8,d1,w1,e1]);refine hK1 _ _ ?_;clear hK1 K1)|(refine ow_go ?_ dsS (fun K1 hK1=>?_);exact trS;refine evS ?_;(try simp only [c6,c9,c8,d1,w1,e1]);refine hK1 _ ?_;clear hK1 K1)|refine skipS ?_|(refine ow_make ?_ dsS rfl rfl ?_ te53 tr3 tz3 ?_;exact trS;omega;refine stS0 ?_)|refine aw_condT rfl ?_|refine aw_condF rfl ?_))
    (repeat (first|refine walkS ?_|(refine ow_make ?_ dsS rfl rfl ?_ te53 tr3 tz3 ?_;exact trS;omega;refine stS0 ?_)|refine vS 0 (hK) ?_|refine aw_condT rfl ?_|refine aw_condF rfl ?_))
    ((simp only [Fin,Tryd.results19];refine finS ?_);exact ⟨_,[],.inl ⟨rfl,rfl⟩,_,(trD D b dg.1 (dg.2:Nat):List Eng.D).map .d,[],rfl,toZL_d _ (trD D b dg.1 (dg.2:Nat)),by simp,⟨rfl,rfl⟩⟩)
   ·rw [i1,if_neg (fun h=>h1 (Option.some.inj h))] at hx
    have w1:(((b[p].toNat:Nat):Int)==1)=false:=by rw [beq_eq_false_iff_ne];exact fun h=>h1 (u8_inj (y:=1) h)
    rw [hN hx]
    refine cbS Tryd.func19 rfl Tryd.call19 Tryd.ntmps19 fun en hsz hks hk0=>?_;refine enS ?_
    (repeat (first|refine ctlS ?_|(refine ol_go ?_ (fun K1 hK1=>?_);exact trS;refine evS ?_;(try simp only [c6,c9,c8,d1,w1]);refine hK1 _ _ ?_;clear hK1 K1)|(refine ow_go ?_ dsS (fun K1 hK1=>?_);exact trS;refine evS ?_;(try simp only [c6,c9,c8,d1,w1]);refine hK1 _ ?_;clear hK1 K1)|refine skipS ?_|(refine ow_make ?_ dsS rfl rfl ?_ te53 tr3 tz3 ?_;exact trS;omega;refine stS0 ?_)|refine aw_condT rfl ?_|refine aw_condF rfl ?_))
    ((simp only [Fin,Tryd.results19];refine finS ?_);exact ⟨_,[],.inl ⟨rfl,rfl⟩,_,(trD D b path n:List Eng.D).map .d,[],rfl,toZL_d _ (trD D b path n),by simp,⟨rfl,rfl⟩⟩)
  ·have d1:decide ((p:Int)<(b.length:Int))=false:=decide_eq_false (by omega)
   have i1:b[p]?=none:=List.getElem?_eq_none (by omega)
   rw [i1,if_neg (by simp)] at hx
   rw [hN hx]
   refine cbS Tryd.func19 rfl Tryd.call19 Tryd.ntmps19 fun en hsz hks hk0=>?_;refine enS ?_
   (repeat (first|refine ctlS ?_|(refine ol_go ?_ (fun K1 hK1=>?_);exact trS;refine evS ?_;(try simp only [c6,c9,c8,d1]);refine hK1 _ _ ?_;clear hK1 K1)|(refine ow_go ?_ dsS (fun K1 hK1=>?_);exact trS;refine evS ?_;(try simp only [c6,c9,c8,d1]);refine hK1 _ ?_;clear hK1 K1)|refine skipS ?_|(refine ow_make ?_ dsS rfl rfl ?_ te53 tr3 tz3 ?_;exact trS;omega;refine stS0 ?_)|refine aw_condT rfl ?_|refine aw_condF rfl ?_))
   ((simp only [Fin,Tryd.results19];refine finS ?_);exact ⟨_,[],.inl ⟨rfl,rfl⟩,_,(trD D b path n:List Eng.D).map .d,[],rfl,toZL_d _ (trD D b path n),by simp,⟨rfl,rfl⟩⟩)
 by_cases k57:r.kind=5∨r.kind=7
 ·exact partI_57 hD hM hb4 hV H hnf hnl hp hpath hr k57
 have c8:(r.kind==8)=false:=by rw [beq_eq_false_iff_ne];exact k8
 have c5:(r.kind==5)=false:=by rw [beq_eq_false_iff_ne];omega
 have c7:(r.kind==7)=false:=by rw [beq_eq_false_iff_ne];omega
 rw [hN (items_no (by omega) k6 (by omega) k8 k9)]
 refine cbS Tryd.func19 rfl Tryd.call19 Tryd.ntmps19 fun en hsz hks hk0=>?_;refine enS ?_
 (repeat (first|refine ctlS ?_|(refine ol_go ?_ (fun K1 hK1=>?_);exact trS;refine evS ?_;(try simp only [c6,c9,c8,c5,c7]);refine hK1 _ _ ?_;clear hK1 K1)|(refine ow_go ?_ dsS (fun K1 hK1=>?_);exact trS;refine evS ?_;(try simp only [c6,c9,c8,c5,c7]);refine hK1 _ ?_;clear hK1 K1)|refine skipS ?_|(refine ow_make ?_ dsS rfl rfl ?_ te53 tr3 tz3 ?_;exact trS;omega;refine stS0 ?_)|refine aw_condT rfl ?_|refine aw_condF rfl ?_))
 ((simp only [Fin,Tryd.results19];refine finS ?_);exact ⟨_,[],.inl ⟨rfl,rfl⟩,_,(trD D b path n:List Eng.D).map .d,[],rfl,toZL_d _ (trD D b path n),by simp,⟨rfl,rfl⟩⟩)
theorem partI_all (hD:DB M D) (hM:M≤1048576) (hb4:b.length≤400) (hV:descP D):∀ f,PartOK D b f
 | 0=>fun n p path path0 rule0 h=>by omega
 | f+1=>partI_step hD hM hb4 hV (partI_all hD hM hb4 hV f)
end
end Go.Proofs.YtecdbogicpffeabDoor.Eng
