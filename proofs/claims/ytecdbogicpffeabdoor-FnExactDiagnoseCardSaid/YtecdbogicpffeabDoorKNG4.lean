/-
 Where reading fails: the program's search.
-/
import Derived.Test.YtecdbogicpffeabDoorKNG3
import Derived.Test.YtecdbogicpffeabDoorKNAX
import Derived.Test.YtecdbogicpffeabDoorKITO
set_option linter.unusedSimpArgs false
set_option linter.unusedVariables false
set_option linter.defProp false
set_option maxRecDepth 100000
set_option maxHeartbeats 4000000
namespace Go.Proofs.YtecdbogicpffeabDoor.Eng
open Go Go.RowKit

section
variable {M:Nat}{D:List RuleD}{b:List UInt8}
theorem known_yes (hV:descP D) {n:Nat} (hn:n<D.length):vKnown D (n:Int)=true:=by
 unfold vKnown
 rw [vDesc_yes hV,decide_eq_true (by omega)]
 rfl
theorem readV_rd (hV:descP D) (hb4:b.length≤400) {k q:Nat} (hk:k<D.length) (hq:q≤b.length):readV D b (k:Int) (q:Int)=rd D b D.length k q:=by
 unfold readV
 rw [if_pos ⟨known_yes hV hk,by omega,hb4⟩,Int.toNat_natCast,Int.toNat_natCast]
private def tyF:=ai (ai (ai tg25 (ai tg30 tg52)) (ai tg53 (ai tg32 tg48))) (ai (ai tg61 (ai tg3 tg4)) (ai tg46 (ai tg5 tg9)))
theorem stepI_c (hD:DB M D) (hM:M≤1048576) (hV:descP D) {n:Nat}{r:RuleD} (hr:D[n]?=some r) {i:Nat} (hi:i≤1048576) (hk:r.kind=5∨(r.kind=6∧i<r.names.length)∨((r.kind=7∨r.kind=8∨r.kind=9)∧i=0)):AC Tryd.prog 51 [.d (encD D),.d (iD n),.d (iD i)] none (fun r' _=>r'=.d (sD (stepT r i))):=by
 have hrb:=hD.rule r (List.mem_of_getElem? hr)
 have hn:n<D.length:=(List.getElem?_eq_some_iff.1 hr).1
 have HK:=known_c hD hM (n:Int)
 rw [known_yes hV hn] at HK
 have f1:=fmtI_any (n:=(i:Int)) (by omega) (by omega)
 have d0:decide ((i:Int)<0)=false:=decide_eq_false (by omega)
 have d1:decide ((0:Int)<0)=false:=rfl
 rcases hk with h|⟨h,hn⟩|⟨h|h|h,rfl⟩
 ·rw [step_5 h,fmtN_ito]
  have c5:(r.kind==5)=true:=beq_iff_eq.2 h
  refine cbS Tryd.func51 rfl Tryd.call51 Tryd.ntmps51 fun en hsz hks hk0=>?_;refine enS ?_
  (repeat (first|refine ctlS ?_|(refine ol_go ?_ (fun K1 hK1=>?_);exact trS;refine evS ?_;(try simp only [d0,c5]);refine hK1 _ _ ?_;clear hK1 K1)|(refine ow_go ?_ dsS (fun K1 hK1=>?_);exact trS;refine evS ?_;(try simp only [d0,c5]);refine hK1 _ ?_;clear hK1 K1)|refine skipS ?_|refine cS (HK) ?_|refine cS (f1) ?_|refine aw_condT rfl ?_|refine aw_condF rfl ?_))
  (refine rtS Tryd.results51 ?_;exact ⟨_,_,.inl ⟨rfl,rfl⟩,List.nodup_nil,rfl⟩)
 ·rw [step_6 h hn]
  have c5:(r.kind==5)=false:=by rw [beq_eq_false_iff_ne];omega
  have c6:(r.kind==6)=true:=beq_iff_eq.2 h
  have d2:decide ((i:Int)<(r.names.length:Int))=true:=decide_eq_true (by omega)
  have i1:r.names[i]?=some (r.names[i]'hn):=List.getElem?_eq_getElem hn
  refine cbS Tryd.func51 rfl Tryd.call51 Tryd.ntmps51 fun en hsz hks hk0=>?_;refine enS ?_
  (repeat (first|refine ctlS ?_|(refine ol_go ?_ (fun K1 hK1=>?_);exact trS;refine evS ?_;(try simp only [d0,c5,c6,d2]);refine hK1 _ _ ?_;clear hK1 K1)|(refine ow_go ?_ dsS (fun K1 hK1=>?_);exact trS;refine evS ?_;(try simp only [d0,c5,c6,d2]);refine hK1 _ ?_;clear hK1 K1)|refine skipS ?_|refine cS (HK) ?_|refine aw_condT rfl ?_|refine aw_condF rfl ?_))
  (refine rtS Tryd.results51 ?_;exact ⟨_,_,.inl ⟨rfl,rfl⟩,List.nodup_nil,rfl⟩)
 ·rw [step_7 h]
  have c5:(r.kind==5)=false:=by rw [beq_eq_false_iff_ne];omega
  have c6:(r.kind==6)=false:=by rw [beq_eq_false_iff_ne];omega
  have c7:(r.kind==7)=true:=beq_iff_eq.2 h
  refine cbS Tryd.func51 rfl Tryd.call51 Tryd.ntmps51 fun en hsz hks hk0=>?_;refine enS ?_
  (repeat (first|refine ctlS ?_|(refine ol_go ?_ (fun K1 hK1=>?_);exact trS;refine evS ?_;(try simp only [d0,d1,c5,c6,c7,Int.natCast_zero]);refine hK1 _ _ ?_;clear hK1 K1)|(refine ow_go ?_ dsS (fun K1 hK1=>?_);exact trS;refine evS ?_;(try simp only [d0,d1,c5,c6,c7,Int.natCast_zero]);refine hK1 _ ?_;clear hK1 K1)|refine skipS ?_|refine cS (HK) ?_|refine aw_condT rfl ?_|refine aw_condF rfl ?_))
  (refine rtS Tryd.results51 ?_;exact ⟨_,_,.inl ⟨rfl,rfl⟩,List.nodup_nil,rfl⟩)
 ·rw [step_8 h]
  have c5:(r.kind==5)=false:=by rw [beq_eq_false_iff_ne];omega
  have c6:(r.kind==6)=false:=by rw [beq_eq_false_iff_ne];omega
  have c7:(r.kind==7)=false:=by rw [beq_eq_false_iff_ne];omega
  have c8:(r.kind==8)=true:=beq_iff_eq.2 h
  refine cbS Tryd.func51 rfl Tryd.call51 Tryd.ntmps51 fun en hsz hks hk0=>?_;refine enS ?_
  (repeat (first|refine ctlS ?_|(refine ol_go ?_ (fun K1 hK1=>?_);exact trS;refine evS ?_;(try simp only [d0,d1,c5,c6,c7,c8,Int.natCast_zero]);refine hK1 _ _ ?_;clear hK1 K1)|(refine ow_go ?_ dsS (fun K1 hK1=>?_);exact trS;refine evS ?_;(try simp only [d0,d1,c5,c6,c7,c8,Int.natCast_zero]);refine hK1 _ ?_;clear hK1 K1)|refine skipS ?_|refine cS (HK) ?_|refine aw_condT rfl ?_|refine aw_condF rfl ?_))
  (refine rtS Tryd.results51 ?_;exact ⟨_,_,.inl ⟨rfl,rfl⟩,List.nodup_nil,rfl⟩)
 ·rw [step_9 h]
  have c5:(r.kind==5)=false:=by rw [beq_eq_false_iff_ne];omega
  have c6:(r.kind==6)=false:=by rw [beq_eq_false_iff_ne];omega
  have c7:(r.kind==7)=false:=by rw [beq_eq_false_iff_ne];omega
  have c8:(r.kind==8)=false:=by rw [beq_eq_false_iff_ne];omega
  have c9:(r.kind==9)=true:=beq_iff_eq.2 h
  refine cbS Tryd.func51 rfl Tryd.call51 Tryd.ntmps51 fun en hsz hks hk0=>?_;refine enS ?_
  (repeat (first|refine ctlS ?_|(refine ol_go ?_ (fun K1 hK1=>?_);exact trS;refine evS ?_;(try simp only [d0,d1,c5,c6,c7,c8,c9,Int.natCast_zero]);refine hK1 _ _ ?_;clear hK1 K1)|(refine ow_go ?_ dsS (fun K1 hK1=>?_);exact trS;refine evS ?_;(try simp only [d0,d1,c5,c6,c7,c8,c9,Int.natCast_zero]);refine hK1 _ ?_;clear hK1 K1)|refine skipS ?_|refine cS (HK) ?_|refine aw_condT rfl ?_|refine aw_condF rfl ?_))
  (refine rtS Tryd.results51 ?_;exact ⟨_,_,.inl ⟨rfl,rfl⟩,List.nodup_nil,rfl⟩)
abbrev trD (D:List RuleD) (b:List UInt8) (path:ByteArray) (rule:Int):List Eng.D:=[encDs D,encB b,sD path,iD rule]
def PartOK (D:List RuleD) (b:List UInt8) (f:Nat):Prop:=∀ (n p:Nat) (path path0:ByteArray) (rule0:Int),n<f→n<D.length→p≤b.length→path.size+f*1048600≤2199023255552→
 AC Tryd.prog 19 [.ptr 0 0,.d (sD path),.d (iD n),.d (iD p)] (some ((trD D b path0 rule0).map .d)) (fun r' bx=>r'=.d (.tup [])∧bx=some ((trD D b (dig D b f n p path).1 ((dig D b f n p path).2:Nat)).map .d))
def kidsE (g:Nat→Nat→V × Nat × Nat) (ks:List Nat) (p:Nat):Nat × Bool:=match badI g ks 0 p with
 | none=>(endI g ks p,true)
 | some x=>(x.2.2,false)
def kidsT (D:List RuleD) (b:List UInt8) (f:Nat) (r:RuleD) (ks:List Nat) (p:Nat) (path path0:ByteArray) (rule0:Int):ByteArray × Int:=match badI (rd D b D.length) ks 0 p with
 | none=>(path0,rule0)
 | some x=>((dig D b f x.2.1 x.2.2 (path++⟨#[47]⟩++stepT r x.1)).1,((dig D b f x.2.1 x.2.2 (path++⟨#[47]⟩++stepT r x.1)).2:Int))
theorem kidsI_c (hD:DB M D) (hM:M≤1048576) (hb4:b.length≤400) (hV:descP D) {f:Nat} (H:PartOK D b f) {n:Nat}{r:RuleD} (hr:D[n]?=some r) (L:List Int) (hl:L.length≤40) (hL:∀ i (hi:i<L.length),0≤L[i]∧L[i].toNat<f∧L[i].toNat<D.length)
  (hk:∀ i,i<L.length→r.kind=5∨(r.kind=6∧i<r.names.length)∨((r.kind=7∨r.kind=8∨r.kind=9)∧i=0)) (p:Nat) (hp:p≤b.length) (path path0:ByteArray) (rule0:Int) (hpath:path.size+(f+1)*1048600≤2199023255552) :
  AC Tryd.prog 29 [.ptr 0 0,.d (sD path),.d (iD n),.d (encI L),.d (iD p)] (some ((trD D b path0 rule0).map .d)) (fun r' bx=>r'=.d (.tup [iD (kidsE (rd D b D.length) (L.map Int.toNat) p).1,bD (kidsE (rd D b D.length) (L.map Int.toNat) p).2])∧bx=some ((trD D b (kidsT D b f r (L.map Int.toNat) p path path0 rule0).1 (kidsT D b f r (L.map Int.toNat) p path path0 rule0).2).map .d)):=by
 have hrb:=hD.rule r (List.mem_of_getElem? hr)
 have HC:=fun k q (h1:k<D.length) (h2:q≤b.length)=>by
  have:=checkValueI_c hD hM (b:=b) (by omega) (k:Nat) (q:Nat)
  rwa [readV_rd hV hb4 h1 h2] at this
 have HI:∀ k q',q'≤b.length→(rd D b D.length k q').2.1≤b.length:=fun k q' h=>(rd_in D b D.length k q' h).2
 unfold kidsE kidsT
 generalize hks:L.map Int.toNat=ks
 have hkl:ks.length=L.length:=by rw [←hks,List.length_map]
 have hkg:∀ i (h1:i<L.length) (h2:i<ks.length),(ks[i]:Int)=L[i]:=fun i h1 h2=>by
  subst hks
  rw [List.getElem_map]
  have:=hL i h1
  omega
 generalize rd D b D.length=g at *
 refine cbS Tryd.func29 rfl Tryd.call29 Tryd.ntmps29 fun en hsz hks hk0=>?_;refine enS ?_
 refine walkS ?_
 refine aw_loopS [0,1,2,10,11,16,17] (fun _ _=>[]) (fun _ z=>[(18,.d (iD (z.1:Nat))),(4,.d (iD (z.2:Nat)))]) [] (fun _ _=>[]) [] (fun _ _=>[]) (fun z:Nat × Nat=>z.1≤ks.length∧z.2≤b.length∧badI g ks 0 p=badI g (ks.drop z.1) z.1 z.2∧endI g ks p=endI g (ks.drop z.1) z.2) (fun z=>ks.length - z.1) ((0,p)) hks (fun _=>rfl) ⟨Nat.zero_le _,hp,rfl,rfl⟩ wkS ?_;intro x hx;refine headS ?_
 revert hx
 revert x
 rintro ⟨i,q⟩ ⟨hx1,hx2,hx3,hx4⟩
 simp only at hx1 hx2 hx3 hx4 ⊢
 refine walkS ?_
 refine aw_condS rfl (fun hi=>?_) (fun hi=>?_)
 ·have hil:i<L.length:=by omega
  have hik:i<ks.length:=by omega
  have i1:L[i]?=some ((ks[i]'hik:Nat):Int):=by rw [List.getElem?_eq_getElem hil,hkg i hil hik]
  obtain ⟨l1,l2,l3⟩:=hL i hil
  have hki:=hkg i hil hik
  have HCk:=HC ks[i] q (by omega) hx2
  have hin:=HI ks[i] q hx2
  have hst:=stepI_c hD hM hV hr (i:=i) (by omega) (hk i hil)
  have hstz:=stepT_size (r:=r) (M:=1048576) (i:=i) (by omega) (fun s hs=>by have:=hrb.nm s hs;omega) (fun _=>by omega)
  have y1:ByteArray.size ⟨#[47]⟩=1:=rfl
  have y2:(path++⟨#[47]⟩).size=path.size+1:=by rw [ByteArray.size_append,y1]
  have y3:(path++⟨#[47]⟩++stepT r i).size=path.size+1+(stepT r i).size:=by rw [ByteArray.size_append,y2]
  have HF:=H ks[i] q (path++⟨#[47]⟩++stepT r i) path0 rule0 (by omega) (by omega) hx2 (by rw [y3];omega)
  by_cases hc:(g ks[i] q).2.2=0
  ·rw [badI_at hik hc] at hx3
   rw [List.drop_eq_getElem_cons hik,endI_ok hc] at hx4
   generalize g ks[i] q=res at *
   obtain ⟨v,q2,c⟩:=res
   simp only at hc hin hx3 hx4 HCk
   subst hc
   have e1:IntKind.i64.wrap ((i:Int)+1)=((i+1:Nat):Int):=by rw [wrap_small (by omega) (by omega)];omega
   (repeat (first|refine walkS ?_|refine cS (HCk) ?_))
   refine aw_condS rfl (fun hc=>?_) (fun hc=>?_)
   ·(first|exact absurd trivial hc|exact absurd rfl hc|(cases hc;done)|omega|exact absurd hc (by decide)|(simp at hc;done))
   (repeat (first|refine ctlS ?_|(refine ol_go ?_ (fun K1 hK1=>?_);exact trS;refine evS ?_;(try simp only [e1]);refine hK1 _ _ ?_;clear hK1 K1)|(refine ow_go ?_ dsS (fun K1 hK1=>?_);exact trS;refine evS ?_;(try simp only [e1]);refine hK1 _ ?_;clear hK1 K1)|refine skipS ?_))
   refine ⟨(i+1,q2),⟨by simp only;omega,hin,hx3,hx4⟩,by simp only;omega,?_⟩
   exact wkS
  ·rw [badI_at' hik hc] at hx3
   rw [hx3]
   generalize g ks[i] q=res at *
   obtain ⟨v,q2,c⟩:=res
   simp only at hc HCk
   (repeat (first|refine walkS ?_|refine cS (HCk) ?_))
   refine aw_condS rfl (fun hc=>?_) (fun hc=>?_)
   ·(repeat (first|refine walkS ?_|refine cS (hst) ?_))
    (repeat (first|refine walkS ?_|refine vS 0 (HF) ?_))
    (refine rtS Tryd.results29 ?_;exact ⟨_,[],.inl ⟨rfl,rfl⟩,_,(trD D b (dig D b f ks[i] q (path++⟨#[47]⟩++stepT r i)).1 ((dig D b f ks[i] q (path++⟨#[47]⟩++stepT r i)).2:Nat):List Eng.D).map .d,[],rfl,toZL_d _ (trD D b (dig D b f ks[i] q (path++⟨#[47]⟩++stepT r i)).1 ((dig D b f ks[i] q (path++⟨#[47]⟩++stepT r i)).2:Nat)),by simp,⟨rfl,rfl⟩⟩)
   ·(first|exact absurd trivial hc|exact absurd rfl hc|(cases hc;done)|omega|exact absurd hc (by decide)|(simp at hc;done))
 ·have hil:i=ks.length:=by omega
  rw [badI_end (by omega)] at hx3
  subst hil
  rw [List.drop_length,endI] at hx4
  rw [hx3,hx4]
  refine walkS ?_
  (refine rtS Tryd.results29 ?_;exact ⟨_,[],.inl ⟨rfl,rfl⟩,_,(trD D b path0 rule0:List Eng.D).map .d,[],rfl,toZL_d _ (trD D b path0 rule0),by simp,⟨rfl,rfl⟩⟩)
end
end Go.Proofs.YtecdbogicpffeabDoor.Eng
