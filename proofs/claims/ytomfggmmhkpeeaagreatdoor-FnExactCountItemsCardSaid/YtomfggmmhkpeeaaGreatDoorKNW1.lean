/-
 Texts: parts between separators, steps of paths (both sides).

 Steps of a path, as the program yields them.
-/
import Derived.Test.YtomfggmmhkpeeaaGreatDoorKNT1
import Derived.RangeFuncBox
import Derived.RangeFuncFrom
import Derived.RangeFuncCalls
import Derived.RangeFuncLeaves
import Derived.Shelf.Abstract
import Derived.WalkKit
import Derived.OwnWalkIn
import Derived.TacticsInMore
import Derived.LoopNIn
import Derived.LoopIn
import Derived.Maps.AppendAt
import Derived.Test.YtomfggmmhkpeeaaGreatDoorKNW0
set_option linter.unusedSimpArgs false
set_option linter.unusedVariables false
set_option linter.defProp false
set_option maxRecDepth 100000
set_option maxHeartbeats 4000000
namespace Go.Proofs.YtomfggmmhkpeeaaGreatDoor.Eng
open Go Go.RowKit

theorem splG_hit' {s:ByteArray}{c:UInt8}{n:Nat} (hn:n<s.size) (h:s[n]=c):splG s c (n+1)=((splG s c n).1++[s.extract (splG s c n).2 n],n+1):=by
 rw [splG,if_pos (by rw [getElem?_pos s n hn,h])]
theorem splG_not {s:ByteArray}{c:UInt8}{n:Nat} (hn:n<s.size) (h:s[n]≠c):splG s c (n+1)=splG s c n:=by
 rw [splG,if_neg (by rw [getElem?_pos s n hn];exact fun e=>h (Option.some.inj e))]
abbrev rowS (l:List ByteArray):List (List Eng.D):=l.map fun t=>[sD t]
private def tyF:=ai (ai tg86 tg3) (ai tg5 tg9)
theorem splI_c {s:ByteArray} (hs:s.size≤1048576) (c:UInt8):AC Tryz.prog 187 [.d (sD s),.d (uD c)] none (fun r' _=>r'=.own 9 1 (rowS (splT s c))):=by
 unfold splT
 refine cbS Tryz.func187 rfl Tryz.call187 Tryz.ntmps187 fun en hsz hks hk0=>?_;refine enS ?_
 refine walkS ?_
 refine aw_loopS [0,1,4] (fun κ s'=>[(κ,keyOf (s'.f 5))]) (fun κ x=>[(7,.d (iD (x.1:Nat))),(6,.d (iD ((splG s c x.1).2:Nat))),(5,.own κ 9 1 (x.2.map fun t=>[sD t]))]) [] (fun _ _=>[]) [16] (fun κ x=>[(κ,some (x.2.length,9,1))]) (fun x:Nat × List ByteArray=>x.1≤s.size∧x.2=(splG s c x.1).1) (fun x=>s.size - x.1) ((0,[])) hks (fun _=>rfl) ⟨Nat.zero_le _,rfl⟩ wkS ?_;intro x hx;refine headS ?_
 obtain ⟨k,acc⟩:=x
 simp only at hx ⊢
 obtain ⟨hx1,rfl⟩:=hx
 have hlen:=splG_len s c k
 have hle:=splG_le s c k
 refine walkS ?_
 refine aw_condS rfl (fun hk=>?_) (fun hk=>?_)
 ·have hxl:k<s.size:=by omega
  have i1:s[k]?=some s[k]:=getElem?_pos s k hxl
  have e6:IntKind.i64.wrap ((k:Int)+1)=((k+1:Nat):Int):=by rw [wrap_small (by omega) (by omega)];omega
  by_cases hc:s[k]=c
  ·have hst:=splG_hit' hxl hc
   have w1:(((s[k].toNat:Nat):Int)==((c.toNat:Nat):Int))=true:=by rw [hc];exact beq_self_eq_true _
   generalize hg:splG s c (k+1)=g1 at *
   generalize splG s c k=g at *
   (repeat (first|refine ctlS ?_|(refine ol_go ?_ (fun K1 hK1=>?_);exact trS;refine evS ?_;(first|refine ⟨_,i1,?_⟩|skip);(try simp only [w1,e6]);refine hK1 _ _ ?_;clear hK1 K1)|(refine ow_go ?_ dsS (fun K1 hK1=>?_);exact trS;refine evS ?_;(first|refine ⟨_,i1,?_⟩|skip);(try simp only [w1,e6]);refine hK1 _ ?_;clear hK1 K1)|refine skipS ?_|refine aw_condT rfl ?_|refine aw_condF rfl ?_))
   refine ⟨(k+1,g.1++[s.extract g.2 k]),⟨by simp only;omega,by simp only [hg,hst]⟩,by simp only;omega,?_⟩
   simp only [hg,hst]
   exact wkS
  ·have hst:=splG_not hxl hc
   have w1:(((s[k].toNat:Nat):Int)==((c.toNat:Nat):Int))=false:=by rw [beq_eq_false_iff_ne];exact fun h=>hc (UInt8.toNat_inj.1 (by omega))
   generalize hg:splG s c (k+1)=g1 at *
   generalize splG s c k=g at *
   (repeat (first|refine ctlS ?_|(refine ol_go ?_ (fun K1 hK1=>?_);exact trS;refine evS ?_;(first|refine ⟨_,i1,?_⟩|skip);(try simp only [w1,e6]);refine hK1 _ _ ?_;clear hK1 K1)|(refine ow_go ?_ dsS (fun K1 hK1=>?_);exact trS;refine evS ?_;(first|refine ⟨_,i1,?_⟩|skip);(try simp only [w1,e6]);refine hK1 _ ?_;clear hK1 K1)|refine skipS ?_|refine aw_condT rfl ?_|refine aw_condF rfl ?_))
   refine ⟨(k+1,g.1),⟨by simp only;omega,by simp only [hg,hst]⟩,by simp only;omega,?_⟩
   simp only [hg,hst]
   exact wkS
 ·obtain rfl:k=s.size:=by omega
  generalize splG s c s.size=g at *
  refine walkS ?_
  (refine rtS Tryz.results187 ?_;exact ⟨_,_,.inl (toZ_own (by simp [lk,St.mem])),by simp,by simp⟩)
theorem splS_c {s:ByteArray} (hs:s.size≤1048576) (c:UInt8):AC Tryz.prog 147 [.d (sD s),.d (uD c)] none (fun r' _=>r'=.own 9 1 (rowS (splT s c))):=by
 have hT:splT s c=(splG s c s.size).1++[s.extract (splG s c s.size).2 s.size]:=rfl
 refine cbS Tryz.func147 rfl Tryz.call147 Tryz.ntmps147 fun en hsz hks hk0=>?_;refine enS ?_
 refine walkS ?_
 refine aw_loopS [0,1,4] (fun κ s'=>[(κ,keyOf (s'.f 5))]) (fun κ x=>[(7,.d (iD (x.1:Nat))),(6,.d (iD (x.2.2:Nat))),(5,.own κ 9 1 (x.2.1.map fun t=>[sD t]))]) [] (fun _ _=>[]) [16] (fun κ x=>[(κ,some (x.2.1.length,9,1))]) (fun x:Nat × List ByteArray × Nat=>x.1≤s.size+1∧(x.1≤s.size→x.2.1=(splG s c x.1).1∧x.2.2=(splG s c x.1).2)∧(x.1=s.size+1→x.2.1=splT s c)∧x.2.1.length≤x.1∧(x.1≤s.size→x.2.2≤x.1)) (fun x=>s.size+1 - x.1) ((0,[],0)) hks (fun _=>rfl) ⟨Nat.zero_le _,fun _=>⟨rfl,rfl⟩,fun h=>by simp at h,Nat.le_refl _,fun _=>Nat.le_refl _⟩ wkS ?_;intro x hx;refine headS ?_
 obtain ⟨k,acc,from_⟩:=x
 simp only at hx ⊢
 obtain ⟨hx1,hx2,hx3,hx4,hx5⟩:=hx
 refine walkS ?_
 refine aw_condS rfl (fun hk=>?_) (fun hk=>?_)
 ·have hkl:k≤s.size:=by omega
  obtain ⟨q1,q2⟩:=hx2 hkl
  have hx5:=hx5 hkl
  have e6:IntKind.i64.wrap ((k:Int)+1)=((k+1:Nat):Int):=by rw [wrap_small (by omega) (by omega)];omega
  by_cases hks:k=s.size
  ·have w0:(((k:Nat):Int)==((s.size:Nat):Int))=true:=by rw [hks];exact beq_self_eq_true _
   (repeat (first|refine ctlS ?_|(refine ol_go ?_ (fun K1 hK1=>?_);exact trS;refine evS ?_;(try simp only [w0,e6]);refine hK1 _ _ ?_;clear hK1 K1)|(refine ow_go ?_ dsS (fun K1 hK1=>?_);exact trS;refine evS ?_;(try simp only [w0,e6]);refine hK1 _ ?_;clear hK1 K1)|refine skipS ?_|refine aw_condT rfl ?_|refine aw_condF rfl ?_))
   refine ⟨(k+1,acc++[s.extract from_ k],k+1),⟨by simp only;omega,fun h=>by simp only at h;omega,fun _=>?_,by simp only [List.length_append,List.length_singleton];omega,fun h=>by simp only at h;omega⟩,by simp only;omega,?_⟩
   ·rw [hT,q1,q2,hks]
   exact wkS
  ·have hxl:k<s.size:=by omega
   have w0:(((k:Nat):Int)==((s.size:Nat):Int))=false:=by rw [beq_eq_false_iff_ne];omega
   have i1:s[k]?=some s[k]:=getElem?_pos s k hxl
   by_cases hc:s[k]=c
   ·have hst:=splG_hit' hxl hc
    have w1:(((s[k].toNat:Nat):Int)==((c.toNat:Nat):Int))=true:=by rw [hc];exact beq_self_eq_true _
    (repeat (first|refine ctlS ?_|(refine ol_go ?_ (fun K1 hK1=>?_);exact trS;refine evS ?_;(first|refine ⟨_,i1,?_⟩|skip);(try simp only [w0,w1,e6]);refine hK1 _ _ ?_;clear hK1 K1)|(refine ow_go ?_ dsS (fun K1 hK1=>?_);exact trS;refine evS ?_;(first|refine ⟨_,i1,?_⟩|skip);(try simp only [w0,w1,e6]);refine hK1 _ ?_;clear hK1 K1)|refine skipS ?_|refine aw_condT rfl ?_|refine aw_condF rfl ?_))
    refine ⟨(k+1,acc++[s.extract from_ k],k+1),⟨by simp only;omega,fun _=>?_,fun h=>by simp only at h;omega,by simp only [List.length_append,List.length_singleton];omega,fun _=>Nat.le_refl _⟩,by simp only;omega,?_⟩
    ·simp only
     rw [hst,q1,q2]
     exact ⟨rfl,rfl⟩
    exact wkS
   ·have hst:=splG_not hxl hc
    have w1:(((s[k].toNat:Nat):Int)==((c.toNat:Nat):Int))=false:=by rw [beq_eq_false_iff_ne];exact fun h=>hc (UInt8.toNat_inj.1 (by omega))
    (repeat (first|refine ctlS ?_|(refine ol_go ?_ (fun K1 hK1=>?_);exact trS;refine evS ?_;(first|refine ⟨_,i1,?_⟩|skip);(try simp only [w0,w1,e6]);refine hK1 _ _ ?_;clear hK1 K1)|(refine ow_go ?_ dsS (fun K1 hK1=>?_);exact trS;refine evS ?_;(first|refine ⟨_,i1,?_⟩|skip);(try simp only [w0,w1,e6]);refine hK1 _ ?_;clear hK1 K1)|refine skipS ?_|refine aw_condT rfl ?_|refine aw_condF rfl ?_))
    refine ⟨(k+1,acc,from_),⟨by simp only;omega,fun _=>?_,fun h=>by simp only at h;omega,by simp only;omega,fun _=>by simp only;omega⟩,by simp only;omega,?_⟩
    ·simp only
     rw [hst]
     exact ⟨q1,q2⟩
    exact wkS
 ·have hk1:k=s.size+1:=by omega
  rw [←hx3 hk1]
  refine walkS ?_
  (refine rtS Tryz.results147 ?_;exact ⟨_,_,.inl (toZ_own (by simp [lk,St.mem])),by simp,rfl⟩)
theorem stepSp_c {s:ByteArray} (hs:s.size≤1048576):AC Tryz.prog 148 [.d (sD s)] none (fun r' _=>r'=.d (bD (stepP s))):=by
 have H1:=isNameS_c hs
 have H2:=parS_c hs
 unfold stepP
 generalize hn:isName s=n at *
 generalize h1:decide (s=⟨#[42]⟩)=c1
 generalize h2:decide (s=⟨#[63]⟩)=c2
 generalize h3:decide (s=⟨#[43]⟩)=c3
 cases n
 ·cases c1
  ·cases c2
   ·cases c3
    ·cases hp:parP s with
     | none=>
      rw [hp] at H2
      have H2':AC Tryz.prog 172 [.d (sD s)] none (fun r' _=>r'=.d (.tup [iD 0,bD false])):=H2
      refine cbS Tryz.func148 rfl Tryz.call148 Tryz.ntmps148 fun en hsz hks hk0=>?_;refine enS ?_
      (repeat (first|refine ctlS ?_|(refine ol_go ?_ (fun K1 hK1=>?_);exact trS;refine evS ?_;(try simp only [h1,h2,h3]);refine hK1 _ _ ?_;clear hK1 K1)|(refine ow_go ?_ dsS (fun K1 hK1=>?_);exact trS;refine evS ?_;(try simp only [h1,h2,h3]);refine hK1 _ ?_;clear hK1 K1)|refine skipS ?_|refine cS (H1) ?_|refine cS (H2') ?_|refine aw_condT rfl ?_|refine aw_condF rfl ?_))
      (refine rtS Tryz.results148 ?_;exact ⟨_,_,.inl ⟨rfl,rfl⟩,List.nodup_nil,rfl⟩)
     | some k=>
      rw [hp] at H2
      have H2':AC Tryz.prog 172 [.d (sD s)] none (fun r' _=>r'=.d (.tup [iD (k:Nat),bD true])):=H2
      have hk:=(parP_some hp).1
      have H3:=fmtS_c (n:=k) (by omega)
      have w1:decide (fmtN k=s)=true:=decide_eq_true ((fmt_par hk).2 hp)
      refine cbS Tryz.func148 rfl Tryz.call148 Tryz.ntmps148 fun en hsz hks hk0=>?_;refine enS ?_
      (repeat (first|refine ctlS ?_|(refine ol_go ?_ (fun K1 hK1=>?_);exact trS;refine evS ?_;(try simp only [h1,h2,h3,w1]);refine hK1 _ _ ?_;clear hK1 K1)|(refine ow_go ?_ dsS (fun K1 hK1=>?_);exact trS;refine evS ?_;(try simp only [h1,h2,h3,w1]);refine hK1 _ ?_;clear hK1 K1)|refine skipS ?_|refine cS (H1) ?_|refine cS (H2') ?_|refine cS (H3) ?_|refine aw_condT rfl ?_|refine aw_condF rfl ?_))
      (refine rtS Tryz.results148 ?_;exact ⟨_,_,.inl ⟨rfl,rfl⟩,List.nodup_nil,rfl⟩)
    ·refine cbS Tryz.func148 rfl Tryz.call148 Tryz.ntmps148 fun en hsz hks hk0=>?_;refine enS ?_
     (repeat (first|refine ctlS ?_|(refine ol_go ?_ (fun K1 hK1=>?_);exact trS;refine evS ?_;(try simp only [h1,h2,h3]);refine hK1 _ _ ?_;clear hK1 K1)|(refine ow_go ?_ dsS (fun K1 hK1=>?_);exact trS;refine evS ?_;(try simp only [h1,h2,h3]);refine hK1 _ ?_;clear hK1 K1)|refine skipS ?_|refine cS (H1) ?_|refine aw_condT rfl ?_|refine aw_condF rfl ?_))
     (refine rtS Tryz.results148 ?_;exact ⟨_,_,.inl ⟨rfl,rfl⟩,List.nodup_nil,by simp⟩)
   ·refine cbS Tryz.func148 rfl Tryz.call148 Tryz.ntmps148 fun en hsz hks hk0=>?_;refine enS ?_
    (repeat (first|refine ctlS ?_|(refine ol_go ?_ (fun K1 hK1=>?_);exact trS;refine evS ?_;(try simp only [h1,h2]);refine hK1 _ _ ?_;clear hK1 K1)|(refine ow_go ?_ dsS (fun K1 hK1=>?_);exact trS;refine evS ?_;(try simp only [h1,h2]);refine hK1 _ ?_;clear hK1 K1)|refine skipS ?_|refine cS (H1) ?_|refine aw_condT rfl ?_|refine aw_condF rfl ?_))
    (refine rtS Tryz.results148 ?_;exact ⟨_,_,.inl ⟨rfl,rfl⟩,List.nodup_nil,by simp⟩)
  ·refine cbS Tryz.func148 rfl Tryz.call148 Tryz.ntmps148 fun en hsz hks hk0=>?_;refine enS ?_
   (repeat (first|refine ctlS ?_|(refine ol_go ?_ (fun K1 hK1=>?_);exact trS;refine evS ?_;(try simp only [h1]);refine hK1 _ _ ?_;clear hK1 K1)|(refine ow_go ?_ dsS (fun K1 hK1=>?_);exact trS;refine evS ?_;(try simp only [h1]);refine hK1 _ ?_;clear hK1 K1)|refine skipS ?_|refine cS (H1) ?_|refine aw_condT rfl ?_|refine aw_condF rfl ?_))
   (refine rtS Tryz.results148 ?_;exact ⟨_,_,.inl ⟨rfl,rfl⟩,List.nodup_nil,by simp⟩)
 ·refine cbS Tryz.func148 rfl Tryz.call148 Tryz.ntmps148 fun en hsz hks hk0=>?_;refine enS ?_
  (repeat (first|refine walkS ?_|refine cS (H1) ?_|refine aw_condT rfl ?_|refine aw_condF rfl ?_))
  (refine rtS Tryz.results148 ?_;exact ⟨_,_,.inl ⟨rfl,rfl⟩,List.nodup_nil,by simp⟩)
theorem stepIm_c {s:ByteArray} (hs:s.size≤1048576):AC Tryz.prog 152 [.d (sD s)] none (fun r' _=>r'=.d (bD (stepP s))):=by
 have H1:=isNameI_c hs
 have H2:=parI_c hs
 unfold stepP
 generalize hn:isName s=n at *
 generalize h1:decide (s=⟨#[42]⟩)=c1
 generalize h2:decide (s=⟨#[63]⟩)=c2
 generalize h3:decide (s=⟨#[43]⟩)=c3
 generalize parP s=o at *
 cases n
 ·cases c1
  ·cases c2
   ·cases c3
    ·refine cbS Tryz.func152 rfl Tryz.call152 Tryz.ntmps152 fun en hsz hks hk0=>?_;refine enS ?_
     (repeat (first|refine ctlS ?_|(refine ol_go ?_ (fun K1 hK1=>?_);exact trS;refine evS ?_;(try simp only [h1,h2,h3]);refine hK1 _ _ ?_;clear hK1 K1)|(refine ow_go ?_ dsS (fun K1 hK1=>?_);exact trS;refine evS ?_;(try simp only [h1,h2,h3]);refine hK1 _ ?_;clear hK1 K1)|refine skipS ?_|refine cS (H1) ?_|refine cS (H2) ?_|refine aw_condT rfl ?_|refine aw_condF rfl ?_))
     (refine rtS Tryz.results152 ?_;exact ⟨_,_,.inl ⟨rfl,rfl⟩,List.nodup_nil,by simp⟩)
    ·refine cbS Tryz.func152 rfl Tryz.call152 Tryz.ntmps152 fun en hsz hks hk0=>?_;refine enS ?_
     (repeat (first|refine ctlS ?_|(refine ol_go ?_ (fun K1 hK1=>?_);exact trS;refine evS ?_;(try simp only [h1,h2,h3]);refine hK1 _ _ ?_;clear hK1 K1)|(refine ow_go ?_ dsS (fun K1 hK1=>?_);exact trS;refine evS ?_;(try simp only [h1,h2,h3]);refine hK1 _ ?_;clear hK1 K1)|refine skipS ?_|refine cS (H1) ?_|refine aw_condT rfl ?_|refine aw_condF rfl ?_))
     (refine rtS Tryz.results152 ?_;exact ⟨_,_,.inl ⟨rfl,rfl⟩,List.nodup_nil,by simp⟩)
   ·refine cbS Tryz.func152 rfl Tryz.call152 Tryz.ntmps152 fun en hsz hks hk0=>?_;refine enS ?_
    (repeat (first|refine ctlS ?_|(refine ol_go ?_ (fun K1 hK1=>?_);exact trS;refine evS ?_;(try simp only [h1,h2]);refine hK1 _ _ ?_;clear hK1 K1)|(refine ow_go ?_ dsS (fun K1 hK1=>?_);exact trS;refine evS ?_;(try simp only [h1,h2]);refine hK1 _ ?_;clear hK1 K1)|refine skipS ?_|refine cS (H1) ?_|refine aw_condT rfl ?_|refine aw_condF rfl ?_))
    (refine rtS Tryz.results152 ?_;exact ⟨_,_,.inl ⟨rfl,rfl⟩,List.nodup_nil,by simp⟩)
  ·refine cbS Tryz.func152 rfl Tryz.call152 Tryz.ntmps152 fun en hsz hks hk0=>?_;refine enS ?_
   (repeat (first|refine ctlS ?_|(refine ol_go ?_ (fun K1 hK1=>?_);exact trS;refine evS ?_;(try simp only [h1]);refine hK1 _ _ ?_;clear hK1 K1)|(refine ow_go ?_ dsS (fun K1 hK1=>?_);exact trS;refine evS ?_;(try simp only [h1]);refine hK1 _ ?_;clear hK1 K1)|refine skipS ?_|refine cS (H1) ?_|refine aw_condT rfl ?_|refine aw_condF rfl ?_))
   (refine rtS Tryz.results152 ?_;exact ⟨_,_,.inl ⟨rfl,rfl⟩,List.nodup_nil,by simp⟩)
 ·refine cbS Tryz.func152 rfl Tryz.call152 Tryz.ntmps152 fun en hsz hks hk0=>?_;refine enS ?_
  (repeat (first|refine walkS ?_|refine cS (H1) ?_|refine aw_condT rfl ?_|refine aw_condF rfl ?_))
  (refine rtS Tryz.results152 ?_;exact ⟨_,_,.inl ⟨rfl,rfl⟩,List.nodup_nil,by simp⟩)
end Go.Proofs.YtomfggmmhkpeeaaGreatDoor.Eng
namespace Go.Proofs.YtomfggmmhkpeeaaGreatDoor.Eng
open Go Go.RowKit Go.Shelf
attribute [local go_sem] Oper.semAt_some

abbrev Tx:={ x:ByteArray // x.size≤1048576 }
theorem tx_of {L:List ByteArray} (h:∀ x∈L,x.size≤1048576):∃ Ls:List Tx,Ls.map Subtype.val=L:=⟨L.attach.map fun x=>⟨x.1,h x.1 x.2⟩,by simp⟩
def tx0:Tx:=⟨ByteArray.empty,by decide⟩
theorem stepsIt {s:ByteArray} (hs:s.size≤1048576) {n:Nat}{w:World}{C:CellR} (hC:Cok C w) {n₀ B Bp:Nat} (h0n:n₀≤w.heap.size) (hB:B<w.heap.size) (hBm:∀ k,w.heap.size≤k→¬MineB w B k) (hBp:Bp<w.heap.size) (hp:w.cell? ⟨Bp,0,none⟩=some (.string s)) {L:List Tx} (hLd:L.map Subtype.val=(splT s 47).drop 1) :
  SeqStopsK Fence.wide n Tryz.prog 186 #[.pointer (some ⟨Bp,0,none⟩)] (fun x:Tx=>#[Value.string x.1]) (KpW n₀ w.heap.size B) (fun xs=>xs=L) (fun pre=>pre <+: L) L.length w:=fun l J Jx W hW hJ hJx hY h0=>by
 have hp':=(hW.cell (p:=⟨Bp,0,none⟩) hBp).trans hp
 have hCW:=hC.below hW
 have hT:=splT_len s 47
 obtain ⟨m,hm⟩:∃ m,(splT s 47).length=m+1:=⟨(splT s 47).length - 1,by simp [splT]⟩
 have hS:=AC.rowTx (splI_c hs 47) (by omega) hCW (vs:=[.string s,.int .u8 47]) repL_v2
 have hLl:L.length=m:=by
  have:=congrArg List.length hLd
  rw [List.length_map,List.length_drop] at this
  omega
 have hL:∀ j (hj:j<L.length),(splT s 47)[1+j]?=some L[j].1:=fun j hj=>by
  rw [←List.getElem?_drop,←hLd,List.getElem?_map,List.getElem?_eq_getElem hj]
  rfl
 rw [hLl] at hY
 clear hLd
 generalize splT s 47=T at *
 rw [hm] at hS
 refine callsIn_of_wp Tryz.func186 rfl trivial ?_ rfl
 simp only [Tryz.ntmps186,List.size_toArray,List.length_cons,List.length_nil,Nat.reduceAdd,Nat.reduceSub,Array.replicate_succ,Array.replicate_zero,List.push_toArray,List.append_toArray,List.nil_append,List.cons_append]
 gi_wp2_with (refine ⟨trivial,(fun h=>by cases h),?_⟩;refine (callsIn_wide.2 hS).mono ?_;rintro e W1 ⟨g,cap,rfl,hg,hcap1,hcap2,hcells,hb1⟩)
 all_goals
  have hJ1:J [] W1:=hJ [] W W1 none h0 (below_grow0 hb1 (Nat.le_refl _)) (fun r e=>by cases e)
  have hg0:=hcells 0 _ (List.getElem?_eq_getElem (by omega))
  obtain ⟨og,hog,hogc⟩:=cells_of_cell hg0
  have hm1:¬MineB W1 B g:=fun ⟨n1,c1,h1⟩=>by
   refine hBm g (Nat.le_trans hW.size hg) ⟨n1,c1,?_⟩
   rw [←h1]
   exact ((World.cell?_of_block (a:=⟨B,0,none⟩) ((hb1.block B (Nat.lt_of_lt_of_le hB hW.size)).trans (hW.block B hB))).symm)
  gi_loopw [9] (fun i wr=>∃ k:Nat,k≤m∧i=.int .i64 k∧J (upto (fun j=>L[j]?.getD tx0) k) wr∧KpW n₀ w.heap.size B W1 wr)
   (fun i _=>m - (intOf i).toNat)
  case atStart=>exact ⟨0,Nat.zero_le _,rfl,hJ1,KpW.refl _ _ _ _⟩
  case round=>
   obtain ⟨k,hk,rfl,hJs,hnx⟩:=hrel
   have hrow:=hnx.new g og (Nat.le_trans hW.size hg) hog hogc hm1
   have hcx:k<m→wr.cell? ⟨g,1+k,none⟩=some (.string (L[k]?.getD tx0).1):=fun h=>by
    rw [World.cell?_of_block (w:=W1) (a:=⟨g,1+k,none⟩) (hrow.1.trans hog.symm)]
    refine hcells (1+k) _ ?_
    rw [hL k (by omega)]
    simp [show k<L.length by omega]
   by_cases hlt:k<m
   ·first
    | (exfalso;omega)
    | (have hkL:k<L.length:=by omega
       have hxk:L[k]?.getD tx0=L[k]:=by simp [hkL]
       obtain ⟨fn,tmps,assign,body,hy,hR⟩:=hY _ L[k] wr hJs (by rw [upto_length];exact hlt)
       try dsimp only at hy
       have hcx':=hcx hlt
       rw [hxk] at hcx'
       have hsucc:upto (fun j=>L[j]?.getD tx0) (k+1)=upto (fun j=>L[j]?.getD tx0) k++[L[k]]:=by rw [upto_succ,hxk]
       gi_wp2
       refine ⟨(fun h=>by cases h),hR.mono ?_⟩
       rintro e W3 (⟨rfl,hJ3,hk3⟩|⟨rfl,hJx3⟩)
       ·gi_wp2
        go_roundw
        case rel=>exact ⟨k+1,by omega,by simp,by rw [hsucc];exact hJ3,hnx.trans hk3⟩
        case measure=>simp [intOf];omega
       ·gi_wp2
        refine bodyPost_ret (results_none rfl _ _ _) rfl ?_
        exact ⟨⟨_,rfl⟩,.inr ⟨_,by
         have:=upto_take (zs:=L) (d:=tx0) (k:=k+1) (by omega)
         rw [hsucc] at this
         rw [this]
         exact List.take_prefix _ _,hJx3⟩⟩)
   ·obtain rfl:k=m:=by omega
    gi_wp2
    go_end0
    have hup:=upto_take (zs:=L) (d:=tx0) (k:=k) (by omega)
    rw [List.take_of_length_le (by omega)] at hup
    rw [hup] at hJs
    exact ⟨⟨_,rfl⟩,.inl hJs⟩
end Go.Proofs.YtomfggmmhkpeeaaGreatDoor.Eng
