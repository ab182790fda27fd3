/-
 Texts: parts between separators, steps of paths (both sides).
-/
import Derived.Test.YtecdbogicpffeaaKNT1
set_option linter.unusedSimpArgs false
set_option linter.unusedVariables false
set_option linter.defProp false
set_option maxRecDepth 100000
set_option maxHeartbeats 4000000
namespace Go.Proofs.Ytecdbogicpffeaa.Eng
open Go Go.RowKit

theorem splG_hit' {s:ByteArray}{c:UInt8}{n:Nat} (hn:n<s.size) (h:s[n]=c):splG s c (n+1)=((splG s c n).1++[s.extract (splG s c n).2 n],n+1):=by
 rw [splG,if_pos (by rw [getElem?_pos s n hn,h])]
theorem splG_not {s:ByteArray}{c:UInt8}{n:Nat} (hn:n<s.size) (h:s[n]≠c):splG s c (n+1)=splG s c n:=by
 rw [splG,if_neg (by rw [getElem?_pos s n hn];exact fun e=>h (Option.some.inj e))]
abbrev rowS (l:List ByteArray):List (List Eng.D):=l.map fun t=>[sD t]
private def tyF:=ai (ai tg54 tg3) (ai tg5 tg9)
theorem splI_c {s:ByteArray} (hs:s.size≤1048576) (c:UInt8):AC Try.prog 186 [.d (sD s),.d (uD c)] none (fun r' _=>r'=.own 9 1 (rowS (splT s c))):=by
 unfold splT
 refine cbS Try.func186 rfl Try.call186 Try.ntmps186 fun en hsz hks hk0=>?_;refine enS ?_
 refine walkS ?_
 refine aw_loopS [0,1,4] (fun κ s'=>[(κ,keyOf (s'.f 5))]) (fun κ x=>[(7,.d (iD (x.1:Nat))),(6,.d (iD ((splG s c x.1).2:Nat))),(5,.own κ 9 1 (x.2.map fun t=>[sD t]))]) [] (fun _ _=>[]) [16] (fun κ x=>[(κ,some (x.2.length,9,1))]) (fun x:Nat × List ByteArray=>x.1≤s.size∧x.2=(splG s c x.1).1) (fun x=>s.size - x.1) ((0,[])) hks (fun _=>rfl) ⟨Nat.zero_le _,rfl⟩ wkS ?_;intro x hx;refine headS ?_
 obtain ⟨k,acc⟩:=x
 simp only at hx ⊢
 obtain ⟨hx1,rfl⟩:=hx
 have hlen:=splG_len s c k
 have hle:=splG_le s c k
 refine walkS ?_
 refine aw_condS rfl (fun hk=>?_) (fun hk=>?_)
 ·have hxl:k<s.size:=by omega
  have i1:s[k]?=some s[k]:=getElem?_pos s k hxl
  have e6:IntKind.i64.wrap ((k:Int)+1)=((k+1:Nat):Int):=by rw [wrap_small (by omega) (by omega)];omega
  by_cases hc:s[k]=c
  ·have hst:=splG_hit' hxl hc
   have w1:(((s[k].toNat:Nat):Int)==((c.toNat:Nat):Int))=true:=by rw [hc];exact beq_self_eq_true _
   generalize hg:splG s c (k+1)=g1 at *
   generalize splG s c k=g at *
   (repeat (first|refine ctlS ?_|(refine ol_go ?_ (fun K1 hK1=>?_);exact trS;refine evS ?_;(first|refine ⟨_,i1,?_⟩|skip);(try simp only [w1,e6]);refine hK1 _ _ ?_;clear hK1 K1)|(refine ow_go ?_ dsS (fun K1 hK1=>?_);exact trS;refine evS ?_;(first|refine ⟨_,i1,?_⟩|skip);(try simp only [w1,e6]);refine hK1 _ ?_;clear hK1 K1)|refine skipS ?_|refine aw_condT rfl ?_|refine aw_condF rfl ?_))
   refine ⟨(k+1,g.1++[s.extract g.2 k]),⟨by simp only;omega,by simp only [hg,hst]⟩,by simp only;omega,?_⟩
   simp only [hg,hst]
   exact wkS
  ·have hst:=splG_not hxl hc
   have w1:(((s[k].toNat:Nat):Int)==((c.toNat:Nat):Int))=false:=by rw [beq_eq_false_iff_ne];exact fun h=>hc (UInt8.toNat_inj.1 (by omega))
   generalize hg:splG s c (k+1)=g1 at *
   generalize splG s c k=g at *
   (repeat (first|refine ctlS ?_|(refine ol_go ?_ (fun K1 hK1=>?_);exact trS;refine evS ?_;(first|refine ⟨_,i1,?_⟩|skip);(try simp only [w1,e6]);refine hK1 _ _ ?_;clear hK1 K1)|(refine ow_go ?_ dsS (fun K1 hK1=>?_);exact trS;refine evS ?_;(first|refine ⟨_,i1,?_⟩|skip);(try simp only [w1,e6]);refine hK1 _ ?_;clear hK1 K1)|refine skipS ?_|refine aw_condT rfl ?_|refine aw_condF rfl ?_))
   refine ⟨(k+1,g.1),⟨by simp only;omega,by simp only [hg,hst]⟩,by simp only;omega,?_⟩
   simp only [hg,hst]
   exact wkS
 ·obtain rfl:k=s.size:=by omega
  generalize splG s c s.size=g at *
  refine walkS ?_
  (refine rtS Try.results186 ?_;exact ⟨_,_,.inl (toZ_own (by simp [lk,St.mem])),by simp,by simp⟩)
theorem splS_c {s:ByteArray} (hs:s.size≤1048576) (c:UInt8):AC Try.prog 122 [.d (sD s),.d (uD c)] none (fun r' _=>r'=.own 9 1 (rowS (splT s c))):=by
 have hT:splT s c=(splG s c s.size).1++[s.extract (splG s c s.size).2 s.size]:=rfl
 refine cbS Try.func122 rfl Try.call122 Try.ntmps122 fun en hsz hks hk0=>?_;refine enS ?_
 refine walkS ?_
 refine aw_loopS [0,1,4] (fun κ s'=>[(κ,keyOf (s'.f 5))]) (fun κ x=>[(7,.d (iD (x.1:Nat))),(6,.d (iD (x.2.2:Nat))),(5,.own κ 9 1 (x.2.1.map fun t=>[sD t]))]) [] (fun _ _=>[]) [16] (fun κ x=>[(κ,some (x.2.1.length,9,1))]) (fun x:Nat × List ByteArray × Nat=>x.1≤s.size+1∧(x.1≤s.size→x.2.1=(splG s c x.1).1∧x.2.2=(splG s c x.1).2)∧(x.1=s.size+1→x.2.1=splT s c)∧x.2.1.length≤x.1∧(x.1≤s.size→x.2.2≤x.1)) (fun x=>s.size+1 - x.1) ((0,[],0)) hks (fun _=>rfl) ⟨Nat.zero_le _,fun _=>⟨rfl,rfl⟩,fun h=>by simp at h,Nat.le_refl _,fun _=>Nat.le_refl _⟩ wkS ?_;intro x hx;refine headS ?_
 obtain ⟨k,acc,from_⟩:=x
 simp only at hx ⊢
 obtain ⟨hx1,hx2,hx3,hx4,hx5⟩:=hx
 refine walkS ?_
 refine aw_condS rfl (fun hk=>?_) (fun hk=>?_)
 ·have hkl:k≤s.size:=by omega
  obtain ⟨q1,q2⟩:=hx2 hkl
  have hx5:=hx5 hkl
  have e6:IntKind.i64.wrap ((k:Int)+1)=((k+1:Nat):Int):=by rw [wrap_small (by omega) (by omega)];omega
  by_cases hks:k=s.size
  ·have w0:(((k:Nat):Int)==((s.size:Nat):Int))=true:=by rw [hks];exact beq_self_eq_true _
   (repeat (first|refine ctlS ?_|(refine ol_go ?_ (fun K1 hK1=>?_);exact trS;refine evS ?_;(try simp only [w0,e6]);refine hK1 _ _ ?_;clear hK1 K1)|(refine ow_go ?_ dsS (fun K1 hK1=>?_);exact trS;refine evS ?_;(try simp only [w0,e6]);refine hK1 _ ?_;clear hK1 K1)|refine skipS ?_|refine aw_condT rfl ?_|refine aw_condF rfl ?_))
   refine ⟨(k+1,acc++[s.extract from_ k],k+1),⟨by simp only;omega,fun h=>by simp only at h;omega,fun _=>?_,by simp only [List.length_append,List.length_singleton];omega,fun h=>by simp only at h;omega⟩,by simp only;omega,?_⟩
   ·rw [hT,q1,q2,hks]
   exact wkS
  ·have hxl:k<s.size:=by omega
   have w0:(((k:Nat):Int)==((s.size:Nat):Int))=false:=by rw [beq_eq_false_iff_ne];omega
   have i1:s[k]?=some s[k]:=getElem?_pos s k hxl
   by_cases hc:s[k]=c
   ·have hst:=splG_hit' hxl hc
    have w1:(((s[k].toNat:Nat):Int)==((c.toNat:Nat):Int))=true:=by rw [hc];exact beq_self_eq_true _
    (repeat (first|refine ctlS ?_|(refine ol_go ?_ (fun K1 hK1=>?_);exact trS;refine evS ?_;(first|refine ⟨_,i1,?_⟩|skip);(try simp only [w0,w1,e6]);refine hK1 _ _ ?_;clear hK1 K1)|(refine ow_go ?_ dsS (fun K1 hK1=>?_);exact trS;refine evS ?_;(first|refine ⟨_,i1,?_⟩|skip);(try simp only [w0,w1,e6]);refine hK1 _ ?_;clear hK1 K1)|refine skipS ?_|refine aw_condT rfl ?_|refine aw_condF rfl ?_))
    refine ⟨(k+1,acc++[s.extract from_ k],k+1),⟨by simp only;omega,fun _=>?_,fun h=>by simp only at h;omega,by simp only [List.length_append,List.length_singleton];omega,fun _=>Nat.le_refl _⟩,by simp only;omega,?_⟩
    ·simp only
     rw [hst,q1,q2]
     exact ⟨rfl,rfl⟩
    exact wkS
   ·have hst:=splG_not hxl hc
    have w1:(((s[k].toNat:Nat):Int)==((c.toNat:Nat):Int))=false:=by rw [beq_eq_false_iff_ne];exact fun h=>hc (UInt8.toNat_inj.1 (by omega))
    (repeat (first|refine ctlS ?_|(refine ol_go ?_ (fun K1 hK1=>?_);exact trS;refine evS ?_;(first|refine ⟨_,i1,?_⟩|skip);(try simp only [w0,w1,e6]);refine hK1 _ _ ?_;clear hK1 K1)|(refine ow_go ?_ dsS (fun K1 hK1=>?_);exact trS;refine evS ?_;(first|refine ⟨_,i1,?_⟩|skip);(try simp only [w0,w1,e6]);refine hK1 _ ?_;clear hK1 K1)|refine skipS ?_|refine aw_condT rfl ?_|refine aw_condF rfl ?_))
    refine ⟨(k+1,acc,from_),⟨by simp only;omega,fun _=>?_,fun h=>by simp only at h;omega,by simp only;omega,fun _=>by simp only;omega⟩,by simp only;omega,?_⟩
    ·simp only
     rw [hst]
     exact ⟨q1,q2⟩
    exact wkS
 ·have hk1:k=s.size+1:=by omega
  rw [←hx3 hk1]
  refine walkS ?_
  (refine rtS Try.results122 ?_;exact ⟨_,_,.inl (toZ_own (by simp [lk,St.mem])),by simp,rfl⟩)
theorem stepSp_c {s:ByteArray} (hs:s.size≤1048576):AC Try.prog 123 [.d (sD s)] none (fun r' _=>r'=.d (bD (stepP s))):=by
 have H1:=isNameS_c hs
 have H2:=parS_c hs
 unfold stepP
 generalize hn:isName s=n at *
 generalize h1:decide (s=⟨#[42]⟩)=c1
 generalize h2:decide (s=⟨#[63]⟩)=c2
 generalize h3:decide (s=⟨#[43]⟩)=c3
 cases n
 ·cases c1
  ·cases c2
   ·cases c3
    ·cases hp:parP s with
     | none=>
      rw [hp] at H2
      have H2':AC Try.prog 157 [.d (sD s)] none (fun r' _=>r'=.d (.tup [iD 0,bD false])):=H2
      refine cbS Try.func123 rfl Try.call123 Try.ntmps123 fun en hsz hks hk0=>?_;refine enS ?_
      (repeat (first|refine ctlS ?_|(refine ol_go ?_ (fun K1 hK1=>?_);exact trS;refine evS ?_;(try simp only [h1,h2,h3]);refine hK1 _ _ ?_;clear hK1 K1)|(refine ow_go ?_ dsS (fun K1 hK1=>?_);exact trS;refine evS ?_;(try simp only [h1,h2,h3]);refine hK1 _ ?_;clear hK1 K1)|refine skipS ?_|refine cS (H1) ?_|refine cS (H2') ?_|refine aw_condT rfl ?_|refine aw_condF rfl ?_))
      (refine rtS Try.results123 ?_;exact ⟨_,_,.inl ⟨rfl,rfl⟩,List.nodup_nil,rfl⟩)
     | some k=>
      rw [hp] at H2
      have H2':AC Try.prog 157 [.d (sD s)] none (fun r' _=>r'=.d (.tup [iD (k:Nat),bD true])):=H2
      have hk:=(parP_some hp).1
      have H3:=fmtS_c (n:=k) (by omega)
      have w1:decide (fmtN k=s)=true:=decide_eq_true ((fmt_par hk).2 hp)
      refine cbS Try.func123 rfl Try.call123 Try.ntmps123 fun en hsz hks hk0=>?_;refine enS ?_
      (repeat (first|refine ctlS ?_|(refine ol_go ?_ (fun K1 hK1=>?_);exact trS;refine evS ?_;(try simp only [h1,h2,h3,w1]);refine hK1 _ _ ?_;clear hK1 K1)|(refine ow_go ?_ dsS (fun K1 hK1=>?_);exact trS;refine evS ?_;(try simp only [h1,h2,h3,w1]);refine hK1 _ ?_;clear hK1 K1)|refine skipS ?_|refine cS (H1) ?_|refine cS (H2') ?_|refine cS (H3) ?_|refine aw_condT rfl ?_|refine aw_condF rfl ?_))
      (refine rtS Try.results123 ?_;exact ⟨_,_,.inl ⟨rfl,rfl⟩,List.nodup_nil,rfl⟩)
    ·refine cbS Try.func123 rfl Try.call123 Try.ntmps123 fun en hsz hks hk0=>?_;refine enS ?_
     (repeat (first|refine ctlS ?_|(refine ol_go ?_ (fun K1 hK1=>?_);exact trS;refine evS ?_;(try simp only [h1,h2,h3]);refine hK1 _ _ ?_;clear hK1 K1)|(refine ow_go ?_ dsS (fun K1 hK1=>?_);exact trS;refine evS ?_;(try simp only [h1,h2,h3]);refine hK1 _ ?_;clear hK1 K1)|refine skipS ?_|refine cS (H1) ?_|refine aw_condT rfl ?_|refine aw_condF rfl ?_))
     (refine rtS Try.results123 ?_;exact ⟨_,_,.inl ⟨rfl,rfl⟩,List.nodup_nil,by simp⟩)
   ·refine cbS Try.func123 rfl Try.call123 Try.ntmps123 fun en hsz hks hk0=>?_;refine enS ?_
    (repeat (first|refine ctlS ?_|(refine ol_go ?_ (fun K1 hK1=>?_);exact trS;refine evS ?_;(try simp only [h1,h2]);refine hK1 _ _ ?_;clear hK1 K1)|(refine ow_go ?_ dsS (fun K1 hK1=>?_);exact trS;refine evS ?_;(try simp only [h1,h2]);refine hK1 _ ?_;clear hK1 K1)|refine skipS ?_|refine cS (H1) ?_|refine aw_condT rfl ?_|refine aw_condF rfl ?_))
    (refine rtS Try.results123 ?_;exact ⟨_,_,.inl ⟨rfl,rfl⟩,List.nodup_nil,by simp⟩)
  ·refine cbS Try.func123 rfl Try.call123 Try.ntmps123 fun en hsz hks hk0=>?_;refine enS ?_
   (repeat (first|refine ctlS ?_|(refine ol_go ?_ (fun K1 hK1=>?_);exact trS;refine evS ?_;(try simp only [h1]);refine hK1 _ _ ?_;clear hK1 K1)|(refine ow_go ?_ dsS (fun K1 hK1=>?_);exact trS;refine evS ?_;(try simp only [h1]);refine hK1 _ ?_;clear hK1 K1)|refine skipS ?_|refine cS (H1) ?_|refine aw_condT rfl ?_|refine aw_condF rfl ?_))
   (refine rtS Try.results123 ?_;exact ⟨_,_,.inl ⟨rfl,rfl⟩,List.nodup_nil,by simp⟩)
 ·refine cbS Try.func123 rfl Try.call123 Try.ntmps123 fun en hsz hks hk0=>?_;refine enS ?_
  (repeat (first|refine walkS ?_|refine cS (H1) ?_|refine aw_condT rfl ?_|refine aw_condF rfl ?_))
  (refine rtS Try.results123 ?_;exact ⟨_,_,.inl ⟨rfl,rfl⟩,List.nodup_nil,by simp⟩)
theorem stepIm_c {s:ByteArray} (hs:s.size≤1048576):AC Try.prog 128 [.d (sD s)] none (fun r' _=>r'=.d (bD (stepP s))):=by
 have H1:=isNameI_c hs
 have H2:=parI_c hs
 unfold stepP
 generalize hn:isName s=n at *
 generalize h1:decide (s=⟨#[42]⟩)=c1
 generalize h2:decide (s=⟨#[63]⟩)=c2
 generalize h3:decide (s=⟨#[43]⟩)=c3
 generalize parP s=o at *
 cases n
 ·cases c1
  ·cases c2
   ·cases c3
    ·refine cbS Try.func128 rfl Try.call128 Try.ntmps128 fun en hsz hks hk0=>?_;refine enS ?_
     (repeat (first|refine ctlS ?_|(refine ol_go ?_ (fun K1 hK1=>?_);exact trS;refine evS ?_;(try simp only [h1,h2,h3]);refine hK1 _ _ ?_;clear hK1 K1)|(refine ow_go ?_ dsS (fun K1 hK1=>?_);exact trS;refine evS ?_;(try simp only [h1,h2,h3]);refine hK1 _ ?_;clear hK1 K1)|refine skipS ?_|refine cS (H1) ?_|refine cS (H2) ?_|refine aw_condT rfl ?_|refine aw_condF rfl ?_))
     (refine rtS Try.results128 ?_;exact ⟨_,_,.inl ⟨rfl,rfl⟩,List.nodup_nil,by simp⟩)
    ·refine cbS Try.func128 rfl Try.call128 Try.ntmps128 fun en hsz hks hk0=>?_;refine enS ?_
     (repeat (first|refine ctlS ?_|(refine ol_go ?_ (fun K1 hK1=>?_);exact trS;refine evS ?_;(try simp only [h1,h2,h3]);refine hK1 _ _ ?_;clear hK1 K1)|(refine ow_go ?_ dsS (fun K1 hK1=>?_);exact trS;refine evS ?_;(try simp only [h1,h2,h3]);refine hK1 _ ?_;clear hK1 K1)|refine skipS ?_|refine cS (H1) ?_|refine aw_condT rfl ?_|refine aw_condF rfl ?_))
     (refine rtS Try.results128 ?_;exact ⟨_,_,.inl ⟨rfl,rfl⟩,List.nodup_nil,by simp⟩)
   ·refine cbS Try.func128 rfl Try.call128 Try.ntmps128 fun en hsz hks hk0=>?_;refine enS ?_
    (repeat (first|refine ctlS ?_|(refine ol_go ?_ (fun K1 hK1=>?_);exact trS;refine evS ?_;(try simp only [h1,h2]);refine hK1 _ _ ?_;clear hK1 K1)|(refine ow_go ?_ dsS (fun K1 hK1=>?_);exact trS;refine evS ?_;(try simp only [h1,h2]);refine hK1 _ ?_;clear hK1 K1)|refine skipS ?_|refine cS (H1) ?_|refine aw_condT rfl ?_|refine aw_condF rfl ?_))
    (refine rtS Try.results128 ?_;exact ⟨_,_,.inl ⟨rfl,rfl⟩,List.nodup_nil,by simp⟩)
  ·refine cbS Try.func128 rfl Try.call128 Try.ntmps128 fun en hsz hks hk0=>?_;refine enS ?_
   (repeat (first|refine ctlS ?_|(refine ol_go ?_ (fun K1 hK1=>?_);exact trS;refine evS ?_;(try simp only [h1]);refine hK1 _ _ ?_;clear hK1 K1)|(refine ow_go ?_ dsS (fun K1 hK1=>?_);exact trS;refine evS ?_;(try simp only [h1]);refine hK1 _ ?_;clear hK1 K1)|refine skipS ?_|refine cS (H1) ?_|refine aw_condT rfl ?_|refine aw_condF rfl ?_))
   (refine rtS Try.results128 ?_;exact ⟨_,_,.inl ⟨rfl,rfl⟩,List.nodup_nil,by simp⟩)
 ·refine cbS Try.func128 rfl Try.call128 Try.ntmps128 fun en hsz hks hk0=>?_;refine enS ?_
  (repeat (first|refine walkS ?_|refine cS (H1) ?_|refine aw_condT rfl ?_|refine aw_condF rfl ?_))
  (refine rtS Try.results128 ?_;exact ⟨_,_,.inl ⟨rfl,rfl⟩,List.nodup_nil,by simp⟩)
end Go.Proofs.Ytecdbogicpffeaa.Eng
