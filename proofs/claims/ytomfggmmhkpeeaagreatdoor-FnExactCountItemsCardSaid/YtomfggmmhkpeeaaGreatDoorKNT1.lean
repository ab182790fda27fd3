/-
 Texts: names, numbers, parts between separators (both sides).
-/
import Derived.Test.YtomfggmmhkpeeaaGreatDoorKPT4
import Derived.Test.YtomfggmmhkpeeaaGreatDoorKA
set_option linter.unusedSimpArgs false
set_option linter.unusedVariables false
set_option linter.defProp false
set_option maxRecDepth 100000
set_option maxHeartbeats 4000000
namespace Go.Proofs.YtomfggmmhkpeeaaGreatDoor.Eng
open Go Go.RowKit

theorem isNameS_c {s:ByteArray} (hs:s.size≤1048576):AC Tryz.prog 139 [.d (sD s)] none (fun r _=>r=.d (bD (isName s))):=by
 refine AC.of_flat Tryz.call139 fun w C vs hC hr=>?_
 obtain ⟨u,rfl,h1⟩:=rep1 hr
 unfold RepD at h1
 subst h1
 exact of_same (isNameS_any s w (by unfold maxLen;omega))
theorem isNameI_c {s:ByteArray} (hs:s.size≤1048576):AC Tryz.prog 141 [.d (sD s)] none (fun r _=>r=.d (bD (isName s))):=by
 refine AC.of_flat Tryz.call141 fun w C vs hC hr=>?_
 obtain ⟨u,rfl,h1⟩:=rep1 hr
 unfold RepD at h1
 subst h1
 exact isNameI_any s w (by unfold maxLen;omega)
theorem emp_no {s:ByteArray} (h:1≤s.size):decide (s=⟨#[]⟩)=false:=decide_eq_false fun e=>by
 subst e
 exact absurd h (by decide)
theorem emp_yes {s:ByteArray} (h:s.size=0):s=⟨#[]⟩:=by
 apply ByteArray.ext
 exact Array.eq_empty_of_size_eq_zero h
theorem u8_w (c:UInt8):IntKind.i64.wrap ((c.toNat:Nat):Int)=((c.toNat:Nat):Int):=by
 have:c.toNat<256:=c.toNat_lt
 exact wrap_small (by omega) (by omega)
abbrev parD (o:Option Nat):Eng.D:=.tup [iD ((o.getD 0:Nat):Int),bD o.isSome]
private def tyF:=ai (ai tg3 tg4) (ai tg5 tg9)
theorem parS_c {s:ByteArray} (hs:s.size≤1048576):AC Tryz.prog 172 [.d (sD s)] none (fun r' _=>r'=.d (parD (parP s))):=by
 have hL:=l1In_c (s.size:Nat) 1 13
 have nt:(!true)=false:=rfl
 have nf:(!false)=true:=rfl
 by_cases h1:1≤s.size∧s.size≤13
 ·have w1:(decide ((1:Int)≤((s.size:Nat):Int)) && decide (((s.size:Nat):Int)≤13))=true:=by simp;omega
  rw [w1] at hL
  refine cbS Tryz.func172 rfl Tryz.call172 Tryz.ntmps172 fun en hsz hks hk0=>?_;refine enS ?_
  (repeat (first|refine ctlS ?_|(refine ol_go ?_ (fun K1 hK1=>?_);exact trS;refine evS ?_;(try simp only [nt]);refine hK1 _ _ ?_;clear hK1 K1)|(refine ow_go ?_ dsS (fun K1 hK1=>?_);exact trS;refine evS ?_;(try simp only [nt]);refine hK1 _ ?_;clear hK1 K1)|refine skipS ?_|refine cS (hL) ?_|refine aw_condT rfl ?_|refine aw_condF rfl ?_))
  refine aw_loopS [0,2,3] (fun _ _=>[]) (fun _ i=>[(5,.d (iD (i:Nat))),(4,.d (iD (numT s i:Nat)))]) [] (fun _ _=>[]) [] (fun _ _=>[]) (fun i=>i≤s.size∧∀ (j:Nat) (hj:j<s.size),j<i→digP s[j]) (fun i=>s.size - i) (0) hks (fun _=>rfl) ⟨Nat.zero_le _,fun _ _ h=>absurd h (Nat.not_lt_zero _)⟩ wkS ?_;intro x hx;refine headS ?_
  obtain ⟨hx1,hx2⟩:=hx
  have hn:=numT_lt hx1 hx2
  have hp:=pow_13 (i:=x) (by omega)
  refine walkS ?_
  refine aw_condS rfl (fun hk=>?_) (fun hk=>?_)
  ·have hxl:x<s.size:=by omega
   have i1:s[x]?=some s[x]:=getElem?_pos s x hxl
   have hD:=l1In_c ((s[x].toNat:Nat):Int) 48 57
   have e0:=u8_w s[x]
   by_cases hd:digP s[x]
   ·have w2:=(digP_iff s[x]).2 hd
    rw [w2] at hD
    have hst:=numT_step hxl
    have e2:=dig_wrap hd
    have hdd:=hd
    unfold digP at hdd
    have e3:IntKind.i64.wrap ((s[x].toNat - 48:Nat):Int)=((s[x].toNat - 48:Nat):Int):=wrap_small (by omega) (by omega)
    have e4:IntKind.i64.wrap (10*((numT s x:Nat):Int))=((10*numT s x:Nat):Int):=by rw [wrap_small (by omega) (by omega)];omega
    have e5:IntKind.i64.wrap (((10*numT s x:Nat):Int)+((s[x].toNat - 48:Nat):Int))=((numT s (x+1):Nat):Int):=by rw [hst,wrap_small (by omega) (by omega)];omega
    have e6:IntKind.i64.wrap ((x:Int)+1)=((x+1:Nat):Int):=by rw [wrap_small (by omega) (by omega)];omega
    have e7:10*((numT s x:Nat):Int)+((s[x].toNat - 48:Nat):Int)=((numT s (x+1):Nat):Int):=by rw [hst];omega
    (repeat (first|refine ctlS ?_|(refine ol_go ?_ (fun K1 hK1=>?_);exact trS;refine evS ?_;(first|refine ⟨_,i1,?_⟩|skip);(try simp only [nt,e0,e2,e3,e4,e5,e6,e7]);refine hK1 _ _ ?_;clear hK1 K1)|(refine ow_go ?_ dsS (fun K1 hK1=>?_);exact trS;refine evS ?_;(first|refine ⟨_,i1,?_⟩|skip);(try simp only [nt,e0,e2,e3,e4,e5,e6,e7]);refine hK1 _ ?_;clear hK1 K1)|refine skipS ?_|refine cS (hD) ?_|refine aw_condT rfl ?_|refine aw_condF rfl ?_))
    refine ⟨x+1,⟨by omega,fun j hj hlt=>?_⟩,by omega,?_⟩
    ·by_cases e:j=x
     ·subst e;exact hd
     ·exact hx2 j hj (by omega)
    exact wkS
   ·have w2:(decide ((48:Int)≤((s[x].toNat:Nat):Int)) && decide (((s[x].toNat:Nat):Int)≤57))=false:=by
     rw [Bool.eq_false_iff]
     exact fun h=>hd ((digP_iff s[x]).1 h)
    rw [w2] at hD
    rw [parP_dig hxl hd]
    (repeat (first|refine ctlS ?_|(refine ol_go ?_ (fun K1 hK1=>?_);exact trS;refine evS ?_;(first|refine ⟨_,i1,?_⟩|skip);(try simp only [nf,e0]);refine hK1 _ _ ?_;clear hK1 K1)|(refine ow_go ?_ dsS (fun K1 hK1=>?_);exact trS;refine evS ?_;(first|refine ⟨_,i1,?_⟩|skip);(try simp only [nf,e0]);refine hK1 _ ?_;clear hK1 K1)|refine skipS ?_|refine cS (hD) ?_|refine aw_condT rfl ?_|refine aw_condF rfl ?_))
    (refine rtS Tryz.results172 ?_;exact ⟨_,_,.inl ⟨rfl,rfl⟩,List.nodup_nil,rfl⟩)
  ·obtain rfl:x=s.size:=by omega
   have hall:∀ (j:Nat) (hj:j<s.size),digP s[j]:=fun j hj=>hx2 j hj hj
   by_cases hb:1000000000000<numT s s.size
   ·have w3:decide ((1000000000000:Int)<((numT s s.size:Nat):Int))=true:=decide_eq_true (by omega)
    rw [parP_big hb]
    (repeat (first|refine ctlS ?_|(refine ol_go ?_ (fun K1 hK1=>?_);exact trS;refine evS ?_;(try simp only [w3]);refine hK1 _ _ ?_;clear hK1 K1)|(refine ow_go ?_ dsS (fun K1 hK1=>?_);exact trS;refine evS ?_;(try simp only [w3]);refine hK1 _ ?_;clear hK1 K1)|refine skipS ?_|refine aw_condT rfl ?_|refine aw_condF rfl ?_))
    (refine rtS Tryz.results172 ?_;exact ⟨_,_,.inl ⟨rfl,rfl⟩,List.nodup_nil,rfl⟩)
   ·have w3:decide ((1000000000000:Int)<((numT s s.size:Nat):Int))=false:=decide_eq_false (by omega)
    have hF:=fmtS_c (n:=numT s s.size) (by omega)
    have hfm:=fmt_numT h1 hall (by omega)
    by_cases he:parP s=some (numT s s.size)
    ·have w4:decide (fmtN (numT s s.size)=s)=true:=decide_eq_true (hfm.2 he)
     rw [he]
     (repeat (first|refine ctlS ?_|(refine ol_go ?_ (fun K1 hK1=>?_);exact trS;refine evS ?_;(try simp only [w3,w4,nt]);refine hK1 _ _ ?_;clear hK1 K1)|(refine ow_go ?_ dsS (fun K1 hK1=>?_);exact trS;refine evS ?_;(try simp only [w3,w4,nt]);refine hK1 _ ?_;clear hK1 K1)|refine skipS ?_|refine cS (hF) ?_|refine aw_condT rfl ?_|refine aw_condF rfl ?_))
     (refine rtS Tryz.results172 ?_;exact ⟨_,_,.inl ⟨rfl,rfl⟩,List.nodup_nil,rfl⟩)
    ·have w4:decide (fmtN (numT s s.size)=s)=false:=decide_eq_false fun h=>he (hfm.1 h)
     rw [parP_num h1 hall (by omega) he]
     (repeat (first|refine ctlS ?_|(refine ol_go ?_ (fun K1 hK1=>?_);exact trS;refine evS ?_;(try simp only [w3,w4,nf]);refine hK1 _ _ ?_;clear hK1 K1)|(refine ow_go ?_ dsS (fun K1 hK1=>?_);exact trS;refine evS ?_;(try simp only [w3,w4,nf]);refine hK1 _ ?_;clear hK1 K1)|refine skipS ?_|refine cS (hF) ?_|refine aw_condT rfl ?_|refine aw_condF rfl ?_))
     (refine rtS Tryz.results172 ?_;exact ⟨_,_,.inl ⟨rfl,rfl⟩,List.nodup_nil,rfl⟩)
 ·have w1:(decide ((1:Int)≤((s.size:Nat):Int)) && decide (((s.size:Nat):Int)≤13))=false:=by
   rw [Bool.eq_false_iff]
   intro h
   simp only [Bool.and_eq_true,decide_eq_true_eq] at h
   omega
  rw [w1] at hL
  rw [parP_len h1]
  refine cbS Tryz.func172 rfl Tryz.call172 Tryz.ntmps172 fun en hsz hks hk0=>?_;refine enS ?_
  (repeat (first|refine ctlS ?_|(refine ol_go ?_ (fun K1 hK1=>?_);exact trS;refine evS ?_;(try simp only [nf]);refine hK1 _ _ ?_;clear hK1 K1)|(refine ow_go ?_ dsS (fun K1 hK1=>?_);exact trS;refine evS ?_;(try simp only [nf]);refine hK1 _ ?_;clear hK1 K1)|refine skipS ?_|refine cS (hL) ?_|refine aw_condT rfl ?_|refine aw_condF rfl ?_))
  (refine rtS Tryz.results172 ?_;exact ⟨_,_,.inl ⟨rfl,rfl⟩,List.nodup_nil,rfl⟩)
theorem parI_c {s:ByteArray} (hs:s.size≤1048576):AC Tryz.prog 174 [.d (sD s)] none (fun r' _=>r'=.d (parD (parP s))):=by
 by_cases h0:s.size=0
 ·have z0:decide (s=⟨#[]⟩)=true:=decide_eq_true (emp_yes h0)
  rw [parP_len (by omega)]
  refine cbS Tryz.func174 rfl Tryz.call174 Tryz.ntmps174 fun en hsz hks hk0=>?_;refine enS ?_
  (repeat (first|refine ctlS ?_|(refine ol_go ?_ (fun K1 hK1=>?_);exact trS;refine evS ?_;(try simp only [z0]);refine hK1 _ _ ?_;clear hK1 K1)|(refine ow_go ?_ dsS (fun K1 hK1=>?_);exact trS;refine evS ?_;(try simp only [z0]);refine hK1 _ ?_;clear hK1 K1)|refine skipS ?_|refine aw_condT rfl ?_|refine aw_condF rfl ?_))
  (refine rtS Tryz.results174 ?_;exact ⟨_,_,.inl ⟨rfl,rfl⟩,List.nodup_nil,rfl⟩)
 have z0:decide (s=⟨#[]⟩)=false:=emp_no (by omega)
 by_cases h3:13<s.size
 ·have z1:decide ((13:Int)<((s.size:Nat):Int))=true:=decide_eq_true (by omega)
  rw [parP_len (by omega)]
  refine cbS Tryz.func174 rfl Tryz.call174 Tryz.ntmps174 fun en hsz hks hk0=>?_;refine enS ?_
  (repeat (first|refine ctlS ?_|(refine ol_go ?_ (fun K1 hK1=>?_);exact trS;refine evS ?_;(try simp only [z0,z1]);refine hK1 _ _ ?_;clear hK1 K1)|(refine ow_go ?_ dsS (fun K1 hK1=>?_);exact trS;refine evS ?_;(try simp only [z0,z1]);refine hK1 _ ?_;clear hK1 K1)|refine skipS ?_|refine aw_condT rfl ?_|refine aw_condF rfl ?_))
  (refine rtS Tryz.results174 ?_;exact ⟨_,_,.inl ⟨rfl,rfl⟩,List.nodup_nil,rfl⟩)
 have z1:decide ((13:Int)<((s.size:Nat):Int))=false:=decide_eq_false (by omega)
 have i0:s[0]?=some (s[0]'(by omega)):=getElem?_pos s 0 (by omega)
 by_cases h4:s[0]'(by omega)=48∧1<s.size
 ·have z2:((((s[0]'(by omega)).toNat:Nat):Int)==48)=true:=by rw [h4.1];rfl
  have z3:decide ((1:Int)<((s.size:Nat):Int))=true:=decide_eq_true (by omega)
  rw [parP_zero h4.2 h4.1]
  refine cbS Tryz.func174 rfl Tryz.call174 Tryz.ntmps174 fun en hsz hks hk0=>?_;refine enS ?_
  (repeat (first|refine ctlS ?_|(refine ol_go ?_ (fun K1 hK1=>?_);exact trS;refine evS ?_;(first|refine ⟨_,i0,?_⟩|skip);(try simp only [z0,z1,z2,z3]);refine hK1 _ _ ?_;clear hK1 K1)|(refine ow_go ?_ dsS (fun K1 hK1=>?_);exact trS;refine evS ?_;(first|refine ⟨_,i0,?_⟩|skip);(try simp only [z0,z1,z2,z3]);refine hK1 _ ?_;clear hK1 K1)|refine skipS ?_|refine aw_condT rfl ?_|refine aw_condF rfl ?_))
  (refine rtS Tryz.results174 ?_;exact ⟨_,_,.inl ⟨rfl,rfl⟩,List.nodup_nil,rfl⟩)
 have key:AC Tryz.prog 174 [.d (sD s)] none (fun r' _=>r'=.d (parD (parP s))):=by
  have z4:((((s[0]'(by omega)).toNat:Nat):Int)==48 && decide ((1:Int)<((s.size:Nat):Int)))=false:=by
   rw [Bool.eq_false_iff]
   intro h
   simp only [Bool.and_eq_true,decide_eq_true_eq,beq_iff_eq] at h
   exact h4 ⟨u8_inj (y:=48) h.1,by omega⟩
  generalize hq:(decide ((1:Int)<((s.size:Nat):Int)))=q at z4
  generalize hz:((((s[0]'(by omega)).toNat:Nat):Int)==48)=z at z4
  refine cbS Tryz.func174 rfl Tryz.call174 Tryz.ntmps174 fun en hsz hks hk0=>?_;refine enS ?_
  cases z
  all_goals
   cases q
   all_goals first|(exact absurd z4 (by decide))|skip
   all_goals
    (repeat (first|refine ctlS ?_|(refine ol_go ?_ (fun K1 hK1=>?_);exact trS;refine evS ?_;(first|refine ⟨_,i0,?_⟩|skip);(try simp only [z0,z1,hz,hq]);refine hK1 _ _ ?_;clear hK1 K1)|(refine ow_go ?_ dsS (fun K1 hK1=>?_);exact trS;refine evS ?_;(first|refine ⟨_,i0,?_⟩|skip);(try simp only [z0,z1,hz,hq]);refine hK1 _ ?_;clear hK1 K1)|refine skipS ?_|refine aw_condT rfl ?_|refine aw_condF rfl ?_))
    refine aw_loopS [0,2,3] (fun _ _=>[]) (fun _ i=>[(5,.d (iD (i:Nat))),(4,.d (iD (numT s i:Nat)))]) [] (fun _ _=>[]) [] (fun _ _=>[]) (fun i=>i≤s.size∧∀ (j:Nat) (hj:j<s.size),j<i→digP s[j]) (fun i=>s.size - i) (0) hks (fun _=>rfl) ⟨Nat.zero_le _,fun _ _ h=>absurd h (Nat.not_lt_zero _)⟩ wkS ?_;intro x hx;refine headS ?_
    obtain ⟨hx1,hx2⟩:=hx
    have hn:=numT_lt hx1 hx2
    have hp:=pow_13 (i:=x) (by omega)
    refine walkS ?_
    refine aw_condS rfl (fun hk=>?_) (fun hk=>?_)
    ·have hxl:x<s.size:=by omega
     have i1:s[x]?=some s[x]:=getElem?_pos s x hxl
     by_cases hd:digP s[x]
     ·have hst:=numT_step hxl
      have e2:=dig_wrap hd
      have hdd:=hd
      unfold digP at hdd
      have d1:decide (((s[x].toNat:Nat):Int)<48)=false:=decide_eq_false (by omega)
      have d2:decide ((57:Int)<((s[x].toNat:Nat):Int))=false:=decide_eq_false (by omega)
      have e3:IntKind.i64.wrap ((s[x].toNat - 48:Nat):Int)=((s[x].toNat - 48:Nat):Int):=wrap_small (by omega) (by omega)
      have e4:IntKind.i64.wrap (10*((numT s x:Nat):Int))=((10*numT s x:Nat):Int):=by rw [wrap_small (by omega) (by omega)];omega
      have e5:IntKind.i64.wrap (((10*numT s x:Nat):Int)+((s[x].toNat - 48:Nat):Int))=((numT s (x+1):Nat):Int):=by rw [hst,wrap_small (by omega) (by omega)];omega
      have e6:IntKind.i64.wrap ((x:Int)+1)=((x+1:Nat):Int):=by rw [wrap_small (by omega) (by omega)];omega
      have e7:10*((numT s x:Nat):Int)+((s[x].toNat - 48:Nat):Int)=((numT s (x+1):Nat):Int):=by rw [hst];omega
      (repeat (first|refine ctlS ?_|(refine ol_go ?_ (fun K1 hK1=>?_);exact trS;refine evS ?_;(first|refine ⟨_,i1,?_⟩|skip);(try simp only [d1,d2,e2,e3,e4,e5,e6,e7]);refine hK1 _ _ ?_;clear hK1 K1)|(refine ow_go ?_ dsS (fun K1 hK1=>?_);exact trS;refine evS ?_;(first|refine ⟨_,i1,?_⟩|skip);(try simp only [d1,d2,e2,e3,e4,e5,e6,e7]);refine hK1 _ ?_;clear hK1 K1)|refine skipS ?_|refine aw_condT rfl ?_|refine aw_condF rfl ?_))
      refine ⟨x+1,⟨by omega,fun j hj hlt=>?_⟩,by omega,?_⟩
      ·by_cases e:j=x
       ·subst e;exact hd
       ·exact hx2 j hj (by omega)
      exact wkS
     ·rw [parP_dig hxl hd]
      by_cases d1:((s[x].toNat:Nat):Int)<48
      ·have d1:decide (((s[x].toNat:Nat):Int)<48)=true:=decide_eq_true d1
       (repeat (first|refine ctlS ?_|(refine ol_go ?_ (fun K1 hK1=>?_);exact trS;refine evS ?_;(first|refine ⟨_,i1,?_⟩|skip);(try simp only [d1]);refine hK1 _ _ ?_;clear hK1 K1)|(refine ow_go ?_ dsS (fun K1 hK1=>?_);exact trS;refine evS ?_;(first|refine ⟨_,i1,?_⟩|skip);(try simp only [d1]);refine hK1 _ ?_;clear hK1 K1)|refine skipS ?_|refine aw_condT rfl ?_|refine aw_condF rfl ?_))
       (refine rtS Tryz.results174 ?_;exact ⟨_,_,.inl ⟨rfl,rfl⟩,List.nodup_nil,rfl⟩)
      ·have d2:decide ((57:Int)<((s[x].toNat:Nat):Int))=true:=decide_eq_true (by unfold digP at hd;omega)
       have d1:decide (((s[x].toNat:Nat):Int)<48)=false:=decide_eq_false d1
       (repeat (first|refine ctlS ?_|(refine ol_go ?_ (fun K1 hK1=>?_);exact trS;refine evS ?_;(first|refine ⟨_,i1,?_⟩|skip);(try simp only [d1,d2]);refine hK1 _ _ ?_;clear hK1 K1)|(refine ow_go ?_ dsS (fun K1 hK1=>?_);exact trS;refine evS ?_;(first|refine ⟨_,i1,?_⟩|skip);(try simp only [d1,d2]);refine hK1 _ ?_;clear hK1 K1)|refine skipS ?_|refine aw_condT rfl ?_|refine aw_condF rfl ?_))
       (refine rtS Tryz.results174 ?_;exact ⟨_,_,.inl ⟨rfl,rfl⟩,List.nodup_nil,rfl⟩)
    ·obtain rfl:x=s.size:=by omega
     have hall:∀ (j:Nat) (hj:j<s.size),digP s[j]:=fun j hj=>hx2 j hj hj
     by_cases hb:1000000000000<numT s s.size
     ·have w3:decide ((1000000000000:Int)<((numT s s.size:Nat):Int))=true:=decide_eq_true (by omega)
      rw [parP_big hb]
      (repeat (first|refine ctlS ?_|(refine ol_go ?_ (fun K1 hK1=>?_);exact trS;refine evS ?_;(try simp only [w3]);refine hK1 _ _ ?_;clear hK1 K1)|(refine ow_go ?_ dsS (fun K1 hK1=>?_);exact trS;refine evS ?_;(try simp only [w3]);refine hK1 _ ?_;clear hK1 K1)|refine skipS ?_|refine aw_condT rfl ?_|refine aw_condF rfl ?_))
      (refine rtS Tryz.results174 ?_;exact ⟨_,_,.inl ⟨rfl,rfl⟩,List.nodup_nil,rfl⟩)
     ·have w3:decide ((1000000000000:Int)<((numT s s.size:Nat):Int))=false:=decide_eq_false (by omega)
      rw [parP_yes (by omega) hall h4 (by omega)]
      (repeat (first|refine ctlS ?_|(refine ol_go ?_ (fun K1 hK1=>?_);exact trS;refine evS ?_;(try simp only [w3]);refine hK1 _ _ ?_;clear hK1 K1)|(refine ow_go ?_ dsS (fun K1 hK1=>?_);exact trS;refine evS ?_;(try simp only [w3]);refine hK1 _ ?_;clear hK1 K1)|refine skipS ?_|refine aw_condT rfl ?_|refine aw_condF rfl ?_))
      (refine rtS Tryz.results174 ?_;exact ⟨_,_,.inl ⟨rfl,rfl⟩,List.nodup_nil,rfl⟩)
 exact key
end Go.Proofs.YtomfggmmhkpeeaaGreatDoor.Eng
