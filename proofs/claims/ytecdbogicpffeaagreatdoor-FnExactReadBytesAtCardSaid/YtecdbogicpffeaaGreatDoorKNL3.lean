/-
 Parts are located (the reference).
-/
import Derived.Test.YtecdbogicpffeaaGreatDoorKNL2
set_option linter.unusedSimpArgs false
set_option linter.unusedVariables false
set_option linter.defProp false
set_option maxRecDepth 100000
set_option maxHeartbeats 4000000
namespace Go.Proofs.YtecdbogicpffeaaGreatDoor.Eng
open Go Go.RowKit

def locE (s:ByteArray):Option (Nat × Nat × Nat)→Eng.D
 | some x=>.tup [.agg [sD s,iD x.1,iD x.2.1,iD x.2.2],bD true]
 | none=>.tup [.agg [sD ⟨#[]⟩,iD 0,iD 0,iD 0],bD false]
theorem goN_at {D:List RuleD}{b:List UInt8}{ss:List ByteArray}{i r p:Nat} (hi:i<ss.length):goN D b (ss.drop i) r p=(goS D b r p ss[i]).bind fun x=>goN D b (ss.drop (i+1)) x.1 x.2:=by
 rw [List.drop_eq_getElem_cons hi,goN]
theorem goN_end {D:List RuleD}{b:List UInt8}{ss:List ByteArray}{i r p:Nat} (hi:¬i<ss.length):goN D b (ss.drop i) r p=some (r,p):=by
 rw [List.drop_eq_nil_of_le (by omega),goN]
theorem locP_no {D:List RuleD}{b:List UInt8}{s:ByteArray} (h:¬((splP s).2=true∧vDesc D=true∧b.length≤400)):locP D b s=none:=by
 unfold locP
 rw [if_neg h]
theorem locP_go {D:List RuleD}{b:List UInt8}{s:ByteArray} (h:(splP s).2=true∧vDesc D=true∧b.length≤400):locP D b s=(goN D b (splP s).1 (D.length - 1) 0).bind fun x=>if (rd D b D.length x.1 x.2).2.2=0 then some (x.1,x.2,(rd D b D.length x.1 x.2).2.1) else none:=by
 unfold locP
 rw [if_pos h]
section
variable {M:Nat}{D:List RuleD}{b:List UInt8}
theorem vDesc_len (h:vDesc D=true):descP D∧0<D.length:=by
 have hV:descP D:=by
  refine Classical.byContradiction fun hq=>?_
  rw [vDesc_no hq] at h
  cases h
 refine ⟨hV,?_⟩
 have:=hV.1
 omega
private def tyF:=ai (ai (ai tg25 (ai tg29 tg40)) (ai tg80 (ai tg81 tg127))) (ai (ai tg31 (ai tg42 tg83)) (ai (ai tg3 tg4) (ai tg5 tg9)))
theorem locS_n (hD:DB M D) (hM:M≤1048576) {s:ByteArray} (hs:s.size≤1048576) (h:¬((splP s).2=true∧vDesc D=true∧b.length≤400)):AC Tryz.prog 79 [.d (encD D),.d (encB b),.d (sD s)] none (fun r' _=>r'=.d (locE s none)):=by
 have HP:=splPS_c hs
 have HV:=validS_c hD hM
 have n1:(!true)=false:=rfl
 have n2:(!false)=true:=rfl
 generalize splP s=sp at *
 obtain ⟨ss,ok⟩:=sp
 simp only at HP h
 cases ok
 ·refine cbS Tryz.func79 rfl Tryz.call79 Tryz.ntmps79 fun en hsz hks hk0=>?_;refine enS ?_
  (repeat (first|refine ctlS ?_|(refine ol_go ?_ (fun K1 hK1=>?_);exact trS;refine evS ?_;(try simp only [n2]);refine hK1 _ _ ?_;clear hK1 K1)|(refine ow_go ?_ dsS (fun K1 hK1=>?_);exact trS;refine evS ?_;(try simp only [n2]);refine hK1 _ ?_;clear hK1 K1)|refine skipS ?_|refine cS (HP) ?_|refine aw_condT rfl ?_|refine aw_condF rfl ?_))
  (refine rtS Tryz.results79 ?_;exact ⟨_,_,.inl ⟨rfl,rfl⟩,List.nodup_nil,rfl⟩)
 ·cases hv:vDesc D
  ·rw [hv] at HV
   refine cbS Tryz.func79 rfl Tryz.call79 Tryz.ntmps79 fun en hsz hks hk0=>?_;refine enS ?_
   (repeat (first|refine ctlS ?_|(refine ol_go ?_ (fun K1 hK1=>?_);exact trS;refine evS ?_;(try simp only [n1,n2]);refine hK1 _ _ ?_;clear hK1 K1)|(refine ow_go ?_ dsS (fun K1 hK1=>?_);exact trS;refine evS ?_;(try simp only [n1,n2]);refine hK1 _ ?_;clear hK1 K1)|refine skipS ?_|refine cS (HP) ?_|refine cS (HV) ?_|refine aw_condT rfl ?_|refine aw_condF rfl ?_))
   (refine rtS Tryz.results79 ?_;exact ⟨_,_,.inl ⟨rfl,rfl⟩,List.nodup_nil,rfl⟩)
  ·rw [hv] at HV h
   have w1:decide ((400:Int)<(b.length:Int))=true:=decide_eq_true (by
    have:¬b.length≤400:=fun h2=>h ⟨rfl,rfl,h2⟩
    omega)
   refine cbS Tryz.func79 rfl Tryz.call79 Tryz.ntmps79 fun en hsz hks hk0=>?_;refine enS ?_
   (repeat (first|refine ctlS ?_|(refine ol_go ?_ (fun K1 hK1=>?_);exact trS;refine evS ?_;(try simp only [n1,w1]);refine hK1 _ _ ?_;clear hK1 K1)|(refine ow_go ?_ dsS (fun K1 hK1=>?_);exact trS;refine evS ?_;(try simp only [n1,w1]);refine hK1 _ ?_;clear hK1 K1)|refine skipS ?_|refine cS (HP) ?_|refine cS (HV) ?_|refine aw_condT rfl ?_|refine aw_condF rfl ?_))
   (refine rtS Tryz.results79 ?_;exact ⟨_,_,.inl ⟨rfl,rfl⟩,List.nodup_nil,rfl⟩)
theorem locS_y (hD:DB M D) (hM:M≤1048576) {s:ByteArray} (hs:s.size≤1048576) (h:(splP s).2=true∧vDesc D=true∧b.length≤400):AC Tryz.prog 79 [.d (encD D),.d (encB b),.d (sD s)] none (fun r' _=>r'=.d (locE s (locP D b s))):=by
 obtain ⟨hV,hl⟩:=vDesc_len h.2.1
 have hb4:=h.2.2
 rw [locP_go h]
 have HP:=splPS_c hs
 have hpl:=splP_len s
 have HV:=validS_c hD hM
 rw [h.2.1] at HV
 have HRt:=(rootS_c hD hM).eqv (r1:=.d (iD ((D.length - 1:Nat):Int))) (by rw [show ((D.length - 1:Nat):Int)=(D.length:Int) - 1 by omega])
 have hok:=h.1
 have n1:(!true)=false:=rfl
 have n2:(!false)=true:=rfl
 have w1:decide ((400:Int)<(b.length:Int))=false:=decide_eq_false (by omega)
 have HR:∀ k q':Nat,k<D.length→q'≤b.length→AC Tryz.prog 71 [.d (encD D),.d (iD k),.d (encB b),.d (iD q')] none (fun r _=>r=rdR (rd D b D.length k q')):=fun k q' h1 h2=>l11Read_all hD hM (by omega) hV D.length k q' h1 h1 h2
 generalize splP s=sp at *
 obtain ⟨ss,ok⟩:=sp
 simp only at HP hok hpl ⊢
 subst hok
 refine cbS Tryz.func79 rfl Tryz.call79 Tryz.ntmps79 fun en hsz hks hk0=>?_;refine enS ?_
 (repeat (first|refine ctlS ?_|(refine ol_go ?_ (fun K1 hK1=>?_);exact trS;refine evS ?_;(try simp only [n1,w1]);refine hK1 _ _ ?_;clear hK1 K1)|(refine ow_go ?_ dsS (fun K1 hK1=>?_);exact trS;refine evS ?_;(try simp only [n1,w1]);refine hK1 _ ?_;clear hK1 K1)|refine skipS ?_|refine cS (HP) ?_|refine cS (HV) ?_|refine cS (HRt) ?_|refine aw_condT rfl ?_|refine aw_condF rfl ?_))
 refine aw_loopS [1,2,3,6,7,8] (fun _ _=>[]) (fun _ z=>[(12,.d (iD (z.1:Nat))),(10,.d (iD (z.2.1:Nat))),(11,.d (iD (z.2.2:Nat)))]) [] (fun _ _=>[]) [] (fun _ _=>[]) (fun z:Nat × Nat × Nat=>z.1≤ss.length∧z.2.1<D.length∧z.2.2≤b.length∧goN D b ss (D.length - 1) 0=goN D b (ss.drop z.1) z.2.1 z.2.2) (fun z=>ss.length - z.1) ((0,D.length - 1,0)) hks (fun _=>rfl) ⟨Nat.zero_le _,by simp only;omega,Nat.zero_le _,rfl⟩ wkS ?_;intro x hx;refine headS ?_
 obtain ⟨i,r,p⟩:=x
 simp only at hx ⊢
 obtain ⟨hx1,hx2,hx3,hx4⟩:=hx
 refine walkS ?_
 refine aw_condS rfl (fun hi=>?_) (fun hi=>?_)
 ·have hil:i<ss.length:=by omega
  have i1:ss[i]?=some ss[i]:=List.getElem?_eq_getElem hil
  have e1:IntKind.i64.wrap ((i:Int)+1)=((i+1:Nat):Int):=by rw [wrap_small (by omega) (by omega)];omega
  have HS:=stpS_c hD hM (b:=b) (by omega) hV hx2 hx3 ss[i]
  rw [goN_at hil] at hx4
  cases hg:goS D b r p ss[i] with
  | none=>
   rw [hg] at HS hx4
   have HS':AC Tryz.prog 148 [.d (encD D),.d (iD r),.d (encB b),.d (iD p),.d (sD ss[i])] none (fun r' _=>r'=.d (.tup [iD 0,iD 0,bD false])):=HS
   rw [hx4]
   (repeat (first|refine ctlS ?_|(refine ol_go ?_ (fun K1 hK1=>?_);exact trS;refine evS ?_;(try simp only [n2]);refine hK1 _ _ ?_;clear hK1 K1)|(refine ow_go ?_ dsS (fun K1 hK1=>?_);exact trS;refine evS ?_;(try simp only [n2]);refine hK1 _ ?_;clear hK1 K1)|refine skipS ?_|refine cS (HS') ?_|refine aw_condT rfl ?_|refine aw_condF rfl ?_))
   (refine rtS Tryz.results79 ?_;exact ⟨_,_,.inl ⟨rfl,rfl⟩,List.nodup_nil,rfl⟩)
  | some y=>
   obtain ⟨k,q⟩:=y
   have hin:=goS_in hV hx2 hx3 hg
   simp only at hin
   rw [hg] at HS hx4
   have HS':AC Tryz.prog 148 [.d (encD D),.d (iD r),.d (encB b),.d (iD p),.d (sD ss[i])] none (fun r' _=>r'=.d (.tup [iD k,iD q,bD true])):=HS
   (repeat (first|refine ctlS ?_|(refine ol_go ?_ (fun K1 hK1=>?_);exact trS;refine evS ?_;(try simp only [n1,e1]);refine hK1 _ _ ?_;clear hK1 K1)|(refine ow_go ?_ dsS (fun K1 hK1=>?_);exact trS;refine evS ?_;(try simp only [n1,e1]);refine hK1 _ ?_;clear hK1 K1)|refine skipS ?_|refine cS (HS') ?_|refine aw_condT rfl ?_|refine aw_condF rfl ?_))
   refine ⟨(i+1,k,q),⟨by simp only;omega,by simp only;omega,hin.2,hx4⟩,by simp only;omega,?_⟩
   exact wkS
 ·rw [goN_end (by omega)] at hx4
  rw [hx4]
  have hR:=HR r p hx2 hx3
  simp only [Option.bind_some]
  generalize rd D b D.length r p=res at *
  obtain ⟨v,q,c⟩:=res
  simp only
  by_cases hc:c=0
  ·subst hc
   have w2:(((0:Nat):Int) != 0)=false:=rfl
   rw [if_pos rfl]
   (repeat (first|refine ctlS ?_|(refine ol_go ?_ (fun K1 hK1=>?_);exact trS;refine evS ?_;(try simp only [w2]);refine hK1 _ _ ?_;clear hK1 K1)|(refine ow_go ?_ dsS (fun K1 hK1=>?_);exact trS;refine evS ?_;(try simp only [w2]);refine hK1 _ ?_;clear hK1 K1)|refine skipS ?_|refine cS (hR) ?_|refine aw_condT rfl ?_|refine aw_condF rfl ?_))
   (refine rtS Tryz.results79 ?_;exact ⟨_,_,.inl ⟨rfl,rfl⟩,List.nodup_nil,rfl⟩)
  ·have w2:((c:Int) != 0)=true:=by rw [bne_iff_ne];omega
   rw [if_neg hc]
   (repeat (first|refine ctlS ?_|(refine ol_go ?_ (fun K1 hK1=>?_);exact trS;refine evS ?_;(try simp only [w2]);refine hK1 _ _ ?_;clear hK1 K1)|(refine ow_go ?_ dsS (fun K1 hK1=>?_);exact trS;refine evS ?_;(try simp only [w2]);refine hK1 _ ?_;clear hK1 K1)|refine skipS ?_|refine cS (hR) ?_|refine aw_condT rfl ?_|refine aw_condF rfl ?_))
   (refine rtS Tryz.results79 ?_;exact ⟨_,_,.inl ⟨rfl,rfl⟩,List.nodup_nil,rfl⟩)
theorem locS_c (hD:DB M D) (hM:M≤1048576) {s:ByteArray} (hs:s.size≤1048576):AC Tryz.prog 79 [.d (encD D),.d (encB b),.d (sD s)] none (fun r' _=>r'=.d (locE s (locP D b s))):=by
 by_cases h:(splP s).2=true∧vDesc D=true∧b.length≤400
 ·exact locS_y hD hM hs h
 ·rw [locP_no h]
  exact locS_n hD hM hs h
end
end Go.Proofs.YtecdbogicpffeaaGreatDoor.Eng
