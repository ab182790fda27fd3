/-
 Parts are read (the reference).

 Parts are read (the program).

 Numbers of parts, and how many items a part has: both sides.
-/
import Derived.Test.YtomfggmmhkpeeaaGreatDoorKNI6
import Derived.Test.YtomfggmmhkpeeaaGreatDoorKNRF
set_option linter.unusedSimpArgs false
set_option linter.unusedVariables false
set_option linter.defProp false
set_option maxRecDepth 100000
set_option maxHeartbeats 4000000
namespace Go.Proofs.YtomfggmmhkpeeaaGreatDoor.Eng
open Go Go.RowKit

theorem locP_some {D:List RuleD}{b:List UInt8}{s:ByteArray}{r p q:Nat} (h:locP D b s=some (r,p,q)):descP D∧b.length≤400∧r<D.length∧p≤b.length:=by
 by_cases hg:(splP s).2=true∧vDesc D=true∧b.length≤400
 ·rw [locP_go hg] at h
  obtain ⟨hV,hl⟩:=vDesc_len hg.2.1
  cases hn:goN D b (splP s).1 (D.length - 1) 0 with
  | none=>rw [hn] at h;cases h
  | some y=>
   rw [hn] at h
   have hi:=goN_in hV _ (by omega) (Nat.zero_le _) hn
   simp only [Option.bind_some] at h
   split at h
   ·obtain ⟨rfl,rfl,_⟩:=Prod.mk.inj (Option.some.inj h) |>.imp_right Prod.mk.inj
    exact ⟨hV,hg.2.2,hi.1,hi.2⟩
   ·cases h
 ·rw [locP_no hg] at h
  cases h
noncomputable def partP (D:List RuleD) (b:List UInt8) (s:ByteArray):Option (Nat × V):=(locP D b s).map fun x=>(x.1,(rd D b D.length x.1 x.2.1).1)
def partE:Option (Nat × V)→Eng.D
 | some x=>.tup [encV x.2,bD true]
 | none=>.tup [encV V0,bD false]
section
variable {M:Nat}{D:List RuleD}{b:List UInt8}
private def tyF:=ai (ai (ai tg25 (ai tg27 tg32)) (ai tg86 (ai tg87 tg151))) (ai (ai tg29 (ai tg34 tg89)) (ai (ai tg3 tg4) (ai tg5 tg9)))
theorem partS_c (hD:DB M D) (hM:M≤1048576) {s:ByteArray} (hs:s.size≤1048576):AC Tryz.prog 48 [.d (encD D),.d (encB b),.d (sD s)] none (fun r' _=>r'=.d (partE (partP D b s))):=by
 have HL:=locS_c hD hM (b:=b) hs
 unfold partP
 cases hl:locP D b s with
 | none=>
  rw [hl] at HL
  have HL':AC Tryz.prog 97 [.d (encD D),.d (encB b),.d (sD s)] none (fun r' _=>r'=.d (.tup [.agg [sD ⟨#[]⟩,iD 0,iD 0,iD 0],bD false])):=HL
  have n2:(!false)=true:=rfl
  refine cbS Tryz.func48 rfl Tryz.call48 Tryz.ntmps48 fun en hsz hks hk0=>?_;refine enS ?_
  (repeat (first|refine ctlS ?_|(refine ol_go ?_ (fun K1 hK1=>?_);exact trS;refine evS ?_;(try simp only [n2]);refine hK1 _ _ ?_;clear hK1 K1)|(refine ow_go ?_ dsS (fun K1 hK1=>?_);exact trS;refine evS ?_;(try simp only [n2]);refine hK1 _ ?_;clear hK1 K1)|refine skipS ?_|refine cS (HL') ?_|refine aw_condT rfl ?_|refine aw_condF rfl ?_))
  (refine rtS Tryz.results48 ?_;refine ⟨_,[],.inr (.inl ⟨.tup [encV V0,bD false],rfl,rfl,?_⟩),List.nodup_nil,rfl⟩;exact wkDS)
 | some y=>
  obtain ⟨n,p,q⟩:=y
  rw [hl] at HL
  obtain ⟨hV,hb4,hn,hp⟩:=locP_some hl
  have HL':AC Tryz.prog 97 [.d (encD D),.d (encB b),.d (sD s)] none (fun r' _=>r'=.d (.tup [.agg [sD s,iD (n:Nat),iD (p:Nat),iD (q:Nat)],bD true])):=HL
  have HR:=l11Read_all hD hM (by omega) hV D.length n p hn hn hp
  have n1:(!true)=false:=rfl
  simp only [Option.map_some]
  generalize rd D b D.length n p=res at *
  obtain ⟨v,q',c⟩:=res
  refine cbS Tryz.func48 rfl Tryz.call48 Tryz.ntmps48 fun en hsz hks hk0=>?_;refine enS ?_
  (repeat (first|refine ctlS ?_|(refine ol_go ?_ (fun K1 hK1=>?_);exact trS;refine evS ?_;(try simp only [n1]);refine hK1 _ _ ?_;clear hK1 K1)|(refine ow_go ?_ dsS (fun K1 hK1=>?_);exact trS;refine evS ?_;(try simp only [n1]);refine hK1 _ ?_;clear hK1 K1)|refine skipS ?_|refine cS (HL') ?_|refine cS (HR) ?_|refine aw_condT rfl ?_|refine aw_condF rfl ?_))
  (refine rtS Tryz.results48 ?_;exact ⟨_,_,.inl ⟨rfl,rfl⟩,List.nodup_nil,rfl⟩)
theorem kindS_n (hD:DB M D) (hM:M≤1048576) {s:ByteArray} (hs:s.size≤1048576) (hl:locP D b s=none):AC Tryz.prog 50 [.d (encD D),.d (encB b),.d (sD s)] none (fun r' _=>r'=.d (.tup [iD 0,encV V0])):=by
 have HL:=locS_c hD hM (b:=b) hs
 have HP:=partS_c hD hM (b:=b) hs
 unfold partP at HP
 rw [hl] at HL HP
 have HL':AC Tryz.prog 97 [.d (encD D),.d (encB b),.d (sD s)] none (fun r' _=>r'=.d (.tup [.agg [sD ⟨#[]⟩,iD 0,iD 0,iD 0],bD false])):=HL
 have HP':AC Tryz.prog 48 [.d (encD D),.d (encB b),.d (sD s)] none (fun r' _=>r'=.d (.tup [encV V0,bD false])):=HP
 have n2:(!false)=true:=rfl
 refine cbS Tryz.func50 rfl Tryz.call50 Tryz.ntmps50 fun en hsz hks hk0=>?_;refine enS ?_
 (repeat (first|refine ctlS ?_|(refine ol_go ?_ (fun K1 hK1=>?_);exact trS;refine evS ?_;(try simp only [n2]);refine hK1 _ _ ?_;clear hK1 K1)|(refine ow_go ?_ dsS (fun K1 hK1=>?_);exact trS;refine evS ?_;(try simp only [n2]);refine hK1 _ ?_;clear hK1 K1)|refine skipS ?_|refine cS (HL') ?_|refine cS (HP') ?_|refine aw_condT rfl ?_|refine aw_condF rfl ?_))
 (refine rtS Tryz.results50 ?_;exact ⟨_,_,.inl ⟨rfl,rfl⟩,List.nodup_nil,rfl⟩)
theorem kindS_y (hD:DB M D) (hM:M≤1048576) {s:ByteArray} (hs:s.size≤1048576) {n p q:Nat} (hl:locP D b s=some (n,p,q)) {r:RuleD} (hr:D[n]?=some r):AC Tryz.prog 50 [.d (encD D),.d (encB b),.d (sD s)] none (fun r' _=>r'=.d (.tup [iD r.kind,encV (rd D b D.length n p).1])):=by
 have HL:=locS_c hD hM (b:=b) hs
 have HP:=partS_c hD hM (b:=b) hs
 unfold partP at HP
 rw [hl] at HL HP
 simp only [Option.map_some] at HP
 generalize (rd D b D.length n p).1=v at *
 have HL':AC Tryz.prog 97 [.d (encD D),.d (encB b),.d (sD s)] none (fun r' _=>r'=.d (.tup [.agg [sD s,iD (n:Nat),iD (p:Nat),iD (q:Nat)],bD true])):=HL
 have HP':AC Tryz.prog 48 [.d (encD D),.d (encB b),.d (sD s)] none (fun r' _=>r'=.d (.tup [encV v,bD true])):=HP
 have n1:(!true)=false:=rfl
 refine cbS Tryz.func50 rfl Tryz.call50 Tryz.ntmps50 fun en hsz hks hk0=>?_;refine enS ?_
 (repeat (first|refine ctlS ?_|(refine ol_go ?_ (fun K1 hK1=>?_);exact trS;refine evS ?_;(try simp only [n1]);refine hK1 _ _ ?_;clear hK1 K1)|(refine ow_go ?_ dsS (fun K1 hK1=>?_);exact trS;refine evS ?_;(try simp only [n1]);refine hK1 _ ?_;clear hK1 K1)|refine skipS ?_|refine cS (HL') ?_|refine cS (HP') ?_|refine aw_condT rfl ?_|refine aw_condF rfl ?_))
 (refine rtS Tryz.results50 ?_;exact ⟨_,_,.inl ⟨rfl,rfl⟩,List.nodup_nil,rfl⟩)
end
end Go.Proofs.YtomfggmmhkpeeaaGreatDoor.Eng
namespace Go.Proofs.YtomfggmmhkpeeaaGreatDoor.Eng
open Go Go.RowKit

def partI:Option (Nat × V)→Eng.D
 | some x=>.tup [encV x.2,iD (x.1:Nat),bD true]
 | none=>.tup [encV V0,iD (-1),bD false]
section
variable {M:Nat}{D:List RuleD}{b:List UInt8}
theorem partI_c (hD:DB M D) (hM:M≤1048576) {s:ByteArray} (hs:s.size≤1048576):AC Tryz.prog 49 [.d (encD D),.d (encB b),.d (sD s)] none (fun r' _=>r'=.d (partI (partP D b s))):=by
 have HL:=locI_c hD hM (b:=b) hs
 unfold partP
 cases hl:locP D b s with
 | none=>
  rw [hl] at HL
  have HL':AC Tryz.prog 98 [.d (encD D),.d (encB b),.d (sD s)] none (fun r' _=>r'=.d (.tup [.agg [sD ⟨#[]⟩,iD 0,iD 0,iD 0],bD false])):=HL
  have n2:(!false)=true:=rfl
  refine cbS Tryz.func49 rfl Tryz.call49 Tryz.ntmps49 fun en hsz hks hk0=>?_;refine enS ?_
  (repeat (first|refine ctlS ?_|(refine ol_go ?_ (fun K1 hK1=>?_);exact trS;refine evS ?_;(try simp only [n2]);refine hK1 _ _ ?_;clear hK1 K1)|(refine ow_go ?_ dsS (fun K1 hK1=>?_);exact trS;refine evS ?_;(try simp only [n2]);refine hK1 _ ?_;clear hK1 K1)|refine skipS ?_|refine cS (HL') ?_|refine aw_condT rfl ?_|refine aw_condF rfl ?_))
  (refine rtS Tryz.results49 ?_;refine ⟨_,[],.inr (.inl ⟨.tup [encV V0,iD (-1),bD false],rfl,rfl,?_⟩),List.nodup_nil,rfl⟩;exact wkDS)
 | some y=>
  obtain ⟨n,p,q⟩:=y
  rw [hl] at HL
  obtain ⟨hV,hb4,hn,hp⟩:=locP_some hl
  have HL':AC Tryz.prog 98 [.d (encD D),.d (encB b),.d (sD s)] none (fun r' _=>r'=.d (.tup [.agg [sD s,iD (n:Nat),iD (p:Nat),iD (q:Nat)],bD true])):=HL
  have HR:=readValueI_c hD hM (b:=b) (by omega) (n:Nat) (p:Nat)
  rw [readV_r hV hb4 hn hp] at HR
  have n1:(!true)=false:=rfl
  simp only [Option.map_some]
  generalize rd D b D.length n p=res at *
  obtain ⟨v,q',c⟩:=res
  refine cbS Tryz.func49 rfl Tryz.call49 Tryz.ntmps49 fun en hsz hks hk0=>?_;refine enS ?_
  (repeat (first|refine ctlS ?_|(refine ol_go ?_ (fun K1 hK1=>?_);exact trS;refine evS ?_;(try simp only [n1]);refine hK1 _ _ ?_;clear hK1 K1)|(refine ow_go ?_ dsS (fun K1 hK1=>?_);exact trS;refine evS ?_;(try simp only [n1]);refine hK1 _ ?_;clear hK1 K1)|refine skipS ?_|refine cS (HL') ?_|refine cS (HR) ?_|refine aw_condT rfl ?_|refine aw_condF rfl ?_))
  (refine rtS Tryz.results49 ?_;exact ⟨_,_,.inl ⟨rfl,rfl⟩,List.nodup_nil,rfl⟩)
end
end Go.Proofs.YtomfggmmhkpeeaaGreatDoor.Eng
namespace Go.Proofs.YtomfggmmhkpeeaaGreatDoor.Eng
open Go Go.RowKit

def numE (D:List RuleD):Option (Nat × V)→Eng.D
 | some (n,.mk m _ vs)=>if (ruleD D n).kind=1∨(ruleD D n).kind=7 then .tup [iD m,bD true] else if (ruleD D n).kind=5 then .tup [iD (vs.length:Nat),bD true] else .tup [iD 0,bD false]
 | none=>.tup [iD 0,bD false]
theorem numE_1 {D:List RuleD}{n:Nat}{r:RuleD} (hr:D[n]?=some r) {m:Int}{bs:List UInt8}{vs:List V} (h:r.kind=1∨r.kind=7):numE D (some (n,.mk m bs vs))=.tup [iD m,bD true]:=by
 have e:ruleD D n=r:=ruleD_get hr
 simp only [numE,e]
 rw [if_pos h]
theorem numE_5 {D:List RuleD}{n:Nat}{r:RuleD} (hr:D[n]?=some r) {m:Int}{bs:List UInt8}{vs:List V} (h:r.kind=5):numE D (some (n,.mk m bs vs))=.tup [iD (vs.length:Nat),bD true]:=by
 have e:ruleD D n=r:=ruleD_get hr
 simp only [numE,e]
 rw [if_neg (by omega),if_pos h]
theorem numE_o {D:List RuleD}{n:Nat}{r:RuleD} (hr:D[n]?=some r) {m:Int}{bs:List UInt8}{vs:List V} (h:¬(r.kind=1∨r.kind=7)) (h5:r.kind≠5):numE D (some (n,.mk m bs vs))=.tup [iD 0,bD false]:=by
 have e:ruleD D n=r:=ruleD_get hr
 simp only [numE,e]
 rw [if_neg h,if_neg h5]
def cntE:Option (Nat × V)→Int
 | some (_,.mk _ _ vs)=>(vs.length:Nat)
 | none=>-1
section
variable {M:Nat}{D:List RuleD}{b:List UInt8}
theorem cntS_c (hD:DB M D) (hM:M≤1048576) {s:ByteArray} (hs:s.size≤1048576):AC Tryz.prog 24 [.d (encD D),.d (encB b),.d (sD s)] none (fun r' _=>r'=.d (iD (cntE (partP D b s)))):=by
 have HP:=partS_c hD hM (b:=b) hs
 generalize partP D b s=x at *
 cases x with
 | none=>
  have HP':AC Tryz.prog 48 [.d (encD D),.d (encB b),.d (sD s)] none (fun r' _=>r'=.d (.tup [encV V0,bD false])):=HP
  have n2:(!false)=true:=rfl
  refine cbS Tryz.func24 rfl Tryz.call24 Tryz.ntmps24 fun en hsz hks hk0=>?_;refine enS ?_
  (repeat (first|refine ctlS ?_|(refine ol_go ?_ (fun K1 hK1=>?_);exact trS;refine evS ?_;(try simp only [n2]);refine hK1 _ _ ?_;clear hK1 K1)|(refine ow_go ?_ dsS (fun K1 hK1=>?_);exact trS;refine evS ?_;(try simp only [n2]);refine hK1 _ ?_;clear hK1 K1)|refine skipS ?_|refine cS (HP') ?_|refine aw_condT rfl ?_|refine aw_condF rfl ?_))
  (refine rtS Tryz.results24 ?_;exact ⟨_,_,.inl ⟨rfl,rfl⟩,List.nodup_nil,rfl⟩)
 | some y=>
  obtain ⟨n,m,bs,vs⟩:=y
  have HP':AC Tryz.prog 48 [.d (encD D),.d (encB b),.d (sD s)] none (fun r' _=>r'=.d (.tup [encV (.mk m bs vs),bD true])):=HP
  have n1:(!true)=false:=rfl
  simp only [encV,encVc] at HP'
  refine cbS Tryz.func24 rfl Tryz.call24 Tryz.ntmps24 fun en hsz hks hk0=>?_;refine enS ?_
  (repeat (first|refine ctlS ?_|(refine ol_go ?_ (fun K1 hK1=>?_);exact trS;refine evS ?_;(try simp only [n1]);refine hK1 _ _ ?_;clear hK1 K1)|(refine ow_go ?_ dsS (fun K1 hK1=>?_);exact trS;refine evS ?_;(try simp only [n1]);refine hK1 _ ?_;clear hK1 K1)|refine skipS ?_|refine cS (HP') ?_|refine aw_condT rfl ?_|refine aw_condF rfl ?_))
  (refine rtS Tryz.results24 ?_;exact ⟨_,_,.inl ⟨rfl,rfl⟩,List.nodup_nil,rfl⟩)
theorem numbS_c (hD:DB M D) (hM:M≤1048576) {s:ByteArray} (hs:s.size≤1048576):AC Tryz.prog 26 [.d (encD D),.d (encB b),.d (sD s)] none (fun r' _=>r'=.d (numE D (partP D b s))):=by
 unfold partP
 cases hl:locP D b s with
 | none=>
  have HK:=kindS_n hD hM (b:=b) hs hl
  have c1:((0:Int)==1)=false:=rfl
  have c7:((0:Int)==7)=false:=rfl
  have c5:((0:Int)==5)=false:=rfl
  refine cbS Tryz.func26 rfl Tryz.call26 Tryz.ntmps26 fun en hsz hks hk0=>?_;refine enS ?_
  (repeat (first|refine ctlS ?_|(refine ol_go ?_ (fun K1 hK1=>?_);exact trS;refine evS ?_;(try simp only [c1,c7,c5]);refine hK1 _ _ ?_;clear hK1 K1)|(refine ow_go ?_ dsS (fun K1 hK1=>?_);exact trS;refine evS ?_;(try simp only [c1,c7,c5]);refine hK1 _ ?_;clear hK1 K1)|refine skipS ?_|refine cS (HK) ?_|refine aw_condT rfl ?_|refine aw_condF rfl ?_))
  (refine rtS Tryz.results26 ?_;exact ⟨_,_,.inl ⟨rfl,rfl⟩,List.nodup_nil,rfl⟩)
 | some y=>
  obtain ⟨n,p,q⟩:=y
  obtain ⟨hV,hb4,hn,hp⟩:=locP_some hl
  have hr:D[n]?=some D[n]:=List.getElem?_eq_getElem hn
  have HK:=kindS_y hD hM (b:=b) hs hl hr
  have h1:=fun m bs vs h=>numE_1 hr (m:=m) (bs:=bs) (vs:=vs) h
  have h5:=fun m bs vs h=>numE_5 hr (m:=m) (bs:=bs) (vs:=vs) h
  have h0:=fun m bs vs h h'=>numE_o hr (m:=m) (bs:=bs) (vs:=vs) h h'
  simp only [Option.map_some]
  generalize (rd D b D.length n p).1=v at *
  obtain ⟨m,bs,vs⟩:=v
  generalize D[n]=r at *
  simp only [encV,encVc] at HK
  by_cases k1:r.kind=1
  ·have c1:(r.kind==1)=true:=beq_iff_eq.2 k1
   rw [h1 m bs vs (Or.inl k1)]
   refine cbS Tryz.func26 rfl Tryz.call26 Tryz.ntmps26 fun en hsz hks hk0=>?_;refine enS ?_
   (repeat (first|refine ctlS ?_|(refine ol_go ?_ (fun K1 hK1=>?_);exact trS;refine evS ?_;(try simp only [c1]);refine hK1 _ _ ?_;clear hK1 K1)|(refine ow_go ?_ dsS (fun K1 hK1=>?_);exact trS;refine evS ?_;(try simp only [c1]);refine hK1 _ ?_;clear hK1 K1)|refine skipS ?_|refine cS (HK) ?_|refine aw_condT rfl ?_|refine aw_condF rfl ?_))
   (refine rtS Tryz.results26 ?_;exact ⟨_,_,.inl ⟨rfl,rfl⟩,List.nodup_nil,rfl⟩)
  have c1:(r.kind==1)=false:=by rw [beq_eq_false_iff_ne];exact k1
  by_cases k7:r.kind=7
  ·have c7:(r.kind==7)=true:=beq_iff_eq.2 k7
   rw [h1 m bs vs (Or.inr k7)]
   refine cbS Tryz.func26 rfl Tryz.call26 Tryz.ntmps26 fun en hsz hks hk0=>?_;refine enS ?_
   (repeat (first|refine ctlS ?_|(refine ol_go ?_ (fun K1 hK1=>?_);exact trS;refine evS ?_;(try simp only [c1,c7]);refine hK1 _ _ ?_;clear hK1 K1)|(refine ow_go ?_ dsS (fun K1 hK1=>?_);exact trS;refine evS ?_;(try simp only [c1,c7]);refine hK1 _ ?_;clear hK1 K1)|refine skipS ?_|refine cS (HK) ?_|refine aw_condT rfl ?_|refine aw_condF rfl ?_))
   (refine rtS Tryz.results26 ?_;exact ⟨_,_,.inl ⟨rfl,rfl⟩,List.nodup_nil,rfl⟩)
  have c7:(r.kind==7)=false:=by rw [beq_eq_false_iff_ne];exact k7
  by_cases k5:r.kind=5
  ·have c5:(r.kind==5)=true:=beq_iff_eq.2 k5
   rw [h5 m bs vs k5]
   refine cbS Tryz.func26 rfl Tryz.call26 Tryz.ntmps26 fun en hsz hks hk0=>?_;refine enS ?_
   (repeat (first|refine ctlS ?_|(refine ol_go ?_ (fun K1 hK1=>?_);exact trS;refine evS ?_;(try simp only [c1,c7,c5]);refine hK1 _ _ ?_;clear hK1 K1)|(refine ow_go ?_ dsS (fun K1 hK1=>?_);exact trS;refine evS ?_;(try simp only [c1,c7,c5]);refine hK1 _ ?_;clear hK1 K1)|refine skipS ?_|refine cS (HK) ?_|refine aw_condT rfl ?_|refine aw_condF rfl ?_))
   (refine rtS Tryz.results26 ?_;exact ⟨_,_,.inl ⟨rfl,rfl⟩,List.nodup_nil,rfl⟩)
  have c5:(r.kind==5)=false:=by rw [beq_eq_false_iff_ne];exact k5
  rw [h0 m bs vs (by omega) k5]
  refine cbS Tryz.func26 rfl Tryz.call26 Tryz.ntmps26 fun en hsz hks hk0=>?_;refine enS ?_
  (repeat (first|refine ctlS ?_|(refine ol_go ?_ (fun K1 hK1=>?_);exact trS;refine evS ?_;(try simp only [c1,c7,c5]);refine hK1 _ _ ?_;clear hK1 K1)|(refine ow_go ?_ dsS (fun K1 hK1=>?_);exact trS;refine evS ?_;(try simp only [c1,c7,c5]);refine hK1 _ ?_;clear hK1 K1)|refine skipS ?_|refine cS (HK) ?_|refine aw_condT rfl ?_|refine aw_condF rfl ?_))
  (refine rtS Tryz.results26 ?_;exact ⟨_,_,.inl ⟨rfl,rfl⟩,List.nodup_nil,rfl⟩)
theorem cntI_c (hD:DB M D) (hM:M≤1048576) {s:ByteArray} (hs:s.size≤1048576):AC Tryz.prog 25 [.d (encD D),.d (encB b),.d (sD s)] none (fun r' _=>r'=.d (iD (cntE (partP D b s)))):=by
 have HP:=partI_c hD hM (b:=b) hs
 generalize partP D b s=x at *
 cases x with
 | none=>
  have HP':AC Tryz.prog 49 [.d (encD D),.d (encB b),.d (sD s)] none (fun r' _=>r'=.d (.tup [encV V0,iD (-1),bD false])):=HP
  have n2:(!false)=true:=rfl
  refine cbS Tryz.func25 rfl Tryz.call25 Tryz.ntmps25 fun en hsz hks hk0=>?_;refine enS ?_
  (repeat (first|refine ctlS ?_|(refine ol_go ?_ (fun K1 hK1=>?_);exact trS;refine evS ?_;(try simp only [n2]);refine hK1 _ _ ?_;clear hK1 K1)|(refine ow_go ?_ dsS (fun K1 hK1=>?_);exact trS;refine evS ?_;(try simp only [n2]);refine hK1 _ ?_;clear hK1 K1)|refine skipS ?_|refine cS (HP') ?_|refine aw_condT rfl ?_|refine aw_condF rfl ?_))
  (refine rtS Tryz.results25 ?_;exact ⟨_,_,.inl ⟨rfl,rfl⟩,List.nodup_nil,rfl⟩)
 | some y=>
  obtain ⟨n,m,bs,vs⟩:=y
  have HP':AC Tryz.prog 49 [.d (encD D),.d (encB b),.d (sD s)] none (fun r' _=>r'=.d (.tup [encV (.mk m bs vs),iD (n:Nat),bD true])):=HP
  have n1:(!true)=false:=rfl
  simp only [encV,encVc] at HP'
  refine cbS Tryz.func25 rfl Tryz.call25 Tryz.ntmps25 fun en hsz hks hk0=>?_;refine enS ?_
  (repeat (first|refine ctlS ?_|(refine ol_go ?_ (fun K1 hK1=>?_);exact trS;refine evS ?_;(try simp only [n1]);refine hK1 _ _ ?_;clear hK1 K1)|(refine ow_go ?_ dsS (fun K1 hK1=>?_);exact trS;refine evS ?_;(try simp only [n1]);refine hK1 _ ?_;clear hK1 K1)|refine skipS ?_|refine cS (HP') ?_|refine aw_condT rfl ?_|refine aw_condF rfl ?_))
  (refine rtS Tryz.results25 ?_;exact ⟨_,_,.inl ⟨rfl,rfl⟩,List.nodup_nil,rfl⟩)
theorem numbI_c (hD:DB M D) (hM:M≤1048576) {s:ByteArray} (hs:s.size≤1048576):AC Tryz.prog 27 [.d (encD D),.d (encB b),.d (sD s)] none (fun r' _=>r'=.d (numE D (partP D b s))):=by
 have HP:=partI_c hD hM (b:=b) hs
 unfold partP at HP ⊢
 cases hl:locP D b s with
 | none=>
  rw [hl] at HP
  have HP':AC Tryz.prog 49 [.d (encD D),.d (encB b),.d (sD s)] none (fun r' _=>r'=.d (.tup [encV V0,iD (-1),bD false])):=HP
  have n2:(!false)=true:=rfl
  refine cbS Tryz.func27 rfl Tryz.call27 Tryz.ntmps27 fun en hsz hks hk0=>?_;refine enS ?_
  (repeat (first|refine ctlS ?_|(refine ol_go ?_ (fun K1 hK1=>?_);exact trS;refine evS ?_;(try simp only [n2]);refine hK1 _ _ ?_;clear hK1 K1)|(refine ow_go ?_ dsS (fun K1 hK1=>?_);exact trS;refine evS ?_;(try simp only [n2]);refine hK1 _ ?_;clear hK1 K1)|refine skipS ?_|refine cS (HP') ?_|refine aw_condT rfl ?_|refine aw_condF rfl ?_))
  (refine rtS Tryz.results27 ?_;exact ⟨_,_,.inl ⟨rfl,rfl⟩,List.nodup_nil,rfl⟩)
 | some y=>
  obtain ⟨n,p,q⟩:=y
  obtain ⟨hV,hb4,hn,hp⟩:=locP_some hl
  have hr:D[n]?=some D[n]:=List.getElem?_eq_getElem hn
  rw [hl] at HP
  have HP':AC Tryz.prog 49 [.d (encD D),.d (encB b),.d (sD s)] none (fun r' _=>r'=.d (.tup [encV (rd D b D.length n p).1,iD (n:Nat),bD true])):=HP
  have h1:=fun m bs vs h=>numE_1 hr (m:=m) (bs:=bs) (vs:=vs) h
  have h5:=fun m bs vs h=>numE_5 hr (m:=m) (bs:=bs) (vs:=vs) h
  have h0:=fun m bs vs h h'=>numE_o hr (m:=m) (bs:=bs) (vs:=vs) h h'
  have n1:(!true)=false:=rfl
  simp only [Option.map_some]
  clear HP
  generalize (rd D b D.length n p).1=v at *
  obtain ⟨m,bs,vs⟩:=v
  generalize D[n]=r at *
  simp only [encV,encVc] at HP'
  by_cases k1:r.kind=1
  ·have c1:(r.kind==1)=true:=beq_iff_eq.2 k1
   rw [h1 m bs vs (Or.inl k1)]
   refine cbS Tryz.func27 rfl Tryz.call27 Tryz.ntmps27 fun en hsz hks hk0=>?_;refine enS ?_
   (repeat (first|refine ctlS ?_|(refine ol_go ?_ (fun K1 hK1=>?_);exact trS;refine evS ?_;(try simp only [n1,c1]);refine hK1 _ _ ?_;clear hK1 K1)|(refine ow_go ?_ dsS (fun K1 hK1=>?_);exact trS;refine evS ?_;(try simp only [n1,c1]);refine hK1 _ ?_;clear hK1 K1)|refine skipS ?_|refine cS (HP') ?_|refine aw_condT rfl ?_|refine aw_condF rfl ?_))
   (refine rtS Tryz.results27 ?_;exact ⟨_,_,.inl ⟨rfl,rfl⟩,List.nodup_nil,rfl⟩)
  have c1:(r.kind==1)=false:=by rw [beq_eq_false_iff_ne];exact k1
  by_cases k7:r.kind=7
  ·have c7:(r.kind==7)=true:=beq_iff_eq.2 k7
   rw [h1 m bs vs (Or.inr k7)]
   refine cbS Tryz.func27 rfl Tryz.call27 Tryz.ntmps27 fun en hsz hks hk0=>?_;refine enS ?_
   (repeat (first|refine ctlS ?_|(refine ol_go ?_ (fun K1 hK1=>?_);exact trS;refine evS ?_;(try simp only [n1,c1,c7]);refine hK1 _ _ ?_;clear hK1 K1)|(refine ow_go ?_ dsS (fun K1 hK1=>?_);exact trS;refine evS ?_;(try simp only [n1,c1,c7]);refine hK1 _ ?_;clear hK1 K1)|refine skipS ?_|refine cS (HP') ?_|refine aw_condT rfl ?_|refine aw_condF rfl ?_))
   (refine rtS Tryz.results27 ?_;exact ⟨_,_,.inl ⟨rfl,rfl⟩,List.nodup_nil,rfl⟩)
  have c7:(r.kind==7)=false:=by rw [beq_eq_false_iff_ne];exact k7
  by_cases k5:r.kind=5
  ·have c5:(r.kind==5)=true:=beq_iff_eq.2 k5
   rw [h5 m bs vs k5]
   refine cbS Tryz.func27 rfl Tryz.call27 Tryz.ntmps27 fun en hsz hks hk0=>?_;refine enS ?_
   (repeat (first|refine ctlS ?_|(refine ol_go ?_ (fun K1 hK1=>?_);exact trS;refine evS ?_;(try simp only [n1,c1,c7,c5]);refine hK1 _ _ ?_;clear hK1 K1)|(refine ow_go ?_ dsS (fun K1 hK1=>?_);exact trS;refine evS ?_;(try simp only [n1,c1,c7,c5]);refine hK1 _ ?_;clear hK1 K1)|refine skipS ?_|refine cS (HP') ?_|refine aw_condT rfl ?_|refine aw_condF rfl ?_))
   (refine rtS Tryz.results27 ?_;exact ⟨_,_,.inl ⟨rfl,rfl⟩,List.nodup_nil,rfl⟩)
  have c5:(r.kind==5)=false:=by rw [beq_eq_false_iff_ne];exact k5
  rw [h0 m bs vs (by omega) k5]
  refine cbS Tryz.func27 rfl Tryz.call27 Tryz.ntmps27 fun en hsz hks hk0=>?_;refine enS ?_
  (repeat (first|refine ctlS ?_|(refine ol_go ?_ (fun K1 hK1=>?_);exact trS;refine evS ?_;(try simp only [n1,c1,c7,c5]);refine hK1 _ _ ?_;clear hK1 K1)|(refine ow_go ?_ dsS (fun K1 hK1=>?_);exact trS;refine evS ?_;(try simp only [n1,c1,c7,c5]);refine hK1 _ ?_;clear hK1 K1)|refine skipS ?_|refine cS (HP') ?_|refine aw_condT rfl ?_|refine aw_condF rfl ?_))
  (refine rtS Tryz.results27 ?_;exact ⟨_,_,.inl ⟨rfl,rfl⟩,List.nodup_nil,rfl⟩)
end
end Go.Proofs.YtomfggmmhkpeeaaGreatDoor.Eng
