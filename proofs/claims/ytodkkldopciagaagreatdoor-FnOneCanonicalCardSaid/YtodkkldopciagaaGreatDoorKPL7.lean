/-
 Plain law: what is printed is read.

 Plain law: no file is the beginning of another one.

 Equal bytes, equal values: both sides.

 SameFile: both sides.

 Plain laws: the canonical encoding of a file.
-/
import Derived.Test.YtodkkldopciagaaGreatDoorKPLP
import Derived.Test.YtodkkldopciagaaGreatDoorKPure16
import Derived.Test.YtodkkldopciagaaGreatDoorKNPF
import Derived.Test.YtodkkldopciagaaGreatDoorKNRF
import Derived.Test.YtodkkldopciagaaGreatDoorKTy
import Derived.Test.YtodkkldopciagaaGreatDoorKN0
import Derived.Test.YtodkkldopciagaaGreatDoorKP2
import Derived.Test.YtodkkldopciagaaGreatDoorKLSB
import Derived.Test.YtodkkldopciagaaGreatDoorKPL6
import Derived.Test.YtodkkldopciagaaGreatDoorKPD10
set_option linter.unusedSimpArgs false
set_option linter.unusedVariables false
set_option linter.defProp false
set_option maxRecDepth 100000
set_option maxHeartbeats 4000000
namespace Go.Proofs.YtodkkldopciagaaGreatDoor.Eng
open Go Go.RowKit

section
variable {D:List RuleD}
theorem vKnown_of (hV:vDesc D=true) (hl:0<D.length):vKnown D ((D.length:Int) - 1)=true:=vKnown_yes hV (by omega)
theorem readV_at (hV:vDesc D=true) {i:Nat} (hi:i<D.length) {b:List UInt8}{p:Nat} (hp:p≤b.length) (hb:b.length≤400):readV D b (i:Int) (p:Int)=rd D b D.length i p:=by
 unfold readV
 rw [if_pos ⟨vKnown_yes hV (by omega),by omega,hb⟩,Int.toNat_natCast,Int.toNat_natCast]
end
end Go.Proofs.YtodkkldopciagaaGreatDoor.Eng
namespace Go.Proofs.YtodkkldopciagaaGreatDoor.Eng
open Go.RowKit

section
variable {D:List RuleD}{b:List UInt8}
theorem file_rd (hV:vDesc D=true) (hl:0<D.length) (hb:b.length≤400) (h:fileP D b=true):∃ v,rd D b D.length (D.length - 1) 0=(v,b.length,0):=by
 have hr:(D.length:Int) - 1=((D.length - 1:Nat):Int):=by omega
 have hrd:=readV_at (b:=b) (p:=0) hV (i:=D.length - 1) (by omega) (Nat.zero_le _) hb
 have hin:=(rd_in D b D.length (D.length - 1) 0 (Nat.zero_le _)).2
 unfold fileP readF at h
 rw [hr,show (0:Int)=((0:Nat):Int) from rfl,hrd] at h
 generalize rd D b D.length (D.length - 1) 0=z at h hin
 obtain ⟨v,n,c⟩:=z
 simp only at h hin
 split at h
 ·simp at h
 ·rename_i hc
  simp only [beq_iff_eq] at h
  have h0:c=0:=by omega
  subst h0
  have hc':¬n<b.length:=fun h=>hc ⟨rfl,h⟩
  have:n=b.length:=by omega
  rw [this]
  exact ⟨v,rfl⟩
noncomputable def cntF (D:List RuleD) (b:List UInt8):Nat→Nat
 | 0=>0
 | k+1=>cntF D b k+(if fileP D (b.take k)=true then 1 else 0)
end
end Go.Proofs.YtodkkldopciagaaGreatDoor.Eng
namespace Go.Proofs.YtodkkldopciagaaGreatDoor.Eng
open Go Go.RowKit

theorem eqVs_len {n m:Int}{bs cs:List UInt8}{vs ws:List V}:eqV (.mk n bs vs) (.mk m cs ws)=(n==m && (bs==cs && (vs.length==ws.length && eqVs vs ws))):=by rw [eqV]
private def tyF:=ai (ai (ai tg22 (ai tg24 tg38)) (ai tg58 (ai tg60 tg26))) (ai (ai tg40 (ai tg62 tg3)) (ai tg4 (ai tg5 tg9)))
theorem eqValI_step {n m:Int}{bs cs:List UInt8}{vs ws:List V} (hv:VB 1048576 (.mk n bs vs)) (hw:VB 1048576 (.mk m cs ws)) (H:∀ v∈vs,∀ w∈ws,AC Tryz.prog 21 [.d (encV v),.d (encV w)] none (fun r' _=>r'=.d (bD (eqV v w)))):AC Tryz.prog 21 [.d (encV (.mk n bs vs)),.d (encV (.mk m cs ws))] none (fun r' _=>r'=.d (bD (eqV (.mk n bs vs) (.mk m cs ws)))):=by
 unfold VB at hv hw
 obtain ⟨v1,v2,_⟩:=hv
 obtain ⟨w1,w2,_⟩:=hw
 have HB:=eqBytesI_c v1 w1
 rw [eqVs_len,encV_mk,encV_mk,encVs_eq,encVs_eq]
 by_cases hn:n=m
 ·have e1:(n==m)=true:=by simpa using hn
  have e1':(n != m)=false:=by simpa using hn
  cases hb:bs==cs with
  | false=>
   rw [hb] at HB
   refine cbS Tryz.func21 rfl Tryz.call21 Tryz.ntmps21 fun en hsz hks hk0=>?_;refine enS ?_
   (repeat (first|refine ctlS ?_|(refine ol_go ?_ (fun K1 hK1=>?_);exact trS;refine evS ?_;(try simp only [e1,e1']);refine hK1 _ _ ?_;clear hK1 K1)|(refine ow_go ?_ dsS (fun K1 hK1=>?_);exact trS;refine evS ?_;(try simp only [e1,e1']);refine hK1 _ ?_;clear hK1 K1)|refine skipS ?_|refine cS (HB) ?_))
   refine aw_condS rfl (fun hc=>?_) (fun hc=>?_)
   ·refine walkS ?_
    (refine rtS Tryz.results21 ?_;exact ⟨_,_,.inl ⟨rfl,rfl⟩,List.nodup_nil,by rw [e1];rfl⟩)
   ·(first|exact absurd trivial hc|exact absurd rfl hc|(cases hc;done)|omega|exact absurd hc (by decide)|(simp at hc;done))
  | true=>
   rw [hb] at HB
   by_cases hl:vs.length=ws.length
   ·have e2:(vs.length==ws.length)=true:=by simpa using hl
    have e2':((vs.length:Int) != ws.length)=false:=by simp [hl]
    refine cbS Tryz.func21 rfl Tryz.call21 Tryz.ntmps21 fun en hsz hks hk0=>?_;refine enS ?_
    (repeat (first|refine ctlS ?_|(refine ol_go ?_ (fun K1 hK1=>?_);exact trS;refine evS ?_;(try simp only [e1,e1',e2']);refine hK1 _ _ ?_;clear hK1 K1)|(refine ow_go ?_ dsS (fun K1 hK1=>?_);exact trS;refine evS ?_;(try simp only [e1,e1',e2']);refine hK1 _ ?_;clear hK1 K1)|refine skipS ?_|refine cS (HB) ?_))
    refine aw_condS rfl (fun hc=>?_) (fun hc=>?_)
    ·(first|exact absurd trivial hc|exact absurd rfl hc|(cases hc;done)|omega|exact absurd hc (by decide)|(simp at hc;done))
    refine walkS ?_
    refine aw_loopS [2,3,4,30] (fun _ _=>[]) (fun _ k=>[(31,.d (iD (k:Nat)))]) [] (fun _ _=>[]) [] (fun _ _=>[]) (fun k=>k≤vs.length∧eqVs vs ws=eqVs (vs.drop k) (ws.drop k)) (fun k=>vs.length - k) (0) hks (fun _=>rfl) ⟨Nat.zero_le _,rfl⟩ wkS ?_;intro x hx;refine headS ?_
    obtain ⟨hx1,hx2⟩:=hx
    refine walkS ?_
    refine aw_condS rfl (fun hk=>?_) (fun hk=>?_)
    ·rw [eqVs_step (by omega) (by omega)] at hx2
     have HV:=H (vs[x]'(by omega)) (List.getElem_mem _) (ws[x]'(by omega)) (List.getElem_mem _)
     cases he:eqV (vs[x]'(by omega)) (ws[x]'(by omega)) with
     | false=>
      rw [he] at hx2 HV
      (repeat (first|refine walkS ?_|refine cS (HV) ?_))
      refine aw_condS rfl (fun hc=>?_) (fun hc=>?_)
      ·refine walkS ?_
       (refine rtS Tryz.results21 ?_;exact ⟨_,_,.inl ⟨rfl,rfl⟩,List.nodup_nil,by rw [e1,e2,hx2];rfl⟩)
      ·(first|exact absurd trivial hc|exact absurd rfl hc|(cases hc;done)|omega|exact absurd hc (by decide)|(simp at hc;done))
     | true=>
      rw [he] at hx2 HV
      (repeat (first|refine walkS ?_|refine cS (HV) ?_))
      refine aw_condS rfl (fun hc=>?_) (fun hc=>?_)
      ·(first|exact absurd trivial hc|exact absurd rfl hc|(cases hc;done)|omega|exact absurd hc (by decide)|(simp at hc;done))
      ·refine walkS ?_
       refine ⟨x+1,⟨by omega,hx2⟩,by omega,?_⟩
       exact wkS
    ·rw [List.drop_eq_nil_of_le (by omega)] at hx2
     refine walkS ?_
     (refine rtS Tryz.results21 ?_;exact ⟨_,_,.inl ⟨rfl,rfl⟩,List.nodup_nil,by rw [e1,e2,hx2];rfl⟩)
   ·have e2:(vs.length==ws.length)=false:=by simpa using hl
    have e2':((vs.length:Int) != ws.length)=true:=by simp;omega
    refine cbS Tryz.func21 rfl Tryz.call21 Tryz.ntmps21 fun en hsz hks hk0=>?_;refine enS ?_
    (repeat (first|refine ctlS ?_|(refine ol_go ?_ (fun K1 hK1=>?_);exact trS;refine evS ?_;(try simp only [e1,e1',e2']);refine hK1 _ _ ?_;clear hK1 K1)|(refine ow_go ?_ dsS (fun K1 hK1=>?_);exact trS;refine evS ?_;(try simp only [e1,e1',e2']);refine hK1 _ ?_;clear hK1 K1)|refine skipS ?_|refine cS (HB) ?_))
    refine aw_condS rfl (fun hc=>?_) (fun hc=>?_)
    ·refine walkS ?_
     (refine rtS Tryz.results21 ?_;exact ⟨_,_,.inl ⟨rfl,rfl⟩,List.nodup_nil,by rw [e1,e2];rfl⟩)
    ·(first|exact absurd trivial hc|exact absurd rfl hc|(cases hc;done)|omega|exact absurd hc (by decide)|(simp at hc;done))
 ·have e1:(n==m)=false:=by simpa using hn
  have e1':(n != m)=true:=by simpa using hn
  refine cbS Tryz.func21 rfl Tryz.call21 Tryz.ntmps21 fun en hsz hks hk0=>?_;refine enS ?_
  (repeat (first|refine ctlS ?_|(refine ol_go ?_ (fun K1 hK1=>?_);exact trS;refine evS ?_;(try simp only [e1,e1']);refine hK1 _ _ ?_;clear hK1 K1)|(refine ow_go ?_ dsS (fun K1 hK1=>?_);exact trS;refine evS ?_;(try simp only [e1,e1']);refine hK1 _ ?_;clear hK1 K1)|refine skipS ?_))
  refine aw_condS rfl (fun hc=>?_) (fun hc=>?_)
  ·refine walkS ?_
   (refine rtS Tryz.results21 ?_;exact ⟨_,_,.inl ⟨rfl,rfl⟩,List.nodup_nil,by rw [e1];rfl⟩)
  ·(first|exact absurd trivial hc|exact absurd rfl hc|(cases hc;done)|omega|exact absurd hc (by decide)|(simp at hc;done))
theorem eqValI_all:∀ N:Nat,∀ {v w:V},SizeOf.sizeOf v≤N→VB 1048576 v→VB 1048576 w→AC Tryz.prog 21 [.d (encV v),.d (encV w)] none (fun r' _=>r'=.d (bD (eqV v w)))
 | 0,.mk n bs vs,w,h,_,_=>by simp only [V.mk.sizeOf_spec] at h;omega
 | N+1,.mk n bs vs,.mk m cs ws,h,hv,hw=>eqValI_step hv hw fun v hvm w hwm=>eqValI_all N (by have:=item_lt (n:=n) (bs:=bs) hvm;omega) (by unfold VB at hv;exact hv.2.2.el v hvm) (by unfold VB at hw;exact hw.2.2.el w hwm)
theorem eqValI_c {v w:V} (hv:VB 1048576 v) (hw:VB 1048576 w):AC Tryz.prog 21 [.d (encV v),.d (encV w)] none (fun r' _=>r'=.d (bD (eqV v w))):=eqValI_all _ (Nat.le_refl _) hv hw
end Go.Proofs.YtodkkldopciagaaGreatDoor.Eng
namespace Go.Proofs.YtodkkldopciagaaGreatDoor.Eng
open Go Go.RowKit

noncomputable def sameP (D:List RuleD) (a b:List UInt8):Bool:=((((readF D a).2.2:Int)==0) && (((readF D b).2.2:Int)==0)) && eqV (readF D a).1 (readF D b).1
section
variable {M:Nat}{D:List RuleD}{a b:List UInt8}
theorem sameI_c (hD:DB M D) (hM:M≤1048576) (ha:a.length≤1048576) (hb:b.length≤1048576):AC Tryz.prog 12 [.d (encD D),.d (encB a),.d (encB b)] none (fun r' _=>r'=.d (bD (sameP D a b))):=by
 have HA:=readFileI_c hD hM ha
 have HB:=readFileI_c hD hM hb
 have va:=readF_VB (hD.mono hM) ha (by omega)
 have vb:=readF_VB (hD.mono hM) hb (by omega)
 have hs:sameP D a b=(((((readF D a).2.2:Int)==0) && (((readF D b).2.2:Int)==0)) && eqV (readF D a).1 (readF D b).1):=rfl
 generalize readF D a=x at *
 generalize readF D b=y at *
 obtain ⟨v,q,c⟩:=x
 obtain ⟨w,q2,c2⟩:=y
 have HE:=eqValI_c va vb
 simp only at hs HE
 by_cases h1:c=0
 ·subst h1
  by_cases h2:c2=0
  ·subst h2
   refine cbS Tryz.func12 rfl Tryz.call12 Tryz.ntmps12 fun en hsz hks hk0=>?_;refine enS ?_
   (repeat (first|refine walkS ?_|refine cS (HA) ?_|refine cS (HB) ?_|refine cS (HE) ?_))
   (refine rtS Tryz.results12 ?_;exact ⟨_,_,.inl ⟨rfl,rfl⟩,List.nodup_nil,by rw [hs];rfl⟩)
  ·have e2:((c2:Int)==0)=false:=by simpa using h2
   refine cbS Tryz.func12 rfl Tryz.call12 Tryz.ntmps12 fun en hsz hks hk0=>?_;refine enS ?_
   (repeat (first|refine ctlS ?_|(refine ol_go ?_ (fun K1 hK1=>?_);exact trS;refine evS ?_;(try simp only [e2]);refine hK1 _ _ ?_;clear hK1 K1)|(refine ow_go ?_ dsS (fun K1 hK1=>?_);exact trS;refine evS ?_;(try simp only [e2]);refine hK1 _ ?_;clear hK1 K1)|refine skipS ?_|refine cS (HA) ?_|refine cS (HB) ?_|refine cS (HE) ?_))
   (refine rtS Tryz.results12 ?_;exact ⟨_,_,.inl ⟨rfl,rfl⟩,List.nodup_nil,by rw [hs,e2];rfl⟩)
 ·have e1:((c:Int)==0)=false:=by simpa using h1
  refine cbS Tryz.func12 rfl Tryz.call12 Tryz.ntmps12 fun en hsz hks hk0=>?_;refine enS ?_
  (repeat (first|refine ctlS ?_|(refine ol_go ?_ (fun K1 hK1=>?_);exact trS;refine evS ?_;(try simp only [e1]);refine hK1 _ _ ?_;clear hK1 K1)|(refine ow_go ?_ dsS (fun K1 hK1=>?_);exact trS;refine evS ?_;(try simp only [e1]);refine hK1 _ ?_;clear hK1 K1)|refine skipS ?_|refine cS (HA) ?_|refine cS (HB) ?_|refine cS (HE) ?_))
  (refine rtS Tryz.results12 ?_;exact ⟨_,_,.inl ⟨rfl,rfl⟩,List.nodup_nil,by rw [hs,e1];rfl⟩)
end
end Go.Proofs.YtodkkldopciagaaGreatDoor.Eng
namespace Go.Proofs.YtodkkldopciagaaGreatDoor.Eng
open Go Go.RowKit

section
variable {D:List RuleD}{b:List UInt8}
theorem file_known (h:fileP D b=true):descP D∧0<D.length∧b.length≤400:=by
 by_cases hk:vKnown D ((D.length:Int) - 1)=true∧(0≤(0:Int)∧(0:Int)≤b.length)∧b.length≤400
 ·obtain ⟨a,_,c⟩:=vKnown_spec hk.1
  exact ⟨a,by have:=a.1;omega,hk.2.2⟩
 ·exfalso
  have e:readV D b ((D.length:Int) - 1) 0=(V0,0,8):=if_neg hk
  unfold fileP readF at h
  rw [e] at h
  simp at h
def rootN (D:List RuleD):Nat:=D.length - 1
theorem file_can (h:fileP D b=true):∃ v,readF D b=(v,b.length,0)∧isVal D ((D.length:Int) - 1) v=true∧validV D (rootN D:Nat) v=true∧canR D b=(prV D (rootN D:Nat) v,true)∧(prV D (rootN D:Nat) v).length≤b.length∧
  (∀ U:Nat→Prop,(∀ (i:Nat) (r:RuleD),U i→D[i]?=some r→r.kind≠10∧∀ x∈r.kids,U x.toNat)→U (rootN D)→prV D (rootN D:Nat) v=b):=by
 obtain ⟨hP,hl,hb⟩:=file_known h
 have hV:=vDesc_yes hP
 obtain ⟨v,hrd⟩:=file_rd hV hl hb h
 have hr:(D.length:Int) - 1=(rootN D:Nat):=by unfold rootN;omega
 have hrd':rd D b D.length (rootN D) 0=(v,b.length,0):=hrd
 have C0:=rd_can (b:=b) (U:=fun _=>False) hP hb (fun _ _ h=>h.elim) D.length (rootN D) 0 (by unfold rootN;omega) (Nat.zero_le _)
 unfold Cq at C0
 rw [hrd'] at C0
 obtain ⟨_,_,c3,c4,_⟩:=C0 rfl
 simp only at c3 c4
 have hF:readF D b=(v,b.length,0):=by
  unfold readF
  rw [hr,show (0:Int)=((0:Nat):Int) from rfl,readV_at hV (by unfold rootN;omega) (Nat.zero_le _) hb,hrd']
  simp
 have hI:isVal D ((D.length:Int) - 1) v=true:=by
  unfold isVal
  rw [vKnown_of hV hl,hr,c3]
  rfl
 refine ⟨v,hF,hI,c3,?_,by omega,fun U hU hu=>?_⟩
 ·unfold canR
  rw [hF]
  simp only [if_true]
  rw [hr] at hI ⊢
  exact prR_t hI (by omega)
 ·have C1:=rd_can (b:=b) (U:=U) hP hb hU D.length (rootN D) 0 (by unfold rootN;omega) (Nat.zero_le _)
  unfold Cq at C1
  rw [hrd'] at C1
  have:=(C1 rfl).2.2.2.2 hu
  simp only [List.drop_zero,Nat.sub_zero,List.take_length] at this
  exact this.symm
theorem pr_file (hP:descP D) {v:V} (hv:validV D (rootN D:Nat) v=true) (hb:(prV D (rootN D:Nat) v).length≤400):readF D (prV D (rootN D:Nat) v)=(v,(prV D (rootN D:Nat) v).length,0):=by
 have hl:=hP.1.1
 have hr:(D.length:Int) - 1=(rootN D:Nat):=by unfold rootN;omega
 have h1:rd D (prV D (rootN D:Nat) v) D.length (rootN D) 0=(v,0+(prV D (rootN D:Nat) v).length,0):=rd_pr hP v (rootN D) D.length 0 [] (by unfold rootN;omega) (by unfold rootN;omega) hv (Nat.zero_le _) (by simp)
 unfold readF
 rw [hr,show (0:Int)=((0:Nat):Int) from rfl,readV_at (vDesc_yes hP) (by unfold rootN;omega) (Nat.zero_le _) hb,h1,Nat.zero_add]
 simp
theorem can_no (h:fileP D b=false):canR D b=([],false):=by
 unfold canR
 rw [if_neg]
 intro h0
 unfold fileP at h
 rw [h0] at h
 cases h
theorem can_yes (h:fileP D b=true):(canR D b).2=true∧(canR D b).1.length≤b.length∧canR D (canR D b).1=canR D b∧sameP D b (canR D b).1=true:=by
 obtain ⟨hP,hl,hb⟩:=file_known h
 obtain ⟨v,hF,hI,hv,hc,hle,_⟩:=file_can h
 have hF2:=pr_file hP hv (by omega)
 have hr:(D.length:Int) - 1=(rootN D:Nat):=by unfold rootN;omega
 rw [hc]
 refine ⟨rfl,hle,?_,?_⟩
 ·unfold canR
  rw [hF2]
  simp only [if_true]
  rw [hr] at hI ⊢
  exact prR_t hI (by omega)
 ·unfold sameP
  rw [hF,hF2]
  simp only [eqV_refl]
  rfl
theorem same_can {a b:List UInt8}:sameP D a b=((canR D a).2 && (canR D b).2 && ((canR D a).1==(canR D b).1)):=by
 cases ha:fileP D a with
 | false=>
  rw [can_no ha]
  unfold fileP at ha
  unfold sameP
  rw [ha]
  rfl
 | true=>
  cases hb:fileP D b with
  | false=>
   rw [can_no hb]
   unfold fileP at hb
   unfold sameP
   rw [hb,Bool.and_false,Bool.and_false]
   rfl
  | true=>
   obtain ⟨hP,hl,hla⟩:=file_known ha
   obtain ⟨_,_,hlb⟩:=file_known hb
   obtain ⟨v,hFa,_,hv,hca,hle,_⟩:=file_can ha
   obtain ⟨w,hFb,_,hw,hcb,hle2,_⟩:=file_can hb
   rw [hca,hcb]
   unfold sameP
   rw [hFa,hFb]
   show eqV v w=_
   simp only [Bool.and_self,Bool.true_and]
   by_cases e:v=w
   ·subst e
    rw [eqV_refl]
    simp
   ·rw [Bool.eq_false_iff.2 (fun h=>e (eqV_eq h))]
    refine (beq_eq_false_iff_ne.2 fun he=>e ?_).symm
    have h1:=pr_file hP hv (by omega)
    have h2:=pr_file hP hw (by omega)
    rw [he,h2] at h1
    exact (congrArg (fun z=>z.1) h1).symm
theorem can_bin (h:fileP D b=true) {U:Nat→Prop} (hU:∀ (i:Nat) (r:RuleD),U i→D[i]?=some r→r.kind≠10∧∀ x∈r.kids,U x.toNat) (hr:U (rootN D)):canR D b=(b,true):=by
 obtain ⟨v,_,_,_,hc,_,hu⟩:=file_can h
 rw [hc,hu U hU hr]
end
end Go.Proofs.YtodkkldopciagaaGreatDoor.Eng
