/-
 The texts of repairs: RepairText of both sides.
-/
import Derived.Test.YtndnefealooolaaGreatDoorKNRT
set_option linter.unusedSimpArgs false
set_option linter.unusedVariables false
set_option linter.defProp false
set_option maxRecDepth 100000
set_option maxHeartbeats 4000000
namespace Go.Proofs.YtndnefealooolaaGreatDoor.Eng
open Go Go.RowKit

section
variable {M:Nat}{D:List RuleD}{b:List UInt8}
private def tyF:=ai (ai (ai tg22 tg24) (ai tg57 (ai tg65 tg26))) (ai (ai tg30 (ai tg97 tg3)) (ai tg4 (ai tg5 tg9)))
theorem fmtMS_c {k i c:Nat} (hk:k=1∨k=2∨k=3) (hi:i≤1000) (hc:c≤1000):AC Tryz.prog 45 [.d (mutE k i c)] none (fun r' _=>r'=.d (sD (fmM k i c))):=by
 have f1:=fmtS_c (n:=i) (by omega)
 have f2:=fmtS_c (n:=c) (by omega)
 rw [fmtN_ito] at f1 f2
 have z1:=itoB_size i
 have z2:=itoB_size c
 have y2:ByteArray.size ⟨#[45]⟩=1:=rfl
 have y3:ByteArray.size ⟨#[61]⟩=1:=rfl
 have y4:ByteArray.size ⟨#[43]⟩=1:=rfl
 have y5:ByteArray.size ⟨#[58]⟩=1:=rfl
 have hk3:fmM k i c=if (k:Int)=3 then ⟨#[45]⟩++itoB i else (if (k:Int)=1 then ⟨#[61]⟩ else if (k:Int)=2 then ⟨#[43]⟩ else ⟨#[63]⟩)++itoB i++⟨#[58]⟩++itoB c:=rfl
 generalize itoB (i:Int)=si at *
 generalize itoB (c:Int)=sc at *
 have a1:(⟨#[61]⟩++si).size=si.size+1:=by rw [ByteArray.size_append,y3];omega
 have a2:(⟨#[61]⟩++si++⟨#[58]⟩).size=si.size+2:=by rw [ByteArray.size_append,a1,y5]
 have a3:(⟨#[43]⟩++si).size=si.size+1:=by rw [ByteArray.size_append,y4];omega
 have a4:(⟨#[43]⟩++si++⟨#[58]⟩).size=si.size+2:=by rw [ByteArray.size_append,a3,y5]
 rcases hk with rfl|rfl|rfl
 ·rw [if_neg (by decide),if_pos (by decide)] at hk3
  rw [hk3]
  refine cbS Tryz.func45 rfl Tryz.call45 Tryz.ntmps45 fun en hsz hks hk0=>?_;refine enS ?_
  (repeat (first|refine walkS ?_|refine aw_condT rfl ?_|refine aw_condF rfl ?_))
  (repeat (first|refine walkS ?_|refine cS (f1) ?_|refine cS (f2) ?_|refine aw_condT rfl ?_|refine aw_condF rfl ?_))
  (refine rtS Tryz.results45 ?_;exact ⟨_,_,.inl ⟨rfl,rfl⟩,List.nodup_nil,rfl⟩)
 ·rw [if_neg (by decide),if_neg (by decide),if_pos (by decide)] at hk3
  rw [hk3]
  refine cbS Tryz.func45 rfl Tryz.call45 Tryz.ntmps45 fun en hsz hks hk0=>?_;refine enS ?_
  (repeat (first|refine walkS ?_|refine aw_condT rfl ?_|refine aw_condF rfl ?_))
  (repeat (first|refine walkS ?_|refine cS (f1) ?_|refine cS (f2) ?_|refine aw_condT rfl ?_|refine aw_condF rfl ?_))
  (refine rtS Tryz.results45 ?_;exact ⟨_,_,.inl ⟨rfl,rfl⟩,List.nodup_nil,rfl⟩)
 ·rw [if_pos (by decide)] at hk3
  rw [hk3]
  refine cbS Tryz.func45 rfl Tryz.call45 Tryz.ntmps45 fun en hsz hks hk0=>?_;refine enS ?_
  (repeat (first|refine walkS ?_|refine aw_condT rfl ?_|refine aw_condF rfl ?_))
  (repeat (first|refine walkS ?_|refine cS (f1) ?_|refine cS (f2) ?_|refine aw_condT rfl ?_|refine aw_condF rfl ?_))
  (refine rtS Tryz.results45 ?_;exact ⟨_,_,.inl ⟨rfl,rfl⟩,List.nodup_nil,rfl⟩)
theorem repR_fits (F:List UInt8→Bool) (b:List UInt8) (h:(repR F b).2.2=true) (hf:F b=false):∃ i k:Nat,(repR F b).2.1=(1,(i:Int),(k:Int))∧i≤40∧k<256:=by
 rcases repR_says F b with ⟨_,_,e⟩|⟨i,k,h1,h2,e,_,_,h3⟩|⟨e,_⟩
 ·rw [hf] at e;cases e
 ·exact ⟨i,k,by rw [e],by omega,h2⟩
 ·rw [e] at h;cases h
theorem repL_fits (F:List UInt8→Bool) (b:List UInt8) (h:(repL F b).2.2=true) (hf:F b=false):∃ m i k:Nat,(repL F b).2.1=((m:Int),(i:Int),(k:Int))∧(m=1∨m=2∨m=3)∧i≤40∧k<256:=by
 rcases repL_says F b with ⟨_,_,e⟩|⟨i,h1,e,_,_,h3⟩|⟨i,k,h1,h2,e,_,_,h3⟩|e
 ·rw [hf] at e;cases e
 ·exact ⟨3,i,0,by rw [e];rfl,.inr (.inr rfl),by omega,by omega⟩
 ·exact ⟨2,i,k,by rw [e];rfl,.inr (.inl rfl),by omega,h2⟩
 ·rw [e] at h;cases h
theorem rtP_1 {F:List UInt8→Bool}{b:List UInt8} (h:F b=true):rtP F b=⟨#[111,107]⟩:=by unfold rtP;rw [if_pos h]
theorem rtP_2 {F:List UInt8→Bool}{b:List UInt8} (h:F b=false) (h2:(repR F b).2.2=true):rtP F b=fmM (repR F b).2.1.1 (repR F b).2.1.2.1 (repR F b).2.1.2.2:=by unfold rtP;rw [if_neg (by rw [h];decide),if_pos h2]
theorem rtP_3 {F:List UInt8→Bool}{b:List UInt8} (h:F b=false) (h2:(repR F b).2.2=false) (h3:(repL F b).2.2=true):rtP F b=fmM (repL F b).2.1.1 (repL F b).2.1.2.1 (repL F b).2.1.2.2:=by unfold rtP;rw [if_neg (by rw [h];decide),if_neg (by rw [h2];decide),if_pos h3]
theorem rtP_4 {F:List UInt8→Bool}{b:List UInt8} (h:F b=false) (h2:(repR F b).2.2=false) (h3:(repL F b).2.2=false):rtP F b=⟨#[110,111,110,101]⟩:=by unfold rtP;rw [if_neg (by rw [h];decide),if_neg (by rw [h2];decide),if_neg (by rw [h3];decide)]
theorem repRI_d (hD:DB M D) (hM:M≤1048576) (hb:b.length≤1048576):AC Tryz.prog 9 [.d (encD D),.d (encB b)] none (fun r' _=>r'=repZ (repR (fileP D) b)):=(repRI_n hD hM hb).sem (X:=.tup [encB (repR (fileP D) b).1,mutE (repR (fileP D) b).2.1.1 (repR (fileP D) b).2.1.2.1 (repR (fileP D) b).2.1.2.2,bD (repR (fileP D) b).2.2]) (repN_sem (repR (fileP D) b))
theorem repLI_d (hD:DB M D) (hM:M≤1048576) (hb:b.length≤1048576):AC Tryz.prog 29 [.d (encD D),.d (encB b)] none (fun r' _=>r'=repZ (repL (fileP D) b)):=(repLI_n hD hM hb).sem (X:=.tup [encB (repL (fileP D) b).1,mutE (repL (fileP D) b).2.1.1 (repL (fileP D) b).2.1.2.1 (repL (fileP D) b).2.1.2.2,bD (repL (fileP D) b).2.2]) (repN_sem (repL (fileP D) b))
theorem repTI_c (hD:DB M D) (hM:M≤1048576) (hb:b.length≤1048576):AC Tryz.prog 25 [.d (encD D),.d (encB b)] none (fun r' _=>r'=.d (sD (rtP (fileP D) b))):=by
 have F1:=isFileI_c (b:=b) hD hM hb
 have R1:=repRI_d (b:=b) hD hM hb
 have L1:=repLI_d (b:=b) hD hM hb
 have k1:=repR_fits (fileP D) b
 have k2:=repL_fits (fileP D) b
 cases hf:fileP D b with
 | true=>
  rw [hf] at F1
  rw [rtP_1 hf]
  refine cbS Tryz.func25 rfl Tryz.call25 Tryz.ntmps25 fun en hsz hks hk0=>?_;refine enS ?_
  (repeat (first|refine walkS ?_|refine cS (F1) ?_|refine aw_condT rfl ?_|refine aw_condF rfl ?_))
  (refine rtS Tryz.results25 ?_;exact ⟨_,_,.inl ⟨rfl,rfl⟩,List.nodup_nil,rfl⟩)
 | false=>
  rw [hf] at F1
  cases h2:(repR (fileP D) b).2.2 with
  | true=>
   rw [rtP_2 hf h2]
   obtain ⟨i,k,e,h3,h4⟩:=k1 h2 hf
   generalize repR (fileP D) b=T at *
   obtain ⟨x,m,ok⟩:=T
   simp only at e h2 R1
   subst e h2
   have M1:=fmtMI_c (k:=1) (i:=i) (c:=k) (.inl rfl) (by omega) (by omega)
   refine cbS Tryz.func25 rfl Tryz.call25 Tryz.ntmps25 fun en hsz hks hk0=>?_;refine enS ?_
   (repeat (first|refine walkS ?_|refine cS (F1) ?_|refine aw_condT rfl ?_|refine aw_condF rfl ?_))
   (repeat (first|refine walkS ?_|refine cS (R1) ?_|refine aw_condT rfl ?_|refine aw_condF rfl ?_))
   (repeat (first|refine walkS ?_|refine cS (M1) ?_|refine aw_condT rfl ?_|refine aw_condF rfl ?_))
   (refine rtS Tryz.results25 ?_;exact ⟨_,_,.inl ⟨rfl,rfl⟩,List.nodup_nil,rfl⟩)
  | false=>
   cases h3:(repL (fileP D) b).2.2 with
   | true=>
    rw [rtP_3 hf h2 h3]
    obtain ⟨m0,i,k,e,h5,h6,h4⟩:=k2 h3 hf
    generalize repR (fileP D) b=T0 at *
    obtain ⟨x0,⟨m1,m2,m3⟩,ok0⟩:=T0
    simp only at h2 R1
    subst h2
    generalize repL (fileP D) b=T at *
    obtain ⟨x,m,ok⟩:=T
    simp only at e h3 L1
    subst e h3
    have M1:=fmtMI_c (k:=m0) (i:=i) (c:=k) h5 (by omega) (by omega)
    refine cbS Tryz.func25 rfl Tryz.call25 Tryz.ntmps25 fun en hsz hks hk0=>?_;refine enS ?_
    (repeat (first|refine walkS ?_|refine cS (F1) ?_|refine aw_condT rfl ?_|refine aw_condF rfl ?_))
    (repeat (first|refine walkS ?_|refine cS (R1) ?_|refine aw_condT rfl ?_|refine aw_condF rfl ?_))
    (repeat (first|refine walkS ?_|refine cS (L1) ?_|refine aw_condT rfl ?_|refine aw_condF rfl ?_))
    (repeat (first|refine walkS ?_|refine cS (M1) ?_|refine aw_condT rfl ?_|refine aw_condF rfl ?_))
    (refine rtS Tryz.results25 ?_;exact ⟨_,_,.inl ⟨rfl,rfl⟩,List.nodup_nil,rfl⟩)
   | false=>
    rw [rtP_4 hf h2 h3]
    generalize repR (fileP D) b=T0 at *
    obtain ⟨x0,⟨m1,m2,m3⟩,ok0⟩:=T0
    simp only at h2 R1
    subst h2
    generalize repL (fileP D) b=T at *
    obtain ⟨x,⟨l1,l2,l3⟩,ok⟩:=T
    simp only at h3 L1
    subst h3
    refine cbS Tryz.func25 rfl Tryz.call25 Tryz.ntmps25 fun en hsz hks hk0=>?_;refine enS ?_
    (repeat (first|refine walkS ?_|refine cS (F1) ?_|refine aw_condT rfl ?_|refine aw_condF rfl ?_))
    (repeat (first|refine walkS ?_|refine cS (R1) ?_|refine aw_condT rfl ?_|refine aw_condF rfl ?_))
    (repeat (first|refine walkS ?_|refine cS (L1) ?_|refine aw_condT rfl ?_|refine aw_condF rfl ?_))
    (refine rtS Tryz.results25 ?_;exact ⟨_,_,.inl ⟨rfl,rfl⟩,List.nodup_nil,rfl⟩)
theorem repTS_c (hD:DB M D) (hM:M≤1048576) (hb:b.length≤1048576):AC Tryz.prog 22 [.d (encD D),.d (encB b)] none (fun r' _=>r'=.d (sD (rtP (fileP D) b))):=by
 have F1:=isFileS_c (b:=b) hD hM hb
 have R1:=repRS_c (b:=b) hD hM hb
 have L1:=repLS_c (b:=b) hD hM hb
 have k1:=repR_fits (fileP D) b
 have k2:=repL_fits (fileP D) b
 cases hf:fileP D b with
 | true=>
  rw [hf] at F1
  rw [rtP_1 hf]
  refine cbS Tryz.func22 rfl Tryz.call22 Tryz.ntmps22 fun en hsz hks hk0=>?_;refine enS ?_
  (repeat (first|refine walkS ?_|refine cS (F1) ?_|refine aw_condT rfl ?_|refine aw_condF rfl ?_))
  (refine rtS Tryz.results22 ?_;exact ⟨_,_,.inl ⟨rfl,rfl⟩,List.nodup_nil,rfl⟩)
 | false=>
  rw [hf] at F1
  cases h2:(repR (fileP D) b).2.2 with
  | true=>
   rw [rtP_2 hf h2]
   obtain ⟨i,k,e,h3,h4⟩:=k1 h2 hf
   generalize repR (fileP D) b=T at *
   obtain ⟨x,m,ok⟩:=T
   simp only at e h2 R1
   subst e h2
   have M1:=fmtMS_c (k:=1) (i:=i) (c:=k) (.inl rfl) (by omega) (by omega)
   refine cbS Tryz.func22 rfl Tryz.call22 Tryz.ntmps22 fun en hsz hks hk0=>?_;refine enS ?_
   (repeat (first|refine walkS ?_|refine cS (F1) ?_|refine aw_condT rfl ?_|refine aw_condF rfl ?_))
   (repeat (first|refine walkS ?_|refine cS (R1) ?_|refine aw_condT rfl ?_|refine aw_condF rfl ?_))
   (repeat (first|refine walkS ?_|refine cS (M1) ?_|refine aw_condT rfl ?_|refine aw_condF rfl ?_))
   (refine rtS Tryz.results22 ?_;exact ⟨_,_,.inl ⟨rfl,rfl⟩,List.nodup_nil,rfl⟩)
  | false=>
   cases h3:(repL (fileP D) b).2.2 with
   | true=>
    rw [rtP_3 hf h2 h3]
    obtain ⟨m0,i,k,e,h5,h6,h4⟩:=k2 h3 hf
    generalize repR (fileP D) b=T0 at *
    obtain ⟨x0,⟨m1,m2,m3⟩,ok0⟩:=T0
    simp only at h2 R1
    subst h2
    generalize repL (fileP D) b=T at *
    obtain ⟨x,m,ok⟩:=T
    simp only at e h3 L1
    subst e h3
    have M1:=fmtMS_c (k:=m0) (i:=i) (c:=k) h5 (by omega) (by omega)
    refine cbS Tryz.func22 rfl Tryz.call22 Tryz.ntmps22 fun en hsz hks hk0=>?_;refine enS ?_
    (repeat (first|refine walkS ?_|refine cS (F1) ?_|refine aw_condT rfl ?_|refine aw_condF rfl ?_))
    (repeat (first|refine walkS ?_|refine cS (R1) ?_|refine aw_condT rfl ?_|refine aw_condF rfl ?_))
    (repeat (first|refine walkS ?_|refine cS (L1) ?_|refine aw_condT rfl ?_|refine aw_condF rfl ?_))
    (repeat (first|refine walkS ?_|refine cS (M1) ?_|refine aw_condT rfl ?_|refine aw_condF rfl ?_))
    (refine rtS Tryz.results22 ?_;exact ⟨_,_,.inl ⟨rfl,rfl⟩,List.nodup_nil,rfl⟩)
   | false=>
    rw [rtP_4 hf h2 h3]
    generalize repR (fileP D) b=T0 at *
    obtain ⟨x0,⟨m1,m2,m3⟩,ok0⟩:=T0
    simp only at h2 R1
    subst h2
    generalize repL (fileP D) b=T at *
    obtain ⟨x,⟨l1,l2,l3⟩,ok⟩:=T
    simp only at h3 L1
    subst h3
    refine cbS Tryz.func22 rfl Tryz.call22 Tryz.ntmps22 fun en hsz hks hk0=>?_;refine enS ?_
    (repeat (first|refine walkS ?_|refine cS (F1) ?_|refine aw_condT rfl ?_|refine aw_condF rfl ?_))
    (repeat (first|refine walkS ?_|refine cS (R1) ?_|refine aw_condT rfl ?_|refine aw_condF rfl ?_))
    (repeat (first|refine walkS ?_|refine cS (L1) ?_|refine aw_condT rfl ?_|refine aw_condF rfl ?_))
    (refine rtS Tryz.results22 ?_;exact ⟨_,_,.inl ⟨rfl,rfl⟩,List.nodup_nil,rfl⟩)
end
end Go.Proofs.YtndnefealooolaaGreatDoor.Eng
