/-
 The law: FnRepairs.
-/
import Derived.Test.YtndnefealooolaaGreatDoorKNR9
import Derived.Test.YtndnefealooolaaGreatDoorKNR12
import Derived.Test.YtndnefealooolaaGreatDoorKNR4
import Derived.Test.YtndnefealooolaaGreatDoorKNR3
import Derived.Test.YtndnefealooolaaGreatDoorKNR5
import Derived.Test.YtndnefealooolaaGreatDoorKLWX
import Derived.Test.YtndnefealooolaaGreatDoorKNR2
set_option linter.unusedSimpArgs false
set_option linter.unusedVariables false
set_option linter.defProp false
set_option maxRecDepth 100000
set_option maxHeartbeats 4000000
namespace Go.Proofs.YtndnefealooolaaGreatDoor.Eng
open Go Go.RowKit

private def tyF:=ai (ai (ai tg22 tg24) (ai tg57 (ai tg65 tg26))) (ai (ai tg30 (ai tg97 tg3)) (ai tg4 (ai tg5 tg9)))
theorem lawRR_y {B:List UInt8} (b1:AC Tryz.prog 7 [.d (encB B)] none (fun r' _=>r'=.d (bD false))) {D:List RuleD}{b x:List UInt8}{k i c:Int}{f:Bool}
  (V1:AC Tryz.prog 8 [.d (encB B)] none (fun r' _=>r'=.d (.tup [encD D,encB b])))
  (HI:AC Tryz.prog 9 [.d (encD D),.d (encB b)] none (fun r' _=>r'=.d (.tup [encB x,mutE k i c,bD true])))
  (HS:AC Tryz.prog 10 [.d (encD D),.d (encB b)] none (fun r' _=>r'=.d (.tup [encB x,mutE k i c,bD true])))
  (Q1:AC Tryz.prog 11 [.d (encB x),.d (encB x)] none (fun r' _=>r'=.d (bD true)))
  (F1:AC Tryz.prog 13 [.d (encD D),.d (encB x)] none (fun r' _=>r'=.d (bD true)))
  (F2:AC Tryz.prog 13 [.d (encD D),.d (encB b)] none (fun r' _=>r'=.d (bD f)))
  {de:Int} (E1:AC Tryz.prog 14 [.d (encB b),.d (encB x)] none (fun r' _=>r'=.d (iD de))) (hde:de≤1)
  (hx:x.length=b.length) (hk:(k==0)=f):AC Tryz.prog 3 [.d (encB B)] none (fun r' _=>r'=.d (bD true)):=by
 have w1:decide (de≤1)=true:=decide_eq_true hde
 have w3:((b.length:Int)==(b.length:Int))=true:=beq_self_eq_true _
 have w5:(f==f)=true:=beq_self_eq_true _
 refine cbS Tryz.func3 rfl Tryz.call3 Tryz.ntmps3 fun en hsz hks hk0=>?_;refine enS ?_
 (repeat (first|refine walkS ?_|refine cS (b1) ?_|refine cS (V1) ?_|refine aw_condT rfl ?_|refine aw_condF rfl ?_))
 (repeat (first|refine walkS ?_|refine cS (HI) ?_|refine aw_condT rfl ?_|refine aw_condF rfl ?_))
 (repeat (first|refine ctlS ?_|(refine ol_go ?_ (fun K1 hK1=>?_);exact trS;refine evS ?_;(try simp only [beq_self_eq_true]);refine hK1 _ _ ?_;clear hK1 K1)|(refine ow_go ?_ dsS (fun K1 hK1=>?_);exact trS;refine evS ?_;(try simp only [beq_self_eq_true]);refine hK1 _ ?_;clear hK1 K1)|refine skipS ?_|refine cS (HS) ?_|refine aw_condT rfl ?_|refine aw_condF rfl ?_))
 (repeat (first|refine ctlS ?_|(refine ol_go ?_ (fun K1 hK1=>?_);exact trS;refine evS ?_;(try simp only [beq_self_eq_true]);refine hK1 _ _ ?_;clear hK1 K1)|(refine ow_go ?_ dsS (fun K1 hK1=>?_);exact trS;refine evS ?_;(try simp only [beq_self_eq_true]);refine hK1 _ ?_;clear hK1 K1)|refine skipS ?_|refine cS (Q1) ?_|refine aw_condT rfl ?_|refine aw_condF rfl ?_))
 (repeat (first|refine walkS ?_|refine cS (F1) ?_|refine aw_condT rfl ?_|refine aw_condF rfl ?_))
 (repeat (first|refine ctlS ?_|(refine ol_go ?_ (fun K1 hK1=>?_);exact trS;refine evS ?_;(try simp only [w1,hx,w3]);refine hK1 _ _ ?_;clear hK1 K1)|(refine ow_go ?_ dsS (fun K1 hK1=>?_);exact trS;refine evS ?_;(try simp only [w1,hx,w3]);refine hK1 _ ?_;clear hK1 K1)|refine skipS ?_|refine cS (E1) ?_|refine aw_condT rfl ?_|refine aw_condF rfl ?_))
 (repeat (first|refine ctlS ?_|(refine ol_go ?_ (fun K1 hK1=>?_);exact trS;refine evS ?_;(try simp only [hk,w5]);refine hK1 _ _ ?_;clear hK1 K1)|(refine ow_go ?_ dsS (fun K1 hK1=>?_);exact trS;refine evS ?_;(try simp only [hk,w5]);refine hK1 _ ?_;clear hK1 K1)|refine skipS ?_|refine cS (F2) ?_|refine aw_condT rfl ?_|refine aw_condF rfl ?_))
 (refine rtS Tryz.results3 ?_;exact ⟨_,_,.inl ⟨rfl,rfl⟩,List.nodup_nil,rfl⟩)
theorem lawRR_n0 {B:List UInt8} (b1:AC Tryz.prog 7 [.d (encB B)] none (fun r' _=>r'=.d (bD false))) {D:List RuleD}{b:List UInt8}
  (V1:AC Tryz.prog 8 [.d (encB B)] none (fun r' _=>r'=.d (.tup [encD D,encB b])))
  (HI:AC Tryz.prog 9 [.d (encD D),.d (encB b)] none (fun r' _=>r'=.d (.tup [encB b,mutE 0 0 0,bD false])))
  (HS:AC Tryz.prog 10 [.d (encD D),.d (encB b)] none (fun r' _=>r'=.d (.tup [encB b,mutE 0 0 0,bD false])))
  (Q1:AC Tryz.prog 11 [.d (encB b),.d (encB b)] none (fun r' _=>r'=.d (bD true)))
  (h1:b.length=0):AC Tryz.prog 3 [.d (encB B)] none (fun r' _=>r'=.d (bD true)):=by
 have w0:((b.length:Int)==0)=true:=beq_iff_eq.2 (by omega)
 refine cbS Tryz.func3 rfl Tryz.call3 Tryz.ntmps3 fun en hsz hks hk0=>?_;refine enS ?_
 (repeat (first|refine walkS ?_|refine cS (b1) ?_|refine cS (V1) ?_|refine aw_condT rfl ?_|refine aw_condF rfl ?_))
 (repeat (first|refine walkS ?_|refine cS (HI) ?_|refine aw_condT rfl ?_|refine aw_condF rfl ?_))
 (repeat (first|refine ctlS ?_|(refine ol_go ?_ (fun K1 hK1=>?_);exact trS;refine evS ?_;(try simp only [beq_self_eq_true]);refine hK1 _ _ ?_;clear hK1 K1)|(refine ow_go ?_ dsS (fun K1 hK1=>?_);exact trS;refine evS ?_;(try simp only [beq_self_eq_true]);refine hK1 _ ?_;clear hK1 K1)|refine skipS ?_|refine cS (HS) ?_|refine aw_condT rfl ?_|refine aw_condF rfl ?_))
 (repeat (first|refine ctlS ?_|(refine ol_go ?_ (fun K1 hK1=>?_);exact trS;refine evS ?_;(try simp only [w0,beq_self_eq_true]);refine hK1 _ _ ?_;clear hK1 K1)|(refine ow_go ?_ dsS (fun K1 hK1=>?_);exact trS;refine evS ?_;(try simp only [w0,beq_self_eq_true]);refine hK1 _ ?_;clear hK1 K1)|refine skipS ?_|refine cS (Q1) ?_|refine aw_condT rfl ?_|refine aw_condF rfl ?_))
 (refine rtS Tryz.results3 ?_;exact ⟨_,_,.inl ⟨rfl,rfl⟩,List.nodup_nil,rfl⟩)
theorem lawRR_n1 {B:List UInt8} (b1:AC Tryz.prog 7 [.d (encB B)] none (fun r' _=>r'=.d (bD false))) {D:List RuleD}{b:List UInt8}
  (V1:AC Tryz.prog 8 [.d (encB B)] none (fun r' _=>r'=.d (.tup [encD D,encB b])))
  (HI:AC Tryz.prog 9 [.d (encD D),.d (encB b)] none (fun r' _=>r'=.d (.tup [encB b,mutE 0 0 0,bD false])))
  (HS:AC Tryz.prog 10 [.d (encD D),.d (encB b)] none (fun r' _=>r'=.d (.tup [encB b,mutE 0 0 0,bD false])))
  (Q1:AC Tryz.prog 11 [.d (encB b),.d (encB b)] none (fun r' _=>r'=.d (bD true)))
  (h1:¬b.length=0) (h2:40<b.length):AC Tryz.prog 3 [.d (encB B)] none (fun r' _=>r'=.d (bD true)):=by
 have w0:((b.length:Int)==0)=false:=by rw [beq_eq_false_iff_ne];omega
 have w1:decide ((40:Int)<(b.length:Int))=true:=decide_eq_true (by omega)
 refine cbS Tryz.func3 rfl Tryz.call3 Tryz.ntmps3 fun en hsz hks hk0=>?_;refine enS ?_
 (repeat (first|refine walkS ?_|refine cS (b1) ?_|refine cS (V1) ?_|refine aw_condT rfl ?_|refine aw_condF rfl ?_))
 (repeat (first|refine walkS ?_|refine cS (HI) ?_|refine aw_condT rfl ?_|refine aw_condF rfl ?_))
 (repeat (first|refine ctlS ?_|(refine ol_go ?_ (fun K1 hK1=>?_);exact trS;refine evS ?_;(try simp only [beq_self_eq_true]);refine hK1 _ _ ?_;clear hK1 K1)|(refine ow_go ?_ dsS (fun K1 hK1=>?_);exact trS;refine evS ?_;(try simp only [beq_self_eq_true]);refine hK1 _ ?_;clear hK1 K1)|refine skipS ?_|refine cS (HS) ?_|refine aw_condT rfl ?_|refine aw_condF rfl ?_))
 (repeat (first|refine ctlS ?_|(refine ol_go ?_ (fun K1 hK1=>?_);exact trS;refine evS ?_;(try simp only [w0,w1,beq_self_eq_true]);refine hK1 _ _ ?_;clear hK1 K1)|(refine ow_go ?_ dsS (fun K1 hK1=>?_);exact trS;refine evS ?_;(try simp only [w0,w1,beq_self_eq_true]);refine hK1 _ ?_;clear hK1 K1)|refine skipS ?_|refine cS (Q1) ?_|refine aw_condT rfl ?_|refine aw_condF rfl ?_))
 (refine rtS Tryz.results3 ?_;exact ⟨_,_,.inl ⟨rfl,rfl⟩,List.nodup_nil,rfl⟩)
theorem lawRR_n2 {B:List UInt8} (b1:AC Tryz.prog 7 [.d (encB B)] none (fun r' _=>r'=.d (bD false))) {D:List RuleD}{b:List UInt8}
  (V1:AC Tryz.prog 8 [.d (encB B)] none (fun r' _=>r'=.d (.tup [encD D,encB b])))
  (HI:AC Tryz.prog 9 [.d (encD D),.d (encB b)] none (fun r' _=>r'=.d (.tup [encB b,mutE 0 0 0,bD false])))
  (HS:AC Tryz.prog 10 [.d (encD D),.d (encB b)] none (fun r' _=>r'=.d (.tup [encB b,mutE 0 0 0,bD false])))
  (Q1:AC Tryz.prog 11 [.d (encB b),.d (encB b)] none (fun r' _=>r'=.d (bD true)))
  (hB:B.length≤1048576) (hDB:DB 1048576 D) (hl:b.length≤121) (h1:¬b.length=0) (h2:¬40<b.length) (s1:∀ i k,i<b.length→k<256→fileP D (b.set i (UInt8.ofNat k))=false):AC Tryz.prog 3 [.d (encB B)] none (fun r' _=>r'=.d (bD true)):=by
 have w0:((b.length:Int)==0)=false:=by rw [beq_eq_false_iff_ne];omega
 have w1:decide ((40:Int)<(b.length:Int))=false:=decide_eq_false (by omega)
 have A0:=atL_c hB (i:=0) (by omega)
 have A1:=atL_c hB (i:=1) (by omega)
 have a0:=atN_in B 0
 have a1:=atN_in B 1
 generalize atN B 0=n0 at *
 generalize atN B 1=n1 at *
 have u1:=u8_draw a1
 have hr:IntKind.i64.wrap (n0.tmod b.length)=n0.tmod b.length:=wrap_rem (by omega) (by omega) (by omega)
 have j1:=Int.tmod_nonneg (a:=n0) (b.length:Int) (by omega)
 have j2:=Int.tmod_lt_of_pos n0 (b:=(b.length:Int)) (by omega)
 obtain ⟨j,hj⟩:∃ j:Nat,n0.tmod b.length=(j:Int):=⟨_,(Int.toNat_of_nonneg j1).symm⟩
 rw [hj] at hr
 have hjl:j<b.length:=by omega
 have hk:n1.toNat<256:=by omega
 have hf:=s1 j n1.toNat hjl hk
 have HG:=isFileS_c hDB (Nat.le_refl _) (b:=b.set j (UInt8.ofNat n1.toNat)) (by rw [List.length_set];omega)
 rw [hf] at HG
 have hz:∀ e∈(b.set j (UInt8.ofNat n1.toNat)).map fun c=>[uD c],e.length=1:=fun e he=>by
  obtain ⟨x,_,rfl⟩:=List.mem_map.1 he
  rfl
 have hlen:(b.set j (UInt8.ofNat n1.toNat)).length=b.length:=List.length_set ..
 generalize hv:UInt8.ofNat n1.toNat=v at *
 refine cbS Tryz.func3 rfl Tryz.call3 Tryz.ntmps3 fun en hsz hks hk0=>?_;refine enS ?_
 (repeat (first|refine walkS ?_|refine cS (b1) ?_|refine cS (V1) ?_|refine aw_condT rfl ?_|refine aw_condF rfl ?_))
 (repeat (first|refine walkS ?_|refine cS (HI) ?_|refine aw_condT rfl ?_|refine aw_condF rfl ?_))
 (repeat (first|refine ctlS ?_|(refine ol_go ?_ (fun K1 hK1=>?_);exact trS;refine evS ?_;(try simp only [beq_self_eq_true]);refine hK1 _ _ ?_;clear hK1 K1)|(refine ow_go ?_ dsS (fun K1 hK1=>?_);exact trS;refine evS ?_;(try simp only [beq_self_eq_true]);refine hK1 _ ?_;clear hK1 K1)|refine skipS ?_|refine cS (HS) ?_|refine aw_condT rfl ?_|refine aw_condF rfl ?_))
 (repeat (first|refine ctlS ?_|(refine ol_go ?_ (fun K1 hK1=>?_);exact trS;refine evS ?_;(try simp only [w0,beq_self_eq_true]);refine hK1 _ _ ?_;clear hK1 K1)|(refine ow_go ?_ dsS (fun K1 hK1=>?_);exact trS;refine evS ?_;(try simp only [w0,beq_self_eq_true]);refine hK1 _ ?_;clear hK1 K1)|refine skipS ?_|refine cS (Q1) ?_|refine aw_condT rfl ?_|refine aw_condF rfl ?_))
 refine aw_condS rfl (fun h3=>?_) (fun h3=>?_)
 ·(first|exact absurd trivial h3|exact absurd rfl h3|(cases h3;done)|omega|exact absurd h3 (by decide)|(simp at h3;done))
 (repeat (first|(refine ow_bs0 ?_ dsS rfl te22 tr5 (fun ad=>?_);exact trS;simp only [St.set])|(refine ow_appendA ?_ dsS rfl te22 tr5 tz5 rfl rfl ?_ ?_ (fun tl=>?_);exact trS;(simp only [List.length_map];omega);(simp only [List.length_map];omega);simp only [St.set])|refine ctlS ?_|(refine ol_go ?_ (fun K1 hK1=>?_);exact trS;refine evS ?_;(try simp only [rowA_eq]);refine hK1 _ _ ?_;clear hK1 K1)|(refine ow_go ?_ dsS (fun K1 hK1=>?_);exact trS;refine evS ?_;(try simp only [rowA_eq]);refine hK1 _ ?_;clear hK1 K1)|refine skipS ?_))
 have hL:=rowD_len b tl
 have hS:splice ((rowD b tl).map A.d) [A.d (uD v)] (j*1)=(rowD (b.set j v) tl).map A.d:=by rw [Nat.mul_one,rowA_set hjl]
 (repeat (first|refine ctlS ?_|(refine ol_go ?_ (fun K1 hK1=>?_);exact trS;refine evS ?_;(try simp only [hr,hj,u1,hS]);refine hK1 _ _ ?_;clear hK1 K1)|(refine ow_go ?_ dsS (fun K1 hK1=>?_);exact trS;refine evS ?_;(try simp only [hr,hj,u1,hS]);refine hK1 _ ?_;clear hK1 K1)|refine skipS ?_|refine cS (A0) ?_|refine cS (A1) ?_|refine aw_condT rfl ?_|refine aw_condF rfl ?_))
 (repeat (first|refine ctlS ?_|(refine ol_go ?_ (fun K1 hK1=>?_);exact trS;refine evS ?_;(try simp only [hS]);refine hK1 _ _ ?_;clear hK1 K1)|(refine ow_go ?_ dsS (fun K1 hK1=>?_);exact trS;refine evS ?_;(try simp only [hS]);refine hK1 _ ?_;clear hK1 K1)|refine skipS ?_|refine cS (Q1) ?_|refine aw_condT rfl ?_|refine aw_condF rfl ?_))
 refine ow_callT 160 ((b.set j v).map fun c=>[uD c]) ?_ dsS rfl (by show some _=some _;rw [←rowA_eq]) hz (argsT_d (by rw [List.length_map];exact hlen.symm)) HG ?_;exact trS;simp only [St.set]
 (repeat (first|refine walkS ?_|refine aw_condT rfl ?_|refine aw_condF rfl ?_))
 (refine rtS Tryz.results3 ?_;exact ⟨_,_,.inl ⟨rfl,rfl⟩,List.nodup_nil,rfl⟩)
theorem lawRepairs_c (B:List UInt8):AC Tryz.prog 3 [.d (encB B)] none (fun r' _=>r'=.d (bD true)):=by
 by_cases h0:(1048576:Int)<B.length
 ·have b1:=bigB_c B
  rw [decide_eq_true h0] at b1
  refine cbS Tryz.func3 rfl Tryz.call3 Tryz.ntmps3 fun en hsz hks hk0=>?_;refine enS ?_
  (repeat (first|refine walkS ?_|refine cS (b1) ?_))
  refine aw_condS rfl (fun hc=>?_) (fun hc=>?_)
  ·refine walkS ?_
   (refine rtS Tryz.results3 ?_;exact ⟨_,_,.inl ⟨rfl,rfl⟩,List.nodup_nil,rfl⟩)
  ·(first|exact absurd trivial hc|exact absurd rfl hc|(cases hc;done)|omega|exact absurd hc (by decide)|(simp at hc;done))
 have b1:=bigB_c B
 rw [decide_eq_false h0] at b1
 have hB:B.length≤1048576:=by omega
 have V1:=drawRR_c hB
 have hDB:=smallC_db (newC B)
 have hl:=smallC_len (newC B)
 generalize (smallC (newC B)).1.2=b at *
 generalize (smallC (newC B)).1.1=D at *
 have HS:=repRS_c hDB (Nat.le_refl _) (b:=b) (by omega)
 have HI:=(repRI_n hDB (Nat.le_refl _) (b:=b) (by omega)).sem (X:=.tup [encB (repR (fileP D) b).1,mutE (repR (fileP D) b).2.1.1 (repR (fileP D) b).2.1.2.1 (repR (fileP D) b).2.1.2.2,bD (repR (fileP D) b).2.2]) (repN_sem (repR (fileP D) b))
 have s0:=repR_says (fileP D) b
 generalize repR (fileP D) b=T at *
 have Q1:∀ x:List UInt8,x.length≤1000→AC Tryz.prog 11 [.d (encB x),.d (encB x)] none (fun r' _=>r'=.d (bD true)):=fun x hx=>by
  have:=sameBytes_c (l:=x) (m:=x) (by omega) (by omega)
  rwa [beq_self_eq_true] at this
 have F2:∀ x:List UInt8,x.length≤1000→AC Tryz.prog 13 [.d (encD D),.d (encB x)] none (fun r' _=>r'=.d (bD (fileP D x))):=fun x hx=>isFileS_c hDB (Nat.le_refl _) (b:=x) (by omega)
 rcases s0 with ⟨rfl,s1,s2⟩|⟨i,k,s1,s2,rfl,s4,s5,s6⟩|⟨rfl,s1⟩
 ·have d1:=dE_same b b.length
  have F1:=F2 b (by omega)
  rw [s2] at F1
  exact lawRR_y b1 V1 HI HS (Q1 b (by omega)) F1 F1 (distS_c (a:=b) (b:=b) (by omega) (by omega)) (by omega) rfl rfl
 ·have hlen:(b.set i (UInt8.ofNat k)).length=b.length:=List.length_set ..
  have F1:=F2 (b.set i (UInt8.ofNat k)) (by omega)
  have F3:=F2 b (by omega)
  rw [s4] at F1
  rw [s5] at F3
  have d1:=dE_set b i (UInt8.ofNat k) b.length
  rw [if_pos s1] at d1
  have E1:=distS_c (a:=b) (b:=b.set i (UInt8.ofNat k)) (by omega) (by omega)
  rw [hlen] at E1
  exact lawRR_y b1 V1 HI HS (Q1 (b.set i (UInt8.ofNat k)) (by omega)) F1 F3 E1 d1 hlen rfl
 ·by_cases h1:b.length=0
  ·exact lawRR_n0 b1 V1 HI HS (Q1 b (by omega)) h1
  by_cases h2:40<b.length
  ·exact lawRR_n1 b1 V1 HI HS (Q1 b (by omega)) h1 h2
  exact lawRR_n2 b1 V1 HI HS (Q1 b (by omega)) hB hDB hl h1 h2 (s1.resolve_left h2)
end Go.Proofs.YtndnefealooolaaGreatDoor.Eng
