/-
 The law: FnLengthRepairs.
-/
import Derived.Test.YtndnefealooolaaGreatDoorKRT2
import Derived.Test.YtndnefealooolaaGreatDoorKNR9
import Derived.Test.YtndnefealooolaaGreatDoorKNR12
import Derived.Test.YtndnefealooolaaGreatDoorKNR5
import Derived.Test.YtndnefealooolaaGreatDoorKLWX
set_option linter.unusedSimpArgs false
set_option linter.unusedVariables false
set_option linter.defProp false
set_option maxRecDepth 100000
set_option maxHeartbeats 4000000
namespace Go.Proofs.YtndnefealooolaaGreatDoor.Eng
open Go Go.RowKit

private def tyF:=ai (ai (ai tg22 tg24) (ai tg57 (ai tg65 tg26))) (ai (ai tg30 (ai tg97 tg3)) (ai tg4 (ai tg5 tg9)))
theorem drawRL_c {B:List UInt8} (hB:B.length≤1048576):AC Tryz.prog 28 [.d (encB B)] none (fun r' _=>r'=.d (.tup [encD (smallC (newC B)).1.1,encB (smallC (newC B)).1.2])):=by
 have f1:=oneD_c hB
 generalize smallC (newC B)=z at f1 ⊢
 refine cbS Tryz.func28 rfl Tryz.call28 Tryz.ntmps28 fun en hsz hks hk0=>?_;refine enS ?_
 (repeat (first|refine walkS ?_|refine cS (f1) ?_))
 (refine rtS Tryz.results28 ?_;refine ⟨_,[],.inr (.inl ⟨.tup [encD z.1.1,encB z.1.2],rfl,rfl,?_⟩),List.nodup_nil,rfl⟩;exact wkDS2)
theorem lawLR_1 {B:List UInt8} (b1:AC Tryz.prog 7 [.d (encB B)] none (fun r' _=>r'=.d (bD false))) {D:List RuleD}{b x:List UInt8}{i c:Int}{f:Bool}{s:ByteArray}
  (V1:AC Tryz.prog 28 [.d (encB B)] none (fun r' _=>r'=.d (.tup [encD D,encB b])))
  (HI:AC Tryz.prog 29 [.d (encD D),.d (encB b)] none (fun r' _=>r'=.d (.tup [encB x,mutE 0 i c,bD true])))
  (HS:AC Tryz.prog 30 [.d (encD D),.d (encB b)] none (fun r' _=>r'=.d (.tup [encB x,mutE 0 i c,bD true])))
  (TI:AC Tryz.prog 25 [.d (encD D),.d (encB b)] none (fun r' _=>r'=.d (sD s)))
  (TS:AC Tryz.prog 22 [.d (encD D),.d (encB b)] none (fun r' _=>r'=.d (sD s)))
  (Q1:AC Tryz.prog 11 [.d (encB x),.d (encB x)] none (fun r' _=>r'=.d (bD true)))
  (F1:AC Tryz.prog 13 [.d (encD D),.d (encB b)] none (fun r' _=>r'=.d (bD f)))
  (F2:AC Tryz.prog 13 [.d (encD D),.d (encB x)] none (fun r' _=>r'=.d (bD true)))
  {de:Int} (E1:AC Tryz.prog 14 [.d (encB b),.d (encB x)] none (fun r' _=>r'=.d (iD de))) (hde:de≤1)
  (hs:decide (s=⟨#[111,107]⟩)=f) (hb:b.length≤1000):AC Tryz.prog 6 [.d (encB B)] none (fun r' _=>r'=.d (bD true)):=by
 have w1:decide (de≤1)=true:=decide_eq_true hde
 have w2:decide (s=s)=true:=decide_eq_true rfl
 have w3:(f==f)=true:=beq_self_eq_true _
 have x1:IntKind.i64.wrap ((b.length:Int)+1)=(b.length:Int)+1:=wrap_small (by omega) (by omega)
 have x2:IntKind.i64.wrap ((b.length:Int) - 1)=(b.length:Int) - 1:=wrap_small (by omega) (by omega)
 have w4:((0:Int)==0)=true:=rfl
 refine cbS Tryz.func6 rfl Tryz.call6 Tryz.ntmps6 fun en hsz hks hk0=>?_;refine enS ?_
 (repeat (first|refine walkS ?_|refine cS (b1) ?_|refine cS (V1) ?_|refine aw_condT rfl ?_|refine aw_condF rfl ?_))
 (repeat (first|refine walkS ?_|refine cS (HI) ?_|refine aw_condT rfl ?_|refine aw_condF rfl ?_))
 (repeat (first|refine ctlS ?_|(refine ol_go ?_ (fun K1 hK1=>?_);exact trS;refine evS ?_;(try simp only [beq_self_eq_true]);refine hK1 _ _ ?_;clear hK1 K1)|(refine ow_go ?_ dsS (fun K1 hK1=>?_);exact trS;refine evS ?_;(try simp only [beq_self_eq_true]);refine hK1 _ ?_;clear hK1 K1)|refine skipS ?_|refine cS (HS) ?_|refine aw_condT rfl ?_|refine aw_condF rfl ?_))
 (repeat (first|refine ctlS ?_|(refine ol_go ?_ (fun K1 hK1=>?_);exact trS;refine evS ?_;(try simp only [beq_self_eq_true]);refine hK1 _ _ ?_;clear hK1 K1)|(refine ow_go ?_ dsS (fun K1 hK1=>?_);exact trS;refine evS ?_;(try simp only [beq_self_eq_true]);refine hK1 _ ?_;clear hK1 K1)|refine skipS ?_|refine cS (Q1) ?_|refine aw_condT rfl ?_|refine aw_condF rfl ?_))
 (repeat (first|refine walkS ?_|refine cS (TI) ?_|refine aw_condT rfl ?_|refine aw_condF rfl ?_))
 (repeat (first|refine ctlS ?_|(refine ol_go ?_ (fun K1 hK1=>?_);exact trS;refine evS ?_;(try simp only [w2,hs]);refine hK1 _ _ ?_;clear hK1 K1)|(refine ow_go ?_ dsS (fun K1 hK1=>?_);exact trS;refine evS ?_;(try simp only [w2,hs]);refine hK1 _ ?_;clear hK1 K1)|refine skipS ?_|refine cS (TS) ?_|refine aw_condT rfl ?_|refine aw_condF rfl ?_))
 (repeat (first|refine ctlS ?_|(refine ol_go ?_ (fun K1 hK1=>?_);exact trS;refine evS ?_;(try simp only [w3]);refine hK1 _ _ ?_;clear hK1 K1)|(refine ow_go ?_ dsS (fun K1 hK1=>?_);exact trS;refine evS ?_;(try simp only [w3]);refine hK1 _ ?_;clear hK1 K1)|refine skipS ?_|refine cS (F1) ?_|refine aw_condT rfl ?_|refine aw_condF rfl ?_))
 (repeat (first|refine walkS ?_|refine cS (F2) ?_|refine aw_condT rfl ?_|refine aw_condF rfl ?_))
 (repeat (first|refine ctlS ?_|(refine ol_go ?_ (fun K1 hK1=>?_);exact trS;refine evS ?_;(try simp only [w1,w4]);refine hK1 _ _ ?_;clear hK1 K1)|(refine ow_go ?_ dsS (fun K1 hK1=>?_);exact trS;refine evS ?_;(try simp only [w1,w4]);refine hK1 _ ?_;clear hK1 K1)|refine skipS ?_|refine cS (E1) ?_|refine aw_condT rfl ?_|refine aw_condF rfl ?_))
 (refine rtS Tryz.results6 ?_;exact ⟨_,_,.inl ⟨rfl,rfl⟩,List.nodup_nil,rfl⟩)
theorem lawLR_2 {B:List UInt8} (b1:AC Tryz.prog 7 [.d (encB B)] none (fun r' _=>r'=.d (bD false))) {D:List RuleD}{b x:List UInt8}{k i c:Int}{f:Bool}{s:ByteArray}
  (V1:AC Tryz.prog 28 [.d (encB B)] none (fun r' _=>r'=.d (.tup [encD D,encB b])))
  (HI:AC Tryz.prog 29 [.d (encD D),.d (encB b)] none (fun r' _=>r'=.d (.tup [encB x,mutE k i c,bD true])))
  (HS:AC Tryz.prog 30 [.d (encD D),.d (encB b)] none (fun r' _=>r'=.d (.tup [encB x,mutE k i c,bD true])))
  (TI:AC Tryz.prog 25 [.d (encD D),.d (encB b)] none (fun r' _=>r'=.d (sD s)))
  (TS:AC Tryz.prog 22 [.d (encD D),.d (encB b)] none (fun r' _=>r'=.d (sD s)))
  (Q1:AC Tryz.prog 11 [.d (encB x),.d (encB x)] none (fun r' _=>r'=.d (bD true)))
  (F1:AC Tryz.prog 13 [.d (encD D),.d (encB b)] none (fun r' _=>r'=.d (bD f)))
  (F2:AC Tryz.prog 13 [.d (encD D),.d (encB x)] none (fun r' _=>r'=.d (bD true)))
  {de:Int} (E1:AC Tryz.prog 14 [.d (encB b),.d (encB x)] none (fun r' _=>r'=.d (iD de))) (hde:de≤1)
  (hs:decide (s=⟨#[111,107]⟩)=f) (hb:b.length≤1000) (hk:k≠0) (hx:x.length=b.length+1):AC Tryz.prog 6 [.d (encB B)] none (fun r' _=>r'=.d (bD true)):=by
 have w1:decide (de≤1)=true:=decide_eq_true hde
 have w2:decide (s=s)=true:=decide_eq_true rfl
 have w3:(f==f)=true:=beq_self_eq_true _
 have x1:IntKind.i64.wrap ((b.length:Int)+1)=(b.length:Int)+1:=wrap_small (by omega) (by omega)
 have x2:IntKind.i64.wrap ((b.length:Int) - 1)=(b.length:Int) - 1:=wrap_small (by omega) (by omega)
 have w4:(k==0)=false:=by rw [beq_eq_false_iff_ne];exact hk
 have w5:((x.length:Int)==(b.length:Int)+1)=true:=beq_iff_eq.2 (by omega)
 refine cbS Tryz.func6 rfl Tryz.call6 Tryz.ntmps6 fun en hsz hks hk0=>?_;refine enS ?_
 (repeat (first|refine walkS ?_|refine cS (b1) ?_|refine cS (V1) ?_|refine aw_condT rfl ?_|refine aw_condF rfl ?_))
 (repeat (first|refine walkS ?_|refine cS (HI) ?_|refine aw_condT rfl ?_|refine aw_condF rfl ?_))
 (repeat (first|refine ctlS ?_|(refine ol_go ?_ (fun K1 hK1=>?_);exact trS;refine evS ?_;(try simp only [beq_self_eq_true]);refine hK1 _ _ ?_;clear hK1 K1)|(refine ow_go ?_ dsS (fun K1 hK1=>?_);exact trS;refine evS ?_;(try simp only [beq_self_eq_true]);refine hK1 _ ?_;clear hK1 K1)|refine skipS ?_|refine cS (HS) ?_|refine aw_condT rfl ?_|refine aw_condF rfl ?_))
 (repeat (first|refine ctlS ?_|(refine ol_go ?_ (fun K1 hK1=>?_);exact trS;refine evS ?_;(try simp only [beq_self_eq_true]);refine hK1 _ _ ?_;clear hK1 K1)|(refine ow_go ?_ dsS (fun K1 hK1=>?_);exact trS;refine evS ?_;(try simp only [beq_self_eq_true]);refine hK1 _ ?_;clear hK1 K1)|refine skipS ?_|refine cS (Q1) ?_|refine aw_condT rfl ?_|refine aw_condF rfl ?_))
 (repeat (first|refine walkS ?_|refine cS (TI) ?_|refine aw_condT rfl ?_|refine aw_condF rfl ?_))
 (repeat (first|refine ctlS ?_|(refine ol_go ?_ (fun K1 hK1=>?_);exact trS;refine evS ?_;(try simp only [w2,hs]);refine hK1 _ _ ?_;clear hK1 K1)|(refine ow_go ?_ dsS (fun K1 hK1=>?_);exact trS;refine evS ?_;(try simp only [w2,hs]);refine hK1 _ ?_;clear hK1 K1)|refine skipS ?_|refine cS (TS) ?_|refine aw_condT rfl ?_|refine aw_condF rfl ?_))
 (repeat (first|refine ctlS ?_|(refine ol_go ?_ (fun K1 hK1=>?_);exact trS;refine evS ?_;(try simp only [w3]);refine hK1 _ _ ?_;clear hK1 K1)|(refine ow_go ?_ dsS (fun K1 hK1=>?_);exact trS;refine evS ?_;(try simp only [w3]);refine hK1 _ ?_;clear hK1 K1)|refine skipS ?_|refine cS (F1) ?_|refine aw_condT rfl ?_|refine aw_condF rfl ?_))
 (repeat (first|refine walkS ?_|refine cS (F2) ?_|refine aw_condT rfl ?_|refine aw_condF rfl ?_))
 (repeat (first|refine ctlS ?_|(refine ol_go ?_ (fun K1 hK1=>?_);exact trS;refine evS ?_;(try simp only [w1,w4,x1,w5]);refine hK1 _ _ ?_;clear hK1 K1)|(refine ow_go ?_ dsS (fun K1 hK1=>?_);exact trS;refine evS ?_;(try simp only [w1,w4,x1,w5]);refine hK1 _ ?_;clear hK1 K1)|refine skipS ?_|refine cS (E1) ?_|refine aw_condT rfl ?_|refine aw_condF rfl ?_))
 (refine rtS Tryz.results6 ?_;exact ⟨_,_,.inl ⟨rfl,rfl⟩,List.nodup_nil,rfl⟩)
theorem lawLR_3 {B:List UInt8} (b1:AC Tryz.prog 7 [.d (encB B)] none (fun r' _=>r'=.d (bD false))) {D:List RuleD}{b x:List UInt8}{k i c:Int}{f:Bool}{s:ByteArray}
  (V1:AC Tryz.prog 28 [.d (encB B)] none (fun r' _=>r'=.d (.tup [encD D,encB b])))
  (HI:AC Tryz.prog 29 [.d (encD D),.d (encB b)] none (fun r' _=>r'=.d (.tup [encB x,mutE k i c,bD true])))
  (HS:AC Tryz.prog 30 [.d (encD D),.d (encB b)] none (fun r' _=>r'=.d (.tup [encB x,mutE k i c,bD true])))
  (TI:AC Tryz.prog 25 [.d (encD D),.d (encB b)] none (fun r' _=>r'=.d (sD s)))
  (TS:AC Tryz.prog 22 [.d (encD D),.d (encB b)] none (fun r' _=>r'=.d (sD s)))
  (Q1:AC Tryz.prog 11 [.d (encB x),.d (encB x)] none (fun r' _=>r'=.d (bD true)))
  (F1:AC Tryz.prog 13 [.d (encD D),.d (encB b)] none (fun r' _=>r'=.d (bD f)))
  (F2:AC Tryz.prog 13 [.d (encD D),.d (encB x)] none (fun r' _=>r'=.d (bD true)))
  {de:Int} (E1:AC Tryz.prog 14 [.d (encB b),.d (encB x)] none (fun r' _=>r'=.d (iD de))) (hde:de≤1)
  (hs:decide (s=⟨#[111,107]⟩)=f) (hb:b.length≤1000) (hk:k≠0) (hx:x.length+1=b.length):AC Tryz.prog 6 [.d (encB B)] none (fun r' _=>r'=.d (bD true)):=by
 have w1:decide (de≤1)=true:=decide_eq_true hde
 have w2:decide (s=s)=true:=decide_eq_true rfl
 have w3:(f==f)=true:=beq_self_eq_true _
 have x1:IntKind.i64.wrap ((b.length:Int)+1)=(b.length:Int)+1:=wrap_small (by omega) (by omega)
 have x2:IntKind.i64.wrap ((b.length:Int) - 1)=(b.length:Int) - 1:=wrap_small (by omega) (by omega)
 have w4:(k==0)=false:=by rw [beq_eq_false_iff_ne];exact hk
 have w5:((x.length:Int)==(b.length:Int)+1)=false:=by rw [beq_eq_false_iff_ne];omega
 have w6:((x.length:Int)==(b.length:Int) - 1)=true:=beq_iff_eq.2 (by omega)
 refine cbS Tryz.func6 rfl Tryz.call6 Tryz.ntmps6 fun en hsz hks hk0=>?_;refine enS ?_
 (repeat (first|refine walkS ?_|refine cS (b1) ?_|refine cS (V1) ?_|refine aw_condT rfl ?_|refine aw_condF rfl ?_))
 (repeat (first|refine walkS ?_|refine cS (HI) ?_|refine aw_condT rfl ?_|refine aw_condF rfl ?_))
 (repeat (first|refine ctlS ?_|(refine ol_go ?_ (fun K1 hK1=>?_);exact trS;refine evS ?_;(try simp only [beq_self_eq_true]);refine hK1 _ _ ?_;clear hK1 K1)|(refine ow_go ?_ dsS (fun K1 hK1=>?_);exact trS;refine evS ?_;(try simp only [beq_self_eq_true]);refine hK1 _ ?_;clear hK1 K1)|refine skipS ?_|refine cS (HS) ?_|refine aw_condT rfl ?_|refine aw_condF rfl ?_))
 (repeat (first|refine ctlS ?_|(refine ol_go ?_ (fun K1 hK1=>?_);exact trS;refine evS ?_;(try simp only [beq_self_eq_true]);refine hK1 _ _ ?_;clear hK1 K1)|(refine ow_go ?_ dsS (fun K1 hK1=>?_);exact trS;refine evS ?_;(try simp only [beq_self_eq_true]);refine hK1 _ ?_;clear hK1 K1)|refine skipS ?_|refine cS (Q1) ?_|refine aw_condT rfl ?_|refine aw_condF rfl ?_))
 (repeat (first|refine walkS ?_|refine cS (TI) ?_|refine aw_condT rfl ?_|refine aw_condF rfl ?_))
 (repeat (first|refine ctlS ?_|(refine ol_go ?_ (fun K1 hK1=>?_);exact trS;refine evS ?_;(try simp only [w2,hs]);refine hK1 _ _ ?_;clear hK1 K1)|(refine ow_go ?_ dsS (fun K1 hK1=>?_);exact trS;refine evS ?_;(try simp only [w2,hs]);refine hK1 _ ?_;clear hK1 K1)|refine skipS ?_|refine cS (TS) ?_|refine aw_condT rfl ?_|refine aw_condF rfl ?_))
 (repeat (first|refine ctlS ?_|(refine ol_go ?_ (fun K1 hK1=>?_);exact trS;refine evS ?_;(try simp only [w3]);refine hK1 _ _ ?_;clear hK1 K1)|(refine ow_go ?_ dsS (fun K1 hK1=>?_);exact trS;refine evS ?_;(try simp only [w3]);refine hK1 _ ?_;clear hK1 K1)|refine skipS ?_|refine cS (F1) ?_|refine aw_condT rfl ?_|refine aw_condF rfl ?_))
 (repeat (first|refine walkS ?_|refine cS (F2) ?_|refine aw_condT rfl ?_|refine aw_condF rfl ?_))
 (repeat (first|refine ctlS ?_|(refine ol_go ?_ (fun K1 hK1=>?_);exact trS;refine evS ?_;(try simp only [w1,w4,x1,w5,x2,w6]);refine hK1 _ _ ?_;clear hK1 K1)|(refine ow_go ?_ dsS (fun K1 hK1=>?_);exact trS;refine evS ?_;(try simp only [w1,w4,x1,w5,x2,w6]);refine hK1 _ ?_;clear hK1 K1)|refine skipS ?_|refine cS (E1) ?_|refine aw_condT rfl ?_|refine aw_condF rfl ?_))
 (refine rtS Tryz.results6 ?_;exact ⟨_,_,.inl ⟨rfl,rfl⟩,List.nodup_nil,rfl⟩)
theorem lawLengthRepairs_c (B:List UInt8):AC Tryz.prog 6 [.d (encB B)] none (fun r' _=>r'=.d (bD true)):=by
 by_cases h0:(1048576:Int)<B.length
 ·have b1:=bigB_c B
  rw [decide_eq_true h0] at b1
  refine cbS Tryz.func6 rfl Tryz.call6 Tryz.ntmps6 fun en hsz hks hk0=>?_;refine enS ?_
  (repeat (first|refine walkS ?_|refine cS (b1) ?_))
  refine aw_condS rfl (fun hc=>?_) (fun hc=>?_)
  ·refine walkS ?_
   (refine rtS Tryz.results6 ?_;exact ⟨_,_,.inl ⟨rfl,rfl⟩,List.nodup_nil,rfl⟩)
  ·(first|exact absurd trivial hc|exact absurd rfl hc|(cases hc;done)|omega|exact absurd hc (by decide)|(simp at hc;done))
 have b1:=bigB_c B
 rw [decide_eq_false h0] at b1
 have hB:B.length≤1048576:=by omega
 have V1:=drawRL_c hB
 have hDB:=smallC_db (newC B)
 have hl:=smallC_len (newC B)
 generalize (smallC (newC B)).1.2=b at *
 generalize (smallC (newC B)).1.1=D at *
 have HS:=repLS_c hDB (Nat.le_refl _) (b:=b) (by omega)
 have HI:=repLI_d hDB (Nat.le_refl _) (b:=b) (by omega)
 have TI:=repTI_c hDB (Nat.le_refl _) (b:=b) (by omega)
 have TS:=repTS_c hDB (Nat.le_refl _) (b:=b) (by omega)
 have F1:=isFileS_c hDB (Nat.le_refl _) (b:=b) (by omega)
 have s0:=repL_says (fileP D) b
 have hs:=rtP_ok (fileP D) b
 generalize repL (fileP D) b=T at *
 generalize rtP (fileP D) b=s at *
 have Q1:∀ x:List UInt8,x.length≤1000→AC Tryz.prog 11 [.d (encB x),.d (encB x)] none (fun r' _=>r'=.d (bD true)):=fun x hx=>by
  have:=sameBytes_c (l:=x) (m:=x) (by omega) (by omega)
  rwa [beq_self_eq_true] at this
 have F2:∀ x:List UInt8,x.length≤1000→fileP D x=true→AC Tryz.prog 13 [.d (encD D),.d (encB x)] none (fun r' _=>r'=.d (bD true)):=fun x hx h=>by
  have:=isFileS_c hDB (Nat.le_refl _) (b:=x) (by omega)
  rwa [h] at this
 rcases s0 with ⟨rfl,s1,s2⟩|⟨i,s1,rfl,s4,s5,s6⟩|⟨i,k,s1,s2,rfl,s4,s5,s6⟩|rfl
 ·have d1:=dE_same b b.length
  have HI':AC Tryz.prog 29 [.d (encD D),.d (encB b)] none (fun r' _=>r'=.d (.tup [encB (b),mutE 0 0 0,bD true])):=HI
  have HS':AC Tryz.prog 30 [.d (encD D),.d (encB b)] none (fun r' _=>r'=.d (.tup [encB (b),mutE 0 0 0,bD true])):=HS
  exact lawLR_1 b1 V1 HI' HS' TI TS (Q1 b (by omega)) F1 (F2 b (by omega) s2) (distS_c (a:=b) (b:=b) (by omega) (by omega)) (by omega) hs (by omega)
 ·have hxl:=cut_del_len s1
  have HI':AC Tryz.prog 29 [.d (encD D),.d (encB b)] none (fun r' _=>r'=.d (.tup [encB (cutB b i 1 []),mutE 3 (i:Int) 0,bD true])):=HI
  have HS':AC Tryz.prog 30 [.d (encD D),.d (encB b)] none (fun r' _=>r'=.d (.tup [encB (cutB b i 1 []),mutE 3 (i:Int) 0,bD true])):=HS
  exact lawLR_3 b1 V1 HI' HS' TI TS (Q1 _ (by omega)) F1 (F2 _ (by omega) s4) (distS_c (a:=b) (b:=cutB b i 1 []) (by omega) (by omega)) (dE_del s1) hs (by omega) (by decide) (by omega)
 ·have hxl:=cut_ins_len (c:=UInt8.ofNat k) s1
  have HI':AC Tryz.prog 29 [.d (encD D),.d (encB b)] none (fun r' _=>r'=.d (.tup [encB (cutB b i 0 [UInt8.ofNat k]),mutE 2 (i:Int) (k:Int),bD true])):=HI
  have HS':AC Tryz.prog 30 [.d (encD D),.d (encB b)] none (fun r' _=>r'=.d (.tup [encB (cutB b i 0 [UInt8.ofNat k]),mutE 2 (i:Int) (k:Int),bD true])):=HS
  exact lawLR_2 b1 V1 HI' HS' TI TS (Q1 _ (by omega)) F1 (F2 _ (by omega) s4) (distS_c (a:=b) (b:=cutB b i 0 [UInt8.ofNat k]) (by omega) (by omega)) (dE_ins s1) hs (by omega) (by decide) (by omega)
 ·have w2:decide (s=s)=true:=decide_eq_true rfl
  have w3:(fileP D b==fileP D b)=true:=beq_self_eq_true _
  have Q2:=Q1 b (by omega)
  have HI':AC Tryz.prog 29 [.d (encD D),.d (encB b)] none (fun r' _=>r'=.d (.tup [encB b,mutE 0 0 0,bD false])):=HI
  have HS':AC Tryz.prog 30 [.d (encD D),.d (encB b)] none (fun r' _=>r'=.d (.tup [encB b,mutE 0 0 0,bD false])):=HS
  generalize fileP D b=f at *
  refine cbS Tryz.func6 rfl Tryz.call6 Tryz.ntmps6 fun en hsz hks hk0=>?_;refine enS ?_
  (repeat (first|refine walkS ?_|refine cS (b1) ?_|refine cS (V1) ?_|refine aw_condT rfl ?_|refine aw_condF rfl ?_))
  (repeat (first|refine walkS ?_|refine cS (HI') ?_|refine aw_condT rfl ?_|refine aw_condF rfl ?_))
  (repeat (first|refine ctlS ?_|(refine ol_go ?_ (fun K1 hK1=>?_);exact trS;refine evS ?_;(try simp only [beq_self_eq_true]);refine hK1 _ _ ?_;clear hK1 K1)|(refine ow_go ?_ dsS (fun K1 hK1=>?_);exact trS;refine evS ?_;(try simp only [beq_self_eq_true]);refine hK1 _ ?_;clear hK1 K1)|refine skipS ?_|refine cS (HS') ?_|refine aw_condT rfl ?_|refine aw_condF rfl ?_))
  (repeat (first|refine ctlS ?_|(refine ol_go ?_ (fun K1 hK1=>?_);exact trS;refine evS ?_;(try simp only [beq_self_eq_true]);refine hK1 _ _ ?_;clear hK1 K1)|(refine ow_go ?_ dsS (fun K1 hK1=>?_);exact trS;refine evS ?_;(try simp only [beq_self_eq_true]);refine hK1 _ ?_;clear hK1 K1)|refine skipS ?_|refine cS (Q2) ?_|refine aw_condT rfl ?_|refine aw_condF rfl ?_))
  (repeat (first|refine walkS ?_|refine cS (TI) ?_|refine aw_condT rfl ?_|refine aw_condF rfl ?_))
  (repeat (first|refine ctlS ?_|(refine ol_go ?_ (fun K1 hK1=>?_);exact trS;refine evS ?_;(try simp only [w2,hs]);refine hK1 _ _ ?_;clear hK1 K1)|(refine ow_go ?_ dsS (fun K1 hK1=>?_);exact trS;refine evS ?_;(try simp only [w2,hs]);refine hK1 _ ?_;clear hK1 K1)|refine skipS ?_|refine cS (TS) ?_|refine aw_condT rfl ?_|refine aw_condF rfl ?_))
  (repeat (first|refine ctlS ?_|(refine ol_go ?_ (fun K1 hK1=>?_);exact trS;refine evS ?_;(try simp only [w3]);refine hK1 _ _ ?_;clear hK1 K1)|(refine ow_go ?_ dsS (fun K1 hK1=>?_);exact trS;refine evS ?_;(try simp only [w3]);refine hK1 _ ?_;clear hK1 K1)|refine skipS ?_|refine cS (F1) ?_|refine aw_condT rfl ?_|refine aw_condF rfl ?_))
  (refine rtS Tryz.results6 ?_;exact ⟨_,_,.inl ⟨rfl,rfl⟩,List.nodup_nil,rfl⟩)
end Go.Proofs.YtndnefealooolaaGreatDoor.Eng
