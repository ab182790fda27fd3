/-
 Where and why bytes are not a file (the reference).
-/
import Derived.Test.YtecdbogicpffeabDoorKNG2
import Derived.Test.YtecdbogicpffeabDoorKN40
import Derived.Test.YtecdbogicpffeabDoorKPE1
set_option linter.unusedSimpArgs false
set_option linter.unusedVariables false
set_option linter.defProp false
set_option maxRecDepth 100000
set_option maxHeartbeats 4000000
namespace Go.Proofs.YtecdbogicpffeabDoor.Eng
open Go Go.RowKit

noncomputable def diagP (D:List RuleD) (b:List UInt8):Nat × Nat × ByteArray × Int:=
 if (readF D b).2.2=8 then (8,(readF D b).2.1,ByteArray.empty,-1)
 else if (readF D b).2.2=0∨(readF D b).2.2=7 then ((readF D b).2.2,(readF D b).2.1,ByteArray.empty,(D.length:Int) - 1)
 else ((readF D b).2.2,(readF D b).2.1,(dig D b D.length (D.length - 1) 0 ByteArray.empty).1,((dig D b D.length (D.length - 1) 0 ByteArray.empty).2:Int))
abbrev diagE (x:Nat × Nat × ByteArray × Int):Eng.D:=.agg [iD x.1,iD x.2.1,sD x.2.2.1,iD x.2.2.2]
theorem readF_ok8 {D:List RuleD}{b:List UInt8} (h:(readF D b).2.2≠8):descP D∧0<D.length∧b.length≤400:=by
 by_cases hv:vKnown D ((D.length:Int) - 1)=true∧((0:Int)≤0∧(0:Int)≤b.length)∧b.length≤400
 ·obtain ⟨h1,h2,h3⟩:=vKnown_spec hv.1
  exact ⟨h1,by omega,hv.2.2⟩
 ·exfalso
  have hz:readV D b ((D.length:Int) - 1) 0=(V0,0,8):=by unfold readV;rw [if_neg hv]
  apply h
  unfold readF
  rw [hz]
  rfl
section
variable {M:Nat}{D:List RuleD}{b:List UInt8}
private def tyF:=ai (ai (ai tg25 tg30) (ai tg52 (ai tg53 tg28))) (ai (ai tg32 (ai tg61 tg3)) (ai tg4 (ai tg5 tg9)))
theorem diagS_c (hD:DB M D) (hM:M≤1048576) (hb:b.length≤1048576):AC Tryd.prog 5 [.d (encD D),.d (encB b)] none (fun r' _=>r'=.d (diagE (diagP D b))):=by
 have HC:=checkFileS_c hD hM hb
 have HR:=rootS_c hD hM
 have hok:=readF_ok8 (D:=D) (b:=b)
 unfold diagP
 generalize readF D b=T at *
 obtain ⟨v,p,c⟩:=T
 simp only at HC hok ⊢
 by_cases c8:c=8
 ·subst c8
  rw [if_pos rfl]
  have w8:(((8:Nat):Int)==8)=true:=rfl
  refine cbS Tryd.func5 rfl Tryd.call5 Tryd.ntmps5 fun en hsz hks hk0=>?_;refine enS ?_
  (repeat (first|refine ctlS ?_|(refine ol_go ?_ (fun K1 hK1=>?_);exact trS;refine evS ?_;(try simp only [w8]);refine hK1 _ _ ?_;clear hK1 K1)|(refine ow_go ?_ dsS (fun K1 hK1=>?_);exact trS;refine evS ?_;(try simp only [w8]);refine hK1 _ ?_;clear hK1 K1)|refine skipS ?_|refine cS (HC) ?_|refine cS (HR) ?_|refine aw_condT rfl ?_|refine aw_condF rfl ?_))
  (refine rtS Tryd.results5 ?_;exact ⟨_,_,.inl ⟨rfl,rfl⟩,List.nodup_nil,rfl⟩)
 rw [if_neg c8]
 have w8:((c:Int)==8)=false:=by rw [beq_eq_false_iff_ne];omega
 by_cases c0:c=0
 ·subst c0
  rw [if_pos (.inl rfl)]
  have w0:(((0:Nat):Int)==0)=true:=rfl
  refine cbS Tryd.func5 rfl Tryd.call5 Tryd.ntmps5 fun en hsz hks hk0=>?_;refine enS ?_
  (repeat (first|refine ctlS ?_|(refine ol_go ?_ (fun K1 hK1=>?_);exact trS;refine evS ?_;(try simp only [w8,w0]);refine hK1 _ _ ?_;clear hK1 K1)|(refine ow_go ?_ dsS (fun K1 hK1=>?_);exact trS;refine evS ?_;(try simp only [w8,w0]);refine hK1 _ ?_;clear hK1 K1)|refine skipS ?_|refine cS (HC) ?_|refine cS (HR) ?_|refine aw_condT rfl ?_|refine aw_condF rfl ?_))
  (refine rtS Tryd.results5 ?_;exact ⟨_,_,.inl ⟨rfl,rfl⟩,List.nodup_nil,rfl⟩)
 have w0:((c:Int)==0)=false:=by rw [beq_eq_false_iff_ne];omega
 by_cases c7:c=7
 ·subst c7
  rw [if_pos (.inr rfl)]
  have w7:(((7:Nat):Int)==7)=true:=rfl
  refine cbS Tryd.func5 rfl Tryd.call5 Tryd.ntmps5 fun en hsz hks hk0=>?_;refine enS ?_
  (repeat (first|refine ctlS ?_|(refine ol_go ?_ (fun K1 hK1=>?_);exact trS;refine evS ?_;(try simp only [w8,w0,w7]);refine hK1 _ _ ?_;clear hK1 K1)|(refine ow_go ?_ dsS (fun K1 hK1=>?_);exact trS;refine evS ?_;(try simp only [w8,w0,w7]);refine hK1 _ ?_;clear hK1 K1)|refine skipS ?_|refine cS (HC) ?_|refine cS (HR) ?_|refine aw_condT rfl ?_|refine aw_condF rfl ?_))
  (refine rtS Tryd.results5 ?_;exact ⟨_,_,.inl ⟨rfl,rfl⟩,List.nodup_nil,rfl⟩)
 rw [if_neg (by omega)]
 have w7:((c:Int)==7)=false:=by rw [beq_eq_false_iff_ne];omega
 obtain ⟨hV,hl,_⟩:=hok c8
 have hdl:=hD.len
 have HF:=digS_all hD hM hb hV D.length (D.length - 1) 0 ByteArray.empty (by omega) (by omega) (Nat.zero_le _) (by rw [ByteArray.size_empty];omega)
 rw [show (((D.length - 1:Nat):Int))=(D.length:Int) - 1 by omega] at HF
 generalize dig D b D.length (D.length - 1) 0 ByteArray.empty=dg at *
 obtain ⟨path,k⟩:=dg
 simp only at HF ⊢
 have HF':AC Tryd.prog 15 [.d (encD D),.d (iD ((D.length:Int) - 1)),.d (encB b),.d (iD 0),.d (sD ⟨#[]⟩)] none (fun r _=>r=.d (.tup [sD path,iD k])):=HF
 refine cbS Tryd.func5 rfl Tryd.call5 Tryd.ntmps5 fun en hsz hks hk0=>?_;refine enS ?_
 (repeat (first|refine ctlS ?_|(refine ol_go ?_ (fun K1 hK1=>?_);exact trS;refine evS ?_;(try simp only [w8,w0,w7]);refine hK1 _ _ ?_;clear hK1 K1)|(refine ow_go ?_ dsS (fun K1 hK1=>?_);exact trS;refine evS ?_;(try simp only [w8,w0,w7]);refine hK1 _ ?_;clear hK1 K1)|refine skipS ?_|refine cS (HC) ?_|refine cS (HR) ?_|refine aw_condT rfl ?_|refine aw_condF rfl ?_))
 (repeat (first|refine walkS ?_|refine cS (HF') ?_|refine aw_condT rfl ?_|refine aw_condF rfl ?_))
 (refine rtS Tryd.results5 ?_;exact ⟨_,_,.inl ⟨rfl,rfl⟩,List.nodup_nil,rfl⟩)
end
end Go.Proofs.YtecdbogicpffeabDoor.Eng
