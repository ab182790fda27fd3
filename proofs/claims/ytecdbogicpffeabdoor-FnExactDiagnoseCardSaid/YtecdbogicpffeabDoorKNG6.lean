/-
 Where and why bytes are not a file (the program).
-/
import Derived.Test.YtecdbogicpffeabDoorKNG5
import Derived.Test.YtecdbogicpffeabDoorKN18
set_option linter.unusedSimpArgs false
set_option linter.unusedVariables false
set_option linter.defProp false
set_option maxRecDepth 100000
set_option maxHeartbeats 4000000
namespace Go.Proofs.YtecdbogicpffeabDoor.Eng
open Go Go.RowKit

section
variable {M:Nat}{D:List RuleD}{b:List UInt8}
private def tyF:=ai (ai (ai tg25 (ai tg30 tg52)) (ai tg53 (ai tg28 tg32))) (ai (ai tg48 (ai tg61 tg3)) (ai (ai tg4 tg46) (ai tg5 tg9)))
theorem diagI_c (hD:DB M D) (hM:M≤1048576) (hb:b.length≤1048576):AC Tryd.prog 8 [.d (encD D),.d (encB b)] none (fun r' _=>r'=.d (diagE (diagP D b))):=by
 have HC:=checkFileI_c hD hM hb
 have HR:=rootI_c hD hM
 have hok:=readF_ok8 (D:=D) (b:=b)
 unfold diagP
 generalize readF D b=T at *
 obtain ⟨v,p,c⟩:=T
 simp only at HC hok ⊢
 by_cases c8:c=8
 ·subst c8
  rw [if_pos rfl]
  have w8:(((8:Nat):Int)==8)=true:=rfl
  refine cbS Tryd.func8 rfl Tryd.call8 Tryd.ntmps8 fun en hsz hks hk0=>?_;refine enS ?_
  (repeat (first|refine ctlS ?_|(refine ol_go ?_ (fun K1 hK1=>?_);exact trS;refine evS ?_;(try simp only [w8]);refine hK1 _ _ ?_;clear hK1 K1)|(refine ow_go ?_ dsS (fun K1 hK1=>?_);exact trS;refine evS ?_;(try simp only [w8]);refine hK1 _ ?_;clear hK1 K1)|refine skipS ?_|refine cS (HC) ?_|refine cS (HR) ?_|refine aw_condT rfl ?_|refine aw_condF rfl ?_))
  (refine rtS Tryd.results8 ?_;exact ⟨_,_,.inl ⟨rfl,rfl⟩,List.nodup_nil,rfl⟩)
 rw [if_neg c8]
 have w8:((c:Int)==8)=false:=by rw [beq_eq_false_iff_ne];omega
 by_cases c0:c=0
 ·subst c0
  rw [if_pos (.inl rfl)]
  have w0:(((0:Nat):Int)==0)=true:=rfl
  refine cbS Tryd.func8 rfl Tryd.call8 Tryd.ntmps8 fun en hsz hks hk0=>?_;refine enS ?_
  (repeat (first|refine ctlS ?_|(refine ol_go ?_ (fun K1 hK1=>?_);exact trS;refine evS ?_;(try simp only [w8,w0]);refine hK1 _ _ ?_;clear hK1 K1)|(refine ow_go ?_ dsS (fun K1 hK1=>?_);exact trS;refine evS ?_;(try simp only [w8,w0]);refine hK1 _ ?_;clear hK1 K1)|refine skipS ?_|refine cS (HC) ?_|refine cS (HR) ?_|refine aw_condT rfl ?_|refine aw_condF rfl ?_))
  (refine rtS Tryd.results8 ?_;exact ⟨_,_,.inl ⟨rfl,rfl⟩,List.nodup_nil,rfl⟩)
 have w0:((c:Int)==0)=false:=by rw [beq_eq_false_iff_ne];omega
 by_cases c7:c=7
 ·subst c7
  rw [if_pos (.inr rfl)]
  have w7:(((7:Nat):Int)==7)=true:=rfl
  refine cbS Tryd.func8 rfl Tryd.call8 Tryd.ntmps8 fun en hsz hks hk0=>?_;refine enS ?_
  (repeat (first|refine ctlS ?_|(refine ol_go ?_ (fun K1 hK1=>?_);exact trS;refine evS ?_;(try simp only [w8,w0,w7]);refine hK1 _ _ ?_;clear hK1 K1)|(refine ow_go ?_ dsS (fun K1 hK1=>?_);exact trS;refine evS ?_;(try simp only [w8,w0,w7]);refine hK1 _ ?_;clear hK1 K1)|refine skipS ?_|refine cS (HC) ?_|refine cS (HR) ?_|refine aw_condT rfl ?_|refine aw_condF rfl ?_))
  (refine rtS Tryd.results8 ?_;exact ⟨_,_,.inl ⟨rfl,rfl⟩,List.nodup_nil,rfl⟩)
 rw [if_neg (by omega)]
 have w7:((c:Int)==7)=false:=by rw [beq_eq_false_iff_ne];omega
 obtain ⟨hV,hl,hb4⟩:=hok c8
 have hdl:=hD.len
 have HF:=partI_all hD hM hb4 hV D.length (D.length - 1) 0 ByteArray.empty ByteArray.empty 0 (by omega) (by omega) (Nat.zero_le _) (by rw [ByteArray.size_empty];omega)
 rw [show (((D.length - 1:Nat):Int))=(D.length:Int) - 1 by omega] at HF
 generalize dig D b D.length (D.length - 1) 0 ByteArray.empty=dg at *
 obtain ⟨path,k⟩:=dg
 simp only at HF ⊢
 have HF':AC Tryd.prog 19 [.ptr 0 0,.d (sD ⟨#[]⟩),.d (iD ((D.length:Int) - 1)),.d (iD 0)] (some ((trD D b ⟨#[]⟩ 0).map .d)) (fun r' bx=>r'=.d (.tup [])∧bx=some ((trD D b path k).map .d)):=HF
 refine cbS Tryd.func8 rfl Tryd.call8 Tryd.ntmps8 fun en hsz hks hk0=>?_;refine enS ?_
 (repeat (first|refine ctlS ?_|(refine ol_go ?_ (fun K1 hK1=>?_);exact trS;refine evS ?_;(try simp only [w8,w0,w7]);refine hK1 _ _ ?_;clear hK1 K1)|(refine ow_go ?_ dsS (fun K1 hK1=>?_);exact trS;refine evS ?_;(try simp only [w8,w0,w7]);refine hK1 _ ?_;clear hK1 K1)|refine skipS ?_|refine cS (HC) ?_|refine cS (HR) ?_|refine aw_condT rfl ?_|refine aw_condF rfl ?_))
 (repeat (first|refine walkS ?_|refine vS 96 (HF') ?_|refine aw_condT rfl ?_|refine aw_condF rfl ?_))
 (refine rtS Tryd.results8 ?_;exact ⟨_,_,.inl ⟨rfl,rfl⟩,List.nodup_nil,rfl⟩)
end
end Go.Proofs.YtecdbogicpffeabDoor.Eng
