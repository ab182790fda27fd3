/-
 The law: FnCanonical.
-/
import Derived.Test.YtodkkldopciagaaGreatDoorKPL7
import Derived.Test.YtodkkldopciagaaGreatDoorKND17
import Derived.Test.YtodkkldopciagaaGreatDoorKLSB
import Derived.Test.YtodkkldopciagaaGreatDoorKNPF
set_option linter.unusedSimpArgs false
set_option linter.unusedVariables false
set_option linter.defProp false
set_option maxRecDepth 100000
set_option maxHeartbeats 4000000
namespace Go.Proofs.YtodkkldopciagaaGreatDoor.Eng
open Go Go.RowKit

private def tyF:=ai (ai (ai tg22 tg24) (ai tg58 (ai tg60 tg26))) (ai (ai tg62 tg3) (ai tg4 (ai tg5 tg9)))
theorem lawCanonical_c (B:List UInt8):AC Tryz.prog 3 [.d (encB B)] none (fun r' _=>r'=.d (bD true)):=by
 by_cases h0:(1048576:Int)<B.length
 ·have b1:=bigB_c B
  rw [decide_eq_true h0] at b1
  refine cbS Tryz.func3 rfl Tryz.call3 Tryz.ntmps3 fun en hsz hks hk0=>?_;refine enS ?_
  (repeat (first|refine walkS ?_|refine cS (b1) ?_))
  refine aw_condS rfl (fun hc=>?_) (fun hc=>?_)
  ·refine walkS ?_
   (refine rtS Tryz.results3 ?_;exact ⟨_,_,.inl ⟨rfl,rfl⟩,List.nodup_nil,rfl⟩)
  ·(first|exact absurd trivial hc|exact absurd rfl hc|(cases hc;done)|omega|exact absurd hc (by decide)|(simp at hc;done))
 have b1:=bigB_c B
 rw [decide_eq_false h0] at b1
 have hB:B.length≤1048576:=by omega
 have V1:=drawCF_c hB
 have hDB:=canoC_db B
 have hl:=canoC_len B
 generalize canoC B=z at V1 hDB hl
 obtain ⟨D,b⟩:=z
 simp only at V1 hDB hl
 have C1:=(canI_c hDB (Nat.le_refl _) (b:=b) (by omega)).owndT
 have F1:=isFileS_c hDB (Nat.le_refl _) (b:=b) (by omega)
 have K1:=isCanI_c hDB (Nat.le_refl _) (b:=b) (by omega)
 have R1:=cntRedI_c hDB (Nat.le_refl _) (b:=b) (by omega)
 cases hf:fileP D b with
 | false=>
  have hc:=can_no hf
  have e1:isCanP D b=false:=by unfold isCanP;rw [hc];rfl
  have e2:cntRed D b=0:=by unfold cntRed;rw [hc];rfl
  rw [hf] at F1
  rw [hc] at C1
  rw [e1] at K1
  rw [e2] at R1
  refine cbS Tryz.func3 rfl Tryz.call3 Tryz.ntmps3 fun en hsz hks hk0=>?_;refine enS ?_
  (repeat (first|refine walkS ?_|refine cS (b1) ?_|refine cS (V1) ?_|refine cS (C1) ?_|refine cS (F1) ?_|refine cS (K1) ?_|refine cS (R1) ?_|refine aw_condT rfl ?_|refine aw_condF rfl ?_))
  (refine rtS Tryz.results3 ?_;exact ⟨_,_,.inl ⟨rfl,rfl⟩,List.nodup_nil,rfl⟩)
 | true=>
  obtain ⟨y1,y2,y3,y4⟩:=can_yes hf
  rw [hf] at F1
  have e1:isCanP D b=(b==(canR D b).1):=by unfold isCanP;rw [if_pos y1]
  have e2:cntRed D b=(b.length:Int) - (canR D b).1.length:=by unfold cntRed;rw [if_pos y1]
  have e3:isCanP D (canR D b).1=true:=by unfold isCanP;rw [y3,if_pos y1];simp
  rw [e1] at K1
  rw [e2] at R1
  have C2:=(canI_c hDB (Nat.le_refl _) (b:=(canR D b).1) (by omega)).owndT
  have K2:=isCanI_c hDB (Nat.le_refl _) (b:=(canR D b).1) (by omega)
  have S1:=sameI_c hDB (Nat.le_refl _) (a:=b) (b:=(canR D b).1) (by omega) (by omega)
  rw [y3] at C2
  rw [e3] at K2
  rw [y4] at S1
  generalize canR D b=u at y1 y2 C1 C2 K1 K2 S1 R1
  obtain ⟨x,ok⟩:=u
  simp only at y1 y2 C1 C2 K1 K2 S1 R1
  subst y1
  have Q1:=sameBytes_c (l:=x) (m:=x) (by omega) (by omega)
  rw [beq_self_eq_true] at Q1
  have Q2:=sameBytes_c (l:=b) (m:=x) (by omega) (by omega)
  have w1:IntKind.i64.wrap ((b.length:Int) - x.length)=(b.length:Int) - x.length:=wrap_small (by omega) (by omega)
  have w2:decide ((x.length:Int)≤b.length)=true:=decide_eq_true (by omega)
  have w3:(((b.length:Int) - x.length)==((b.length:Int) - x.length))=true:=beq_self_eq_true _
  have w4:((b==x)==(b==x))=true:=beq_self_eq_true _
  refine cbS Tryz.func3 rfl Tryz.call3 Tryz.ntmps3 fun en hsz hks hk0=>?_;refine enS ?_
  (repeat (first|refine ctlS ?_|(refine ol_go ?_ (fun K1 hK1=>?_);exact trS;refine evS ?_;(try simp only [w1,w2,w3,w4]);refine hK1 _ _ ?_;clear hK1 K1)|(refine ow_go ?_ dsS (fun K1 hK1=>?_);exact trS;refine evS ?_;(try simp only [w1,w2,w3,w4]);refine hK1 _ ?_;clear hK1 K1)|refine skipS ?_|refine cS (b1) ?_|refine cS (V1) ?_|refine cS (C1) ?_|refine cS (C2) ?_|refine cS (F1) ?_|refine cS (K1) ?_|refine cS (K2) ?_|refine cS (R1) ?_|refine cS (S1) ?_|refine cS (Q1) ?_|refine cS (Q2) ?_|refine aw_condT rfl ?_|refine aw_condF rfl ?_))
  (refine rtS Tryz.results3 ?_;exact ⟨_,_,.inl ⟨rfl,rfl⟩,List.nodup_nil,rfl⟩)
end Go.Proofs.YtodkkldopciagaaGreatDoor.Eng
