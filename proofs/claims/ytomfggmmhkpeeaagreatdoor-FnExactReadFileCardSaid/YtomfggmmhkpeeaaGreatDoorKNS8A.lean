/-
 The program: ReadValue, its value in blocks of their own.
-/
import Derived.Test.YtomfggmmhkpeeaaGreatDoorKNS7
import Derived.Test.YtomfggmmhkpeeaaGreatDoorKNRF
import Derived.Test.YtomfggmmhkpeeaaGreatDoorKE49
set_option linter.unusedSimpArgs false
set_option linter.unusedVariables false
set_option linter.defProp false
set_option maxRecDepth 100000
set_option maxHeartbeats 4000000
namespace Go.Proofs.YtomfggmmhkpeeaaGreatDoor.Eng
open Go Go.RowKit

section
variable {M:Nat}{D:List RuleD}{b:List UInt8}
abbrev rdWR (x:V × Nat × Nat) (n0:Nat):Eng.D:=.tup [.agg (encWi (fun b=>n0≤b) x.1),iD x.2.1,iD x.2.2]
private def tyF:=ai (ai (ai (ai tg25 tg27) (ai tg32 (ai tg86 tg87))) (ai (ai tg29 (ai tg34 tg59)) (ai tg68 (ai tg89 tg20)))) (ai (ai (ai tg3 tg4) (ai tg5 (ai tg57 tg61))) (ai (ai tg64 (ai tg66 tg9)) (ai encWi_len (ai mkAgg_W cells1_W))))
theorem readValueW_c (hD:DB M D) (hM:M≤1048576) (hb:b.length≤1048576) (i p:Int):ACN Tryz.prog 12 [.d (encD D),.d (iD i),.d (encB b),.d (iD p)] (rdWR (readV D b i p)):=by
 have no:¬(vKnown D i=true∧(0≤p∧p≤b.length)∧b.length≤400)→readV D b i p=(V0,0,8):=fun h=>if_neg h
 by_cases hv:vKnown D i=true
 ·by_cases hp0:p<0
  ·have e1:decide (p<0)=true:=decide_eq_true hp0
   refine calls_bodyI Tryz.func12 rfl Tryz.call12 Tryz.ntmps12 (by simp) (by simp [ArgsOk]) fun en hsz hcok hX hks=>?_;refine enS ?_
   (repeat (first|refine ctlS ?_|(refine ol_go ?_ (fun K1 hK1=>?_);exact trS;refine evS ?_;(try simp only [e1]);refine hK1 _ _ ?_;clear hK1 K1)|(refine ow_go ?_ dsS (fun K1 hK1=>?_);exact trS;refine evS ?_;(try simp only [e1]);refine hK1 _ ?_;clear hK1 K1)|refine skipS ?_|(refine callPre ?_;(first|refine callN_funS rfl ((known_c hD hM i).eqv (r1:=.d (bD true)) (by rw [hv])) ?_))|(refine callPreL ?_;(first|refine callL_funS rfl ((known_c hD hM i).eqv (r1:=.d (bD true)) (by rw [hv])) ?_))))
   refine aw_condS rfl (fun hc=>?_) (fun hc=>?_)
   ·refine walkS ?_
    (refine rtS Tryz.results12 ?_;refine ⟨_,[],.inr (.inr ⟨.tup [.agg [iD 0,.iv (fun b=>en.w.heap.size≤b) (encB []),.iv (fun b=>en.w.heap.size≤b) (.sp 3 [])],iD 0,iD 8],_,rfl,rfl,rfl,?_⟩),List.nodup_nil,by rw [no (fun h=>by omega)];rfl⟩;exact semS)
   ·(first|exact absurd trivial hc|exact absurd rfl hc|(cases hc;done)|omega|exact absurd hc (by decide)|(simp at hc;done))
  ·have e1:decide (p<0)=false:=decide_eq_false hp0
   by_cases hp1:(b.length:Int)<p
   ·have e2:decide ((b.length:Int)<p)=true:=decide_eq_true hp1
    refine calls_bodyI Tryz.func12 rfl Tryz.call12 Tryz.ntmps12 (by simp) (by simp [ArgsOk]) fun en hsz hcok hX hks=>?_;refine enS ?_
    (repeat (first|refine ctlS ?_|(refine ol_go ?_ (fun K1 hK1=>?_);exact trS;refine evS ?_;(try simp only [e1,e2]);refine hK1 _ _ ?_;clear hK1 K1)|(refine ow_go ?_ dsS (fun K1 hK1=>?_);exact trS;refine evS ?_;(try simp only [e1,e2]);refine hK1 _ ?_;clear hK1 K1)|refine skipS ?_|(refine callPre ?_;(first|refine callN_funS rfl ((known_c hD hM i).eqv (r1:=.d (bD true)) (by rw [hv])) ?_))|(refine callPreL ?_;(first|refine callL_funS rfl ((known_c hD hM i).eqv (r1:=.d (bD true)) (by rw [hv])) ?_))))
    refine aw_condS rfl (fun hc=>?_) (fun hc=>?_)
    ·refine walkS ?_
     (refine rtS Tryz.results12 ?_;refine ⟨_,[],.inr (.inr ⟨.tup [.agg [iD 0,.iv (fun b=>en.w.heap.size≤b) (encB []),.iv (fun b=>en.w.heap.size≤b) (.sp 3 [])],iD 0,iD 8],_,rfl,rfl,rfl,?_⟩),List.nodup_nil,by rw [no (fun h=>by omega)];rfl⟩;exact semS)
    ·(first|exact absurd trivial hc|exact absurd rfl hc|(cases hc;done)|omega|exact absurd hc (by decide)|(simp at hc;done))
   ·have e2:decide ((b.length:Int)<p)=false:=decide_eq_false hp1
    refine calls_bodyI Tryz.func12 rfl Tryz.call12 Tryz.ntmps12 (by simp) (by simp [ArgsOk]) fun en hsz hcok hX hks=>?_;refine enS ?_
    (repeat (first|refine ctlS ?_|(refine ol_go ?_ (fun K1 hK1=>?_);exact trS;refine evS ?_;(try simp only [e1,e2]);refine hK1 _ _ ?_;clear hK1 K1)|(refine ow_go ?_ dsS (fun K1 hK1=>?_);exact trS;refine evS ?_;(try simp only [e1,e2]);refine hK1 _ ?_;clear hK1 K1)|refine skipS ?_|(refine callPre ?_;(first|refine callN_funS rfl ((known_c hD hM i).eqv (r1:=.d (bD true)) (by rw [hv])) ?_))|(refine callPreL ?_;(first|refine callL_funS rfl ((known_c hD hM i).eqv (r1:=.d (bD true)) (by rw [hv])) ?_))))
    refine aw_condS rfl (fun hc=>?_) (fun hc=>?_)
    ·refine walkS ?_
     (refine rtS Tryz.results12 ?_;refine ⟨_,[],.inr (.inr ⟨.tup [.agg [iD 0,.iv (fun b=>en.w.heap.size≤b) (encB []),.iv (fun b=>en.w.heap.size≤b) (.sp 3 [])],iD 0,iD 8],_,rfl,rfl,rfl,?_⟩),List.nodup_nil,by rw [no (fun h=>by omega)];rfl⟩;exact semS)
    ·have hyes:readV D b i p=rd D b D.length i.toNat p.toNat:=if_pos ⟨hv,by omega,by omega⟩
     obtain ⟨v1,v2,v3⟩:=vKnown_spec hv
     obtain ⟨m,hm,HV⟩:=valueW_all hD hM hb v1 D.length i.toNat p.toNat (by omega) (by omega) (by omega)
     have herr:=rd_err D b D.length i.toNat p.toNat
     rw [Int.toNat_of_nonneg v2,Int.toNat_of_nonneg (by omega),←hyes] at HV
     rw [←hyes] at hm herr
     generalize readV D b i p=z at *
     obtain ⟨v,q,c⟩:=z
     simp only at hm herr
     by_cases hc0:c=0
     ·subst hc0
      obtain rfl:=hm rfl
      replace HV:ACN Tryz.prog 34 [.d (frD D b),.d (iD i),.d (iD p)] (fun n0=>.tup [.agg (encWi (fun b=>n0≤b) v),iD m,nilE]):=HV
      have hanti:=rdW_anti v (iD m) nilE
      refine walkS ?_
      refine ow_freezeB 41 64 [encDs D,encB b] rfl rfl hks (by decide) ?_
      (repeat (first|refine walkS ?_|(refine ow_callFA ?_ dsS rfl (HV) ?_;exact trS;simp only [St.set,List.map_cons,List.map_nil])|(refine ol_callN ?_ rfl (HV) ?_;exact trS;simp only [St.set,List.map_cons,List.map_nil])|refine vS 96 (as_nil_m) ?_))
      refine aw_condS rfl (fun hc=>?_) (fun hc=>?_)
      ·(first|exact absurd trivial hc|exact absurd rfl hc|(cases hc;done)|omega|exact absurd hc (by decide)|(simp at hc;done))
      ·refine walkS ?_
       (refine rtS Tryz.results12 ?_;refine ⟨_,[],.inr (.inr ⟨.tup [.agg (encWi (fun b=>en.w.heap.size≤b) v),iD (m:Nat),iD 0],_,rfl,rfl,rfl,?_⟩),List.nodup_nil,rfl⟩;exact semS)
     ·replace HV:ACN Tryz.prog 34 [.d (frD D b),.d (iD i),.d (iD p)] (fun n0=>.tup [.agg (encWi (fun b=>n0≤b) v),iD m,erD q c]):=by rw [rdW_p hc0] at HV;exact HV
      have hanti:=rdW_anti v (iD m) (erD q c)
      clear hm
      have hv0:v=V0:=herr hc0
      subst hv0
      refine walkS ?_
      refine ow_freezeB 41 64 [encDs D,encB b] rfl rfl hks (by decide) ?_
      (repeat (first|refine walkS ?_|(refine ow_callFA ?_ dsS rfl (HV) ?_;exact trS;simp only [St.set,List.map_cons,List.map_nil])|(refine ol_callN ?_ rfl (HV) ?_;exact trS;simp only [St.set,List.map_cons,List.map_nil])|refine vS 96 (as_hit_m q c) ?_))
      refine aw_condS rfl (fun hc=>?_) (fun hc=>?_)
      ·refine walkS ?_
       (refine rtS Tryz.results12 ?_;refine ⟨_,[],.inr (.inr ⟨.tup [.agg [iD 0,.iv (fun b=>en.w.heap.size≤b) (encB []),.iv (fun b=>en.w.heap.size≤b) (.sp 3 [])],iD (q:Nat),iD (c:Nat)],_,rfl,rfl,rfl,?_⟩),List.nodup_nil,rfl⟩;exact semS)
      ·(first|exact absurd trivial hc|exact absurd rfl hc|(cases hc;done)|omega|exact absurd hc (by decide)|(simp at hc;done))
 ·have hv':vKnown D i=false:=by simpa using hv
  refine calls_bodyI Tryz.func12 rfl Tryz.call12 Tryz.ntmps12 (by simp) (by simp [ArgsOk]) fun en hsz hcok hX hks=>?_;refine enS ?_
  (repeat (first|refine walkS ?_|(refine callPre ?_;(first|refine callN_funS rfl ((known_c hD hM i).eqv (r1:=.d (bD false)) (by rw [hv'])) ?_))|(refine callPreL ?_;(first|refine callL_funS rfl ((known_c hD hM i).eqv (r1:=.d (bD false)) (by rw [hv'])) ?_))))
  refine aw_condS rfl (fun hc=>?_) (fun hc=>?_)
  ·refine walkS ?_
   (refine rtS Tryz.results12 ?_;refine ⟨_,[],.inr (.inr ⟨.tup [.agg [iD 0,.iv (fun b=>en.w.heap.size≤b) (encB []),.iv (fun b=>en.w.heap.size≤b) (.sp 3 [])],iD 0,iD 8],_,rfl,rfl,rfl,?_⟩),List.nodup_nil,by rw [no (fun h=>hv h.1)];rfl⟩;exact semS)
  ·(first|exact absurd trivial hc|exact absurd rfl hc|(cases hc;done)|omega|exact absurd hc (by decide)|(simp at hc;done))
end
end Go.Proofs.YtomfggmmhkpeeaaGreatDoor.Eng
