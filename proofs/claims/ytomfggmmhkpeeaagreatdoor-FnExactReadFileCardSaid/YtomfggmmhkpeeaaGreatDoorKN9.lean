/-
 The last rule.

 The reference: reading a value, a file.
-/
import Derived.Test.YtomfggmmhkpeeaaGreatDoorKTy
import Derived.Test.YtomfggmmhkpeeaaGreatDoorKN0
import Derived.Test.YtomfggmmhkpeeaaGreatDoorKE3
import Derived.Test.YtomfggmmhkpeeaaGreatDoorKNR
set_option linter.unusedSimpArgs false
set_option linter.unusedVariables false
set_option linter.defProp false
set_option maxRecDepth 100000
set_option maxHeartbeats 4000000
namespace Go.Proofs.YtomfggmmhkpeeaaGreatDoor.Eng
open Go Go.RowKit

section
variable {M:Nat}{D:List RuleD}
private def tyF:=ai (ai (ai tg25 (ai tg27 tg32)) (ai tg86 (ai tg87 tg29))) (ai (ai tg34 (ai tg89 tg3)) (ai tg4 (ai tg5 tg9)))
theorem rootI_c (hD:DB M D) (hM:M≤1048576):AC Tryz.prog 43 [.d (encD D)] none (fun r' _=>r'=.d (iD ((D.length:Int) - 1))):=by
 have hl:=hD.len
 refine cbS Tryz.func43 rfl Tryz.call43 Tryz.ntmps43 fun en hsz hks hk0=>?_;refine enS ?_
 refine walkS ?_
 (refine rtS Tryz.results43 ?_;exact ⟨_,_,.inl ⟨rfl,rfl⟩,List.nodup_nil,rfl⟩)
theorem rootS_c (hD:DB M D) (hM:M≤1048576):AC Tryz.prog 42 [.d (encD D)] none (fun r' _=>r'=.d (iD ((D.length:Int) - 1))):=by
 have hl:=hD.len
 refine cbS Tryz.func42 rfl Tryz.call42 Tryz.ntmps42 fun en hsz hks hk0=>?_;refine enS ?_
 refine walkS ?_
 (refine rtS Tryz.results42 ?_;exact ⟨_,_,.inl ⟨rfl,rfl⟩,List.nodup_nil,rfl⟩)
end
end Go.Proofs.YtomfggmmhkpeeaaGreatDoor.Eng
namespace Go.Proofs.YtomfggmmhkpeeaaGreatDoor.Eng
open Go Go.RowKit

noncomputable def readV (D:List RuleD) (b:List UInt8) (i p:Int):V × Nat × Nat:=if vKnown D i=true∧(0≤p∧p≤b.length)∧b.length≤400 then rd D b D.length i.toNat p.toNat else (V0,0,8)
noncomputable def readF (D:List RuleD) (b:List UInt8):V × Nat × Nat:=if (readV D b ((D.length:Int) - 1) 0).2.2=0∧(readV D b ((D.length:Int) - 1) 0).2.1<b.length then (V0,(readV D b ((D.length:Int) - 1) 0).2.1,7) else readV D b ((D.length:Int) - 1) 0
abbrev chR (x:V × Nat × Nat):Rz:=.d (.tup [iD x.2.1,iD x.2.2])

section
variable {M:Nat}{D:List RuleD}{b:List UInt8}
theorem readValue_c (hD:DB M D) (hM:M≤1048576) (hb:b.length≤1048576) (i p:Int):AC Tryz.prog 9 [.d (encD D),.d (iD i),.d (encB b),.d (iD p)] none (fun r' _=>r'=rdR (readV D b i p)):=by
 have no:¬(vKnown D i=true∧(0≤p∧p≤b.length)∧b.length≤400)→readV D b i p=(V0,0,8):=fun h=>if_neg h
 by_cases hv:vKnown D i=true
 ·by_cases hp:0≤p∧p≤(b.length:Int)
  ·refine cbS Tryz.func9 rfl Tryz.call9 Tryz.ntmps9 fun en hsz hks hk0=>?_;refine enS ?_
   (repeat (first|refine walkS ?_|refine cS (l1In_t hp) ?_|(refine callPre ?_;(first|refine callN_funS rfl ((l7Rule_c hD hM i).eqv (r1:=.d (bD true)) (by rw [hv])) ?_))|(refine callPreL ?_;(first|refine callL_funS rfl ((l7Rule_c hD hM i).eqv (r1:=.d (bD true)) (by rw [hv])) ?_))))
   refine aw_condS rfl (fun hc=>?_) (fun hc=>?_)
   ·refine walkS ?_
    (refine rtS Tryz.results9 ?_;refine ⟨_,[],.inr (.inl ⟨.tup [encV V0,iD 0,iD 8],rfl,rfl,?_⟩),List.nodup_nil,by rw [no (by omega)];rfl⟩;exact wkDS)
   ·have hyes:readV D b i p=rd D b D.length i.toNat p.toNat:=if_pos ⟨hv,hp,by omega⟩
    obtain ⟨v1,v2,v3⟩:=vKnown_spec hv
    have HR:=l11Read_all hD hM hb v1 D.length i.toNat p.toNat (by omega) (by omega) (by omega)
    rw [Int.toNat_of_nonneg v2,Int.toNat_of_nonneg hp.1,←hyes] at HR
    (repeat (first|refine walkS ?_|refine cS (HR) ?_))
    (refine rtS Tryz.results9 ?_;exact ⟨_,_,.inl ⟨rfl,rfl⟩,List.nodup_nil,rfl⟩)
  ·refine cbS Tryz.func9 rfl Tryz.call9 Tryz.ntmps9 fun en hsz hks hk0=>?_;refine enS ?_
   (repeat (first|refine walkS ?_|refine cS (l1In_f hp) ?_|(refine callPre ?_;(first|refine callN_funS rfl ((l7Rule_c hD hM i).eqv (r1:=.d (bD true)) (by rw [hv])) ?_))|(refine callPreL ?_;(first|refine callL_funS rfl ((l7Rule_c hD hM i).eqv (r1:=.d (bD true)) (by rw [hv])) ?_))))
   refine aw_condS rfl (fun hc=>?_) (fun hc=>?_)
   ·refine walkS ?_
    (refine rtS Tryz.results9 ?_;refine ⟨_,[],.inr (.inl ⟨.tup [encV V0,iD 0,iD 8],rfl,rfl,?_⟩),List.nodup_nil,by rw [no (fun h=>hp h.2.1)];rfl⟩;exact wkDS)
   ·cases hc
 ·have hv':vKnown D i=false:=by simpa using hv
  refine cbS Tryz.func9 rfl Tryz.call9 Tryz.ntmps9 fun en hsz hks hk0=>?_;refine enS ?_
  (repeat (first|refine walkS ?_|(refine callPre ?_;(first|refine callN_funS rfl ((l7Rule_c hD hM i).eqv (r1:=.d (bD false)) (by rw [hv'])) ?_))|(refine callPreL ?_;(first|refine callL_funS rfl ((l7Rule_c hD hM i).eqv (r1:=.d (bD false)) (by rw [hv'])) ?_))))
  refine aw_condS rfl (fun hc=>?_) (fun hc=>?_)
  ·refine walkS ?_
   (refine rtS Tryz.results9 ?_;refine ⟨_,[],.inr (.inl ⟨.tup [encV V0,iD 0,iD 8],rfl,rfl,?_⟩),List.nodup_nil,by rw [no (fun h=>hv h.1)];rfl⟩;exact wkDS)
  ·cases hc

theorem readFile_c (hD:DB M D) (hM:M≤1048576) (hb:b.length≤1048576):AC Tryz.prog 20 [.d (encD D),.d (encB b)] none (fun r' _=>r'=rdR (readF D b)):=by
 have HV:=readValue_c hD hM hb ((D.length:Int) - 1) 0
 have hf:readF D b=if (readV D b ((D.length:Int) - 1) 0).2.2=0∧(readV D b ((D.length:Int) - 1) 0).2.1<b.length then (V0,(readV D b ((D.length:Int) - 1) 0).2.1,7) else readV D b ((D.length:Int) - 1) 0:=rfl
 generalize readV D b ((D.length:Int) - 1) 0=x at HV hf
 obtain ⟨v,q,c⟩:=x
 simp only at hf
 refine cbS Tryz.func20 rfl Tryz.call20 Tryz.ntmps20 fun en hsz hks hk0=>?_;refine enS ?_
 (repeat (first|refine walkS ?_|refine cS (rootS_c hD hM) ?_|refine cS (HV) ?_))
 (refine ow_gd rfl rfl dsS (fun hg K1 hK1=>?_) (fun hg=>?_);((try simp only [hg]);refine evS ?_;refine hK1 _ ?_;clear hK1 K1);rotate_left;(simp only [Bool.not_true,Bool.not_false] at hg;simp only [St.set,hg]);rotate_left)
 ·have hg':(c:Int)=0:=by simpa using hg
  refine walkS ?_
  refine aw_condS rfl (fun hc=>?_) (fun hc=>?_)
  ·refine walkS ?_
   (refine rtS Tryz.results20 ?_;refine ⟨_,[],.inr (.inl ⟨.tup [encV V0,iD (q:Int),iD 7],rfl,rfl,?_⟩),List.nodup_nil,by rw [hf,if_pos (by constructor<;>omega)];rfl⟩;exact wkDS)
  ·refine walkS ?_
   (refine rtS Tryz.results20 ?_;refine ⟨_,[],.inr (.inl ⟨.tup [encV v,iD (q:Int),iD (c:Int)],rfl,rfl,?_⟩),List.nodup_nil,by rw [hf,if_neg (by omega)]⟩;exact wkDS)
 ·have hg':(c:Int)≠0:=by simpa using hg
  refine walkS ?_
  refine aw_condS rfl (fun hc=>?_) (fun hc=>?_)
  ·cases hc
  ·refine walkS ?_
   (refine rtS Tryz.results20 ?_;refine ⟨_,[],.inr (.inl ⟨.tup [encV v,iD (q:Int),iD (c:Int)],rfl,rfl,?_⟩),List.nodup_nil,by rw [hf,if_neg (by omega)]⟩;exact wkDS)
end
end Go.Proofs.YtomfggmmhkpeeaaGreatDoor.Eng
