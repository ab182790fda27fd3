/-
 The last rule.

 The reference: reading a value, a file.

 The printer: values.

 IsValidValue: the program.

 IsValidValue, PrintValue, EncodedLength: the program.

 PrintFile: both sides.

 The laws' limit of size.
-/
import Derived.Test.YtodkkldopciagaaGreatDoorKTy
import Derived.Test.YtodkkldopciagaaGreatDoorKN0
import Derived.Test.YtodkkldopciagaaGreatDoorKE3
import Derived.Test.YtodkkldopciagaaGreatDoorKNR
import Derived.Test.YtodkkldopciagaaGreatDoorKN48
import Derived.Test.YtodkkldopciagaaGreatDoorKNV
import Derived.Test.YtodkkldopciagaaGreatDoorKE4
import Derived.Test.YtodkkldopciagaaGreatDoorKN41
set_option linter.unusedSimpArgs false
set_option linter.unusedVariables false
set_option linter.defProp false
set_option maxRecDepth 100000
set_option maxHeartbeats 4000000
namespace Go.Proofs.YtodkkldopciagaaGreatDoor.Eng
open Go Go.RowKit

section
variable {M:Nat}{D:List RuleD}
private def tyF:=ai (ai (ai tg22 (ai tg24 tg38)) (ai (ai tg58 tg60) (ai tg26 tg40))) (ai (ai (ai tg62 tg82) (ai tg3 tg4)) (ai (ai tg5 tg80) (ai tg84 tg9)))
theorem rootI_c (hD:DB M D) (hM:M≤1048576):AC Tryz.prog 31 [.d (encD D)] none (fun r' _=>r'=.d (iD ((D.length:Int) - 1))):=by
 have hl:=hD.len
 refine cbS Tryz.func31 rfl Tryz.call31 Tryz.ntmps31 fun en hsz hks hk0=>?_;refine enS ?_
 refine walkS ?_
 (refine rtS Tryz.results31 ?_;exact ⟨_,_,.inl ⟨rfl,rfl⟩,List.nodup_nil,rfl⟩)
theorem rootS_c (hD:DB M D) (hM:M≤1048576):AC Tryz.prog 34 [.d (encD D)] none (fun r' _=>r'=.d (iD ((D.length:Int) - 1))):=by
 have hl:=hD.len
 refine cbS Tryz.func34 rfl Tryz.call34 Tryz.ntmps34 fun en hsz hks hk0=>?_;refine enS ?_
 refine walkS ?_
 (refine rtS Tryz.results34 ?_;exact ⟨_,_,.inl ⟨rfl,rfl⟩,List.nodup_nil,rfl⟩)
end
end Go.Proofs.YtodkkldopciagaaGreatDoor.Eng
namespace Go.Proofs.YtodkkldopciagaaGreatDoor.Eng
open Go Go.RowKit

noncomputable def readV (D:List RuleD) (b:List UInt8) (i p:Int):V × Nat × Nat:=if vKnown D i=true∧(0≤p∧p≤b.length)∧b.length≤400 then rd D b D.length i.toNat p.toNat else (V0,0,8)
noncomputable def readF (D:List RuleD) (b:List UInt8):V × Nat × Nat:=if (readV D b ((D.length:Int) - 1) 0).2.2=0∧(readV D b ((D.length:Int) - 1) 0).2.1<b.length then (V0,(readV D b ((D.length:Int) - 1) 0).2.1,7) else readV D b ((D.length:Int) - 1) 0
abbrev chR (x:V × Nat × Nat):Rz:=.d (.tup [iD x.2.1,iD x.2.2])

section
variable {M:Nat}{D:List RuleD}{b:List UInt8}
theorem readValue_c (hD:DB M D) (hM:M≤1048576) (hb:b.length≤1048576) (i p:Int):AC Tryz.prog 33 [.d (encD D),.d (iD i),.d (encB b),.d (iD p)] none (fun r' _=>r'=rdR (readV D b i p)):=by
 have no:¬(vKnown D i=true∧(0≤p∧p≤b.length)∧b.length≤400)→readV D b i p=(V0,0,8):=fun h=>if_neg h
 by_cases hv:vKnown D i=true
 ·by_cases hp:0≤p∧p≤(b.length:Int)
  ·refine cbS Tryz.func33 rfl Tryz.call33 Tryz.ntmps33 fun en hsz hks hk0=>?_;refine enS ?_
   (repeat (first|refine walkS ?_|refine cS (l1In_t hp) ?_|(refine callPre ?_;(first|refine callN_funS rfl ((l7Rule_c hD hM i).eqv (r1:=.d (bD true)) (by rw [hv])) ?_))|(refine callPreL ?_;(first|refine callL_funS rfl ((l7Rule_c hD hM i).eqv (r1:=.d (bD true)) (by rw [hv])) ?_))))
   refine aw_condS rfl (fun hc=>?_) (fun hc=>?_)
   ·refine walkS ?_
    (refine rtS Tryz.results33 ?_;refine ⟨_,[],.inr (.inl ⟨.tup [encV V0,iD 0,iD 8],rfl,rfl,?_⟩),List.nodup_nil,by rw [no (by omega)];rfl⟩;exact wkDS)
   ·have hyes:readV D b i p=rd D b D.length i.toNat p.toNat:=if_pos ⟨hv,hp,by omega⟩
    obtain ⟨v1,v2,v3⟩:=vKnown_spec hv
    have HR:=l11Read_all hD hM hb v1 D.length i.toNat p.toNat (by omega) (by omega) (by omega)
    rw [Int.toNat_of_nonneg v2,Int.toNat_of_nonneg hp.1,←hyes] at HR
    (repeat (first|refine walkS ?_|refine cS (HR) ?_))
    (refine rtS Tryz.results33 ?_;exact ⟨_,_,.inl ⟨rfl,rfl⟩,List.nodup_nil,rfl⟩)
  ·refine cbS Tryz.func33 rfl Tryz.call33 Tryz.ntmps33 fun en hsz hks hk0=>?_;refine enS ?_
   (repeat (first|refine walkS ?_|refine cS (l1In_f hp) ?_|(refine callPre ?_;(first|refine callN_funS rfl ((l7Rule_c hD hM i).eqv (r1:=.d (bD true)) (by rw [hv])) ?_))|(refine callPreL ?_;(first|refine callL_funS rfl ((l7Rule_c hD hM i).eqv (r1:=.d (bD true)) (by rw [hv])) ?_))))
   refine aw_condS rfl (fun hc=>?_) (fun hc=>?_)
   ·refine walkS ?_
    (refine rtS Tryz.results33 ?_;refine ⟨_,[],.inr (.inl ⟨.tup [encV V0,iD 0,iD 8],rfl,rfl,?_⟩),List.nodup_nil,by rw [no (fun h=>hp h.2.1)];rfl⟩;exact wkDS)
   ·cases hc
 ·have hv':vKnown D i=false:=by simpa using hv
  refine cbS Tryz.func33 rfl Tryz.call33 Tryz.ntmps33 fun en hsz hks hk0=>?_;refine enS ?_
  (repeat (first|refine walkS ?_|(refine callPre ?_;(first|refine callN_funS rfl ((l7Rule_c hD hM i).eqv (r1:=.d (bD false)) (by rw [hv'])) ?_))|(refine callPreL ?_;(first|refine callL_funS rfl ((l7Rule_c hD hM i).eqv (r1:=.d (bD false)) (by rw [hv'])) ?_))))
  refine aw_condS rfl (fun hc=>?_) (fun hc=>?_)
  ·refine walkS ?_
   (refine rtS Tryz.results33 ?_;refine ⟨_,[],.inr (.inl ⟨.tup [encV V0,iD 0,iD 8],rfl,rfl,?_⟩),List.nodup_nil,by rw [no (fun h=>hv h.1)];rfl⟩;exact wkDS)
  ·cases hc

theorem readFile_c (hD:DB M D) (hM:M≤1048576) (hb:b.length≤1048576):AC Tryz.prog 19 [.d (encD D),.d (encB b)] none (fun r' _=>r'=rdR (readF D b)):=by
 have HV:=readValue_c hD hM hb ((D.length:Int) - 1) 0
 have hf:readF D b=if (readV D b ((D.length:Int) - 1) 0).2.2=0∧(readV D b ((D.length:Int) - 1) 0).2.1<b.length then (V0,(readV D b ((D.length:Int) - 1) 0).2.1,7) else readV D b ((D.length:Int) - 1) 0:=rfl
 generalize readV D b ((D.length:Int) - 1) 0=x at HV hf
 obtain ⟨v,q,c⟩:=x
 simp only at hf
 refine cbS Tryz.func19 rfl Tryz.call19 Tryz.ntmps19 fun en hsz hks hk0=>?_;refine enS ?_
 (repeat (first|refine walkS ?_|refine cS (rootS_c hD hM) ?_|refine cS (HV) ?_))
 (refine ow_gd rfl rfl dsS (fun hg K1 hK1=>?_) (fun hg=>?_);((try simp only [hg]);refine evS ?_;refine hK1 _ ?_;clear hK1 K1);rotate_left;(simp only [Bool.not_true,Bool.not_false] at hg;simp only [St.set,hg]);rotate_left)
 ·have hg':(c:Int)=0:=by simpa using hg
  refine walkS ?_
  refine aw_condS rfl (fun hc=>?_) (fun hc=>?_)
  ·refine walkS ?_
   (refine rtS Tryz.results19 ?_;refine ⟨_,[],.inr (.inl ⟨.tup [encV V0,iD (q:Int),iD 7],rfl,rfl,?_⟩),List.nodup_nil,by rw [hf,if_pos (by constructor<;>omega)];rfl⟩;exact wkDS)
  ·refine walkS ?_
   (refine rtS Tryz.results19 ?_;refine ⟨_,[],.inr (.inl ⟨.tup [encV v,iD (q:Int),iD (c:Int)],rfl,rfl,?_⟩),List.nodup_nil,by rw [hf,if_neg (by omega)]⟩;exact wkDS)
 ·have hg':(c:Int)≠0:=by simpa using hg
  refine walkS ?_
  refine aw_condS rfl (fun hc=>?_) (fun hc=>?_)
  ·cases hc
  ·refine walkS ?_
   (refine rtS Tryz.results19 ?_;refine ⟨_,[],.inr (.inl ⟨.tup [encV v,iD (q:Int),iD (c:Int)],rfl,rfl,?_⟩),List.nodup_nil,by rw [hf,if_neg (by omega)]⟩;exact wkDS)
end
end Go.Proofs.YtodkkldopciagaaGreatDoor.Eng
namespace Go.Proofs.YtodkkldopciagaaGreatDoor.Eng
open Go Go.RowKit

section
variable {M:Nat}{D:List RuleD}
theorem put_n {D:List RuleD}{out o2 b:List UInt8} (h:o2=out++b) (hl:out.length+b.length≤268435456):AC Tryz.prog 80 [.ptr 0 0,.d (encB b)] (some (prn D out)) (fun r' b'=>r'=.d (.tup [])∧b'=some (prn D o2)):=by
 rw [h]
 exact put_c D hl
theorem valueP_step (hD:DB M D) (hM:M≤1048576) (hV:descP D) {n:Int}{bs:List UInt8}{vs:List V} (hv:VB 1048576 (.mk n bs vs)) (H:∀ v∈vs,PrOK D v):PrOK D (.mk n bs vs):=by
 intro i out hi hval hcap
 obtain ⟨r,hr⟩:∃ r,D[i]?=some r:=⟨_,List.getElem?_eq_getElem hi⟩
 have G:GoodR D i r:=good_of hV hr
 obtain ⟨kd1,kd2⟩:=G.kd
 have hrb:=hD.rule r (List.mem_of_getElem? hr)
 obtain ⟨v1,v2,_⟩:bs.length≤1048576∧vs.length≤1048576∧VBs 1048576 vs:=by unfold VB at hv;exact hv
 rw [validV,ruleD_get hr,Bool.and_eq_true] at hval
 obtain ⟨hO,hvs⟩:=hval
 have hkid:∀ k (h:k<vs.length),∃ j:Nat,itemK r n k=j∧j<D.length:=fun k h=>own_kid G hi hO h
 have hhead:=headB_len hV hr G hO
 rw [capV_mk] at hcap
 have hpr:prI D i out (.mk n bs vs)=prIs D r n 0 (out++headB D r n bs vs.length) vs++tailB r ((prIs D r n 0 (out++headB D r n bs vs.length) vs).drop (out++headB D r n bs vs.length).length):=by rw [prI,ruleD_get hr]
 rw [hpr]
 obtain ⟨o2,ho2⟩:∃ o2,o2=out++headB D r n bs vs.length:=⟨_,rfl⟩
 rw [←ho2]
 have hl2:o2.length≤out.length+68+2*bs.length:=by rw [ho2,List.length_append];omega
 have HI:=itemsP_c hD hM hV hr hv hkid hvs H o2 (by omega)
 have hl3:=prIs_le hV r n vs 0 o2 (fun k hk=>by rw [Nat.zero_add];exact hkid k hk) hvs
 have hge:=prIs_ge D r n vs 0 o2
 generalize prIs D r n 0 o2 vs=o3 at HI hl3 hge
 rw [encVc_mk,encVs_eq] at HI ⊢
 refine cbS Tryz.func50 rfl Tryz.call50 Tryz.ntmps50 fun en hsz hks hk0=>?_;refine enS ?_
 refine walkJS ?_
 refine aw_joinS [1,2,3,6] (fun κ s'=>[(κ,keyB s' 0 1)]) (fun _ _=>[]) [0] (fun κ _=>[(0,some [.d (encDs D),.own κ 5 1 (o2.map fun c=>[uD c])])]) [16] (fun κ _=>[(κ,some (o2.length,5,1))]) (fun _:Unit=>True) hks (fun _=>rfl) (fun x hx=>?_) ?_;rotate_left
 ·refine walkS ?_
  refine aw_condS rfl (fun n1=>?_) (fun n1=>?_)
  ·rw [headB_1 n1] at ho2
   rw [ownV_1 n1,decide_eq_true_eq] at hO
   obtain ⟨m,rfl⟩:∃ m:Nat,n=m:=⟨n.toNat,by omega⟩
   rw [Int.toNat_natCast] at ho2
   have hil:=intB_len r m
   have hs:=G.k1 n1
   refine walkS ?_
   (have hsz0:=hsz;refine ow_inlineV ?_ dsS rfl rfl Tryz.func79 rfl Tryz.call79 Tryz.ntmps79 (by simp) fun en2 hsz=>?_;exact trS;simp (decide:=true) only [frOf,ev,St.f,lk,reduceIte,List.zipIdx_cons,List.zipIdx_nil,List.map_cons,List.map_nil,List.nil_append,List.cons_append,List.append_nil,Nat.zero_add,Nat.reduceAdd])
   (repeat (first|refine walkLS ?_|(refine ow_call1p (k:=0) ?_ dsS rfl rfl (put_n ho2 (by omega)) rfl rfl (by first|rfl|(simp only [List.length_map,List.length_append]<;>rfl)) (by decide) ?_;exact trS;simp only [St.set,List.map_cons,List.map_nil,List.length_map,List.length_append,Nat.reduceAdd])|(refine ow_call1pV (k:=0) ?_ dsS rfl rfl rfl (put_n ho2 (by omega)) rfl rfl (by first|rfl|(simp only [List.length_map,List.length_append]<;>rfl)) (by decide) ?_;exact trS;simp only [St.set,List.map_cons,List.map_nil,List.length_map,List.length_append,Nat.reduceAdd])|(refine callPre ?_;(first|refine callN_funS rfl (encInt_c (r:=r) (n:=m) hs (by omega)) ?_))|(refine callPreL ?_;(first|refine callL_funS rfl (encInt_c (r:=r) (n:=m) hs (by omega)) ?_))|(refine callPreV ?_;(first|refine callN_funS rfl (encInt_c (r:=r) (n:=m) hs (by omega)) ?_))))
   (refine ⟨.inl rfl,?_⟩;show OWs _ _ _ _ _ (St.set _ (some _) _);simp only [St.set,resOf,mkTup,allD,Option.map_some,Option.map_none,List.map_nil];have hsz:=hsz0)
   refine walkS ?_
   refine ⟨(),trivial,?_⟩
   exact wkS
  refine walkS ?_
  refine aw_condS rfl (fun n2=>?_) (fun n2=>?_)
  ·rw [headB_2 n2] at ho2
   have hcl:=const_le hV hr n2
   (repeat (first|refine walkS ?_|(refine ow_call1p (k:=0) ?_ dsS rfl rfl (put_n ho2 (by omega)) rfl rfl (by first|rfl|(simp only [List.length_map,List.length_append]<;>rfl)) (by decide) ?_;exact trS;simp only [St.set,List.map_cons,List.map_nil,List.length_map,List.length_append,Nat.reduceAdd])|(refine ow_call1pV (k:=0) ?_ dsS rfl rfl rfl (put_n ho2 (by omega)) rfl rfl (by first|rfl|(simp only [List.length_map,List.length_append]<;>rfl)) (by decide) ?_;exact trS;simp only [St.set,List.map_cons,List.map_nil,List.length_map,List.length_append,Nat.reduceAdd])))
   refine ⟨(),trivial,?_⟩
   exact wkS
  refine walkS ?_
  refine aw_condS rfl (fun n3=>?_) (fun n3=>?_)
  ·rw [headB_3 n3] at ho2
   (repeat (first|refine walkLS ?_|(refine ow_call1p (k:=0) ?_ dsS rfl rfl (put_n ho2 (by omega)) rfl rfl (by first|rfl|(simp only [List.length_map,List.length_append]<;>rfl)) (by decide) ?_;exact trS;simp only [St.set,List.map_cons,List.map_nil,List.length_map,List.length_append,Nat.reduceAdd])|(refine ow_call1pV (k:=0) ?_ dsS rfl rfl rfl (put_n ho2 (by omega)) rfl rfl (by first|rfl|(simp only [List.length_map,List.length_append]<;>rfl)) (by decide) ?_;exact trS;simp only [St.set,List.map_cons,List.map_nil,List.length_map,List.length_append,Nat.reduceAdd])))
   refine ⟨(),trivial,?_⟩
   exact wkS
  refine walkS ?_
  refine aw_condS rfl (fun n4=>?_) (fun n4=>?_)
  ·rw [headB_4 n4] at ho2
   rw [ownV_4 n4,decide_eq_true_eq] at hO
   obtain ⟨j,q,ej,hj,hq,hqr,hlim⟩:=head_kid G (.inl n4)
   have hk0:r.kids[0]?=some (j:Int):=by rw [kids0 (by have:=(G.k4 n4).1;omega),ej]
   have hil:=intB_len q bs.length
   rw [hqr,←List.append_assoc] at ho2
   obtain ⟨o1,ho1⟩:∃ o1,o1=out++intB q bs.length:=⟨_,rfl⟩
   rw [←ho1] at ho2
   have hl1:o1.length≤out.length+4:=by rw [ho1,List.length_append];omega
   refine walkLS ?_
   (have hsz0:=hsz;refine ow_inlineV ?_ dsS rfl rfl Tryz.func79 rfl Tryz.call79 Tryz.ntmps79 (by simp) fun en2 hsz=>?_;exact trS;simp (decide:=true) only [frOf,ev,St.f,lk,reduceIte,List.zipIdx_cons,List.zipIdx_nil,List.map_cons,List.map_nil,List.nil_append,List.cons_append,List.append_nil,Nat.zero_add,Nat.reduceAdd])
   (repeat (first|refine walkLS ?_|(refine ow_call1p (k:=0) ?_ dsS rfl rfl (put_n ho1 (by omega)) rfl rfl (by first|rfl|(simp only [List.length_map,List.length_append]<;>rfl)) (by decide) ?_;exact trS;simp only [St.set,List.map_cons,List.map_nil,List.length_map,List.length_append,Nat.reduceAdd])|(refine ow_call1pV (k:=0) ?_ dsS rfl rfl rfl (put_n ho1 (by omega)) rfl rfl (by first|rfl|(simp only [List.length_map,List.length_append]<;>rfl)) (by decide) ?_;exact trS;simp only [St.set,List.map_cons,List.map_nil,List.length_map,List.length_append,Nat.reduceAdd])|(refine callPre ?_;(first|refine callN_funS rfl (encInt_c (r:=q) (n:=bs.length) hq (by omega)) ?_))|(refine callPreL ?_;(first|refine callL_funS rfl (encInt_c (r:=q) (n:=bs.length) hq (by omega)) ?_))|(refine callPreV ?_;(first|refine callN_funS rfl (encInt_c (r:=q) (n:=bs.length) hq (by omega)) ?_))))
   (refine ⟨.inl rfl,?_⟩;show OWs _ _ _ _ _ (St.set _ (some _) _);simp only [St.set,resOf,mkTup,allD,Option.map_some,Option.map_none,List.map_nil];have hsz:=hsz0)
   (repeat (first|refine walkLS ?_|(refine ow_call1p (k:=0) ?_ dsS rfl rfl (put_n ho2 (by omega)) rfl rfl (by first|rfl|(simp only [List.length_map,List.length_append]<;>rfl)) (by decide) ?_;exact trS;simp only [St.set,List.map_cons,List.map_nil,List.length_map,List.length_append,Nat.reduceAdd])|(refine ow_call1pV (k:=0) ?_ dsS rfl rfl rfl (put_n ho2 (by omega)) rfl rfl (by first|rfl|(simp only [List.length_map,List.length_append]<;>rfl)) (by decide) ?_;exact trS;simp only [St.set,List.map_cons,List.map_nil,List.length_map,List.length_append,Nat.reduceAdd])))
   refine ⟨(),trivial,?_⟩
   exact wkS
  refine walkS ?_
  refine aw_condS rfl (fun n5=>?_) (fun n5=>?_)
  ·rw [headB_5 n5] at ho2
   rw [ownV_5 n5,decide_eq_true_eq] at hO
   obtain ⟨j,q,ej,hj,hq,hqr,hlim⟩:=head_kid G (.inr (.inl n5))
   have hk0:r.kids[0]?=some (j:Int):=by rw [kids0 (by have:=(G.k5 n5).1;omega),ej]
   have hil:=intB_len q vs.length
   rw [hqr] at ho2
   refine walkLS ?_
   (have hsz0:=hsz;refine ow_inlineV ?_ dsS rfl rfl Tryz.func79 rfl Tryz.call79 Tryz.ntmps79 (by simp) fun en2 hsz=>?_;exact trS;simp (decide:=true) only [frOf,ev,St.f,lk,reduceIte,List.zipIdx_cons,List.zipIdx_nil,List.map_cons,List.map_nil,List.nil_append,List.cons_append,List.append_nil,Nat.zero_add,Nat.reduceAdd])
   (repeat (first|refine walkLS ?_|(refine ow_call1p (k:=0) ?_ dsS rfl rfl (put_n ho2 (by omega)) rfl rfl (by first|rfl|(simp only [List.length_map,List.length_append]<;>rfl)) (by decide) ?_;exact trS;simp only [St.set,List.map_cons,List.map_nil,List.length_map,List.length_append,Nat.reduceAdd])|(refine ow_call1pV (k:=0) ?_ dsS rfl rfl rfl (put_n ho2 (by omega)) rfl rfl (by first|rfl|(simp only [List.length_map,List.length_append]<;>rfl)) (by decide) ?_;exact trS;simp only [St.set,List.map_cons,List.map_nil,List.length_map,List.length_append,Nat.reduceAdd])|(refine callPre ?_;(first|refine callN_funS rfl (encInt_c (r:=q) (n:=vs.length) hq (by omega)) ?_))|(refine callPreL ?_;(first|refine callL_funS rfl (encInt_c (r:=q) (n:=vs.length) hq (by omega)) ?_))|(refine callPreV ?_;(first|refine callN_funS rfl (encInt_c (r:=q) (n:=vs.length) hq (by omega)) ?_))))
   (refine ⟨.inl rfl,?_⟩;show OWs _ _ _ _ _ (St.set _ (some _) _);simp only [St.set,resOf,mkTup,allD,Option.map_some,Option.map_none,List.map_nil];have hsz:=hsz0)
   refine walkS ?_
   refine ⟨(),trivial,?_⟩
   exact wkS
  refine walkS ?_
  refine aw_condS rfl (fun n7=>?_) (fun n7=>?_)
  ·rw [headB_7 n7] at ho2
   obtain ⟨j,q,ej,hj,hq,hqr,hlim⟩:=head_kid G (.inr (.inr n7))
   have hn:=own_num hV hr G n7 hO
   obtain ⟨m,rfl⟩:∃ m:Nat,n=m:=⟨n.toNat,by omega⟩
   rw [Int.toNat_natCast,hqr] at ho2
   have hk0:r.kids[0]?=some (j:Int):=by rw [kids0 (by have:=(G.k7 n7).1;omega),ej]
   have hil:=intB_len q m
   refine walkLS ?_
   (have hsz0:=hsz;refine ow_inlineV ?_ dsS rfl rfl Tryz.func79 rfl Tryz.call79 Tryz.ntmps79 (by simp) fun en2 hsz=>?_;exact trS;simp (decide:=true) only [frOf,ev,St.f,lk,reduceIte,List.zipIdx_cons,List.zipIdx_nil,List.map_cons,List.map_nil,List.nil_append,List.cons_append,List.append_nil,Nat.zero_add,Nat.reduceAdd])
   (repeat (first|refine walkLS ?_|(refine ow_call1p (k:=0) ?_ dsS rfl rfl (put_n ho2 (by omega)) rfl rfl (by first|rfl|(simp only [List.length_map,List.length_append]<;>rfl)) (by decide) ?_;exact trS;simp only [St.set,List.map_cons,List.map_nil,List.length_map,List.length_append,Nat.reduceAdd])|(refine ow_call1pV (k:=0) ?_ dsS rfl rfl rfl (put_n ho2 (by omega)) rfl rfl (by first|rfl|(simp only [List.length_map,List.length_append]<;>rfl)) (by decide) ?_;exact trS;simp only [St.set,List.map_cons,List.map_nil,List.length_map,List.length_append,Nat.reduceAdd])|(refine callPre ?_;(first|refine callN_funS rfl (encInt_c (r:=q) (n:=m) hq (by omega)) ?_))|(refine callPreL ?_;(first|refine callL_funS rfl (encInt_c (r:=q) (n:=m) hq (by omega)) ?_))|(refine callPreV ?_;(first|refine callN_funS rfl (encInt_c (r:=q) (n:=m) hq (by omega)) ?_))))
   (refine ⟨.inl rfl,?_⟩;show OWs _ _ _ _ _ (St.set _ (some _) _);simp only [St.set,resOf,mkTup,allD,Option.map_some,Option.map_none,List.map_nil];have hsz:=hsz0)
   refine walkS ?_
   refine ⟨(),trivial,?_⟩
   exact wkS
  refine walkS ?_
  refine aw_condS rfl (fun n8=>?_) (fun n8=>?_)
  ·rw [headB_8 n8] at ho2
   have hp:=put_n (D:=D) ho2 (by simp;omega)
   refine walkLS ?_
   simp only [u8_len]
   (repeat (first|refine walkS ?_|(refine ow_call1p (k:=0) ?_ dsS rfl rfl (hp) rfl rfl (by first|rfl|(simp only [List.length_map,List.length_append]<;>rfl)) (by decide) ?_;exact trS;simp only [St.set,List.map_cons,List.map_nil,List.length_map,List.length_append,Nat.reduceAdd])|(refine ow_call1pV (k:=0) ?_ dsS rfl rfl rfl (hp) rfl rfl (by first|rfl|(simp only [List.length_map,List.length_append]<;>rfl)) (by decide) ?_;exact trS;simp only [St.set,List.map_cons,List.map_nil,List.length_map,List.length_append,Nat.reduceAdd])))
   refine ⟨(),trivial,?_⟩
   exact wkS
  refine walkS ?_
  refine aw_condS rfl (fun n10=>?_) (fun n10=>?_)
  ·rw [headB_10 n10] at ho2
   obtain ⟨t,ht⟩:∃ t,r.bytes=[t]:=List.length_eq_one_iff.1 (G.k10 n10)
   have hh:r.bytes.headD 0=t:=by rw [ht];rfl
   have ht0:r.bytes[0]?=some t:=by rw [ht];rfl
   have hel:=escB_len t bs
   rw [hh] at ho2
   (repeat (first|refine walkLS ?_|(refine ow_call1p (k:=0) ?_ dsS rfl rfl (put_n ho2 (by omega)) rfl rfl (by first|rfl|(simp only [List.length_map,List.length_append]<;>rfl)) (by decide) ?_;exact trS;simp only [St.set,List.map_cons,List.map_nil,List.length_map,List.length_append,Nat.reduceAdd])|(refine ow_call1pV (k:=0) ?_ dsS rfl rfl rfl (put_n ho2 (by omega)) rfl rfl (by first|rfl|(simp only [List.length_map,List.length_append]<;>rfl)) (by decide) ?_;exact trS;simp only [St.set,List.map_cons,List.map_nil,List.length_map,List.length_append,Nat.reduceAdd])|(refine callPre ?_;(first|refine callN_funS rfl (escI_c (l:=bs) (by omega) t) ?_))|(refine callPreL ?_;(first|refine callL_funS rfl (escI_c (l:=bs) (by omega) t) ?_))|(refine callPreV ?_;(first|refine callN_funS rfl (escI_c (l:=bs) (by omega) t) ?_))))
   refine ⟨(),trivial,?_⟩
   exact wkS
  ·rw [headB_no (by omega),List.append_nil] at ho2
   subst ho2
   refine walkS ?_
   refine ⟨(),trivial,?_⟩
   exact wkS
 refine headS ?_
 (repeat (first|refine walkS ?_|(refine ow_call1p (k:=0) ?_ dsS rfl rfl (HI) rfl rfl (by first|rfl|(simp only [List.length_map,List.length_append]<;>rfl)) (by decide) ?_;exact trS;simp only [St.set,List.map_cons,List.map_nil,List.length_map,List.length_append,Nat.reduceAdd])|(refine ow_call1pV (k:=0) ?_ dsS rfl rfl rfl (HI) rfl rfl (by first|rfl|(simp only [List.length_map,List.length_append]<;>rfl)) (by decide) ?_;exact trS;simp only [St.set,List.map_cons,List.map_nil,List.length_map,List.length_append,Nat.reduceAdd])))
 refine aw_condS rfl (fun n9=>?_) (fun n9=>?_)
 ·rw [tailB_9 n9]
  have e:List.take (o3.length - o2.length) (List.drop o2.length o3)=List.drop o2.length o3:=List.take_of_length_le (by simp)
  have hp:=put_n (D:=D) (out:=o3) (b:=[UInt8.ofNat (sumB (o3.drop o2.length))]) rfl (by simp;omega)
  have hsl:(o3.drop o2.length).length≤268435456:=by rw [List.length_drop];omega
  refine walkLS ?_
  simp only [←List.map_drop,←List.map_take,e]
  (repeat (first|refine ctlS ?_|(refine ol_go ?_ (fun K1 hK1=>?_);exact trS;refine evS ?_;(try simp only [u8_len]);refine hK1 _ _ ?_;clear hK1 K1)|(refine ow_go ?_ dsS (fun K1 hK1=>?_);exact trS;refine evS ?_;(try simp only [u8_len]);refine hK1 _ ?_;clear hK1 K1)|refine skipS ?_|refine cS (sumIX_c hsl) ?_|(refine callPreV ?_;(first|refine callN_funS rfl (sumIX_c hsl) ?_))))
  (repeat (first|refine walkS ?_|(refine ow_call1p (k:=0) ?_ dsS rfl rfl (hp) rfl rfl (by first|rfl|(simp only [List.length_map,List.length_append]<;>rfl)) (by decide) ?_;exact trS;simp only [St.set,List.map_cons,List.map_nil,List.length_map,List.length_append,Nat.reduceAdd])|(refine ow_call1pV (k:=0) ?_ dsS rfl rfl rfl (hp) rfl rfl (by first|rfl|(simp only [List.length_map,List.length_append]<;>rfl)) (by decide) ?_;exact trS;simp only [St.set,List.map_cons,List.map_nil,List.length_map,List.length_append,Nat.reduceAdd])))
  ((try refine aw_ret ?_);(simp only [Fin,Tryz.results50];refine finS ?_);exact ⟨_,[],.inl ⟨rfl,rfl⟩,_,([.d (encDs D),.own 5 1 ((o3++[UInt8.ofNat (sumB (o3.drop o2.length))]).map fun c=>[uD c])]),[_],rfl,toZL_p (by simp only [List.length_append,List.length_map]<;>rfl),by simp,⟨rfl,rfl⟩⟩)
 ·rw [tailB_no n9,List.append_nil]
  refine walkS ?_
  ((try refine aw_ret ?_);(simp only [Fin,Tryz.results50];refine finS ?_);exact ⟨_,[],.inl ⟨rfl,rfl⟩,_,(prn D o3),[_],rfl,toZL_p (by simp only [List.length_append,List.length_map]<;>rfl),by simp,⟨rfl,rfl⟩⟩)
end
end Go.Proofs.YtodkkldopciagaaGreatDoor.Eng
namespace Go.Proofs.YtodkkldopciagaaGreatDoor.Eng
open Go Go.RowKit

section
variable {M:Nat}{D:List RuleD}
theorem isValidI_c (hD:DB M D) (hM:M≤1048576) (i:Int) {v:V} (hv:VB 1048576 v):AC Tryz.prog 49 [.d (encD D),.d (iD i),.d (encV v)] none (fun r' _=>r'=.d (bD (isVal D i v))):=by
 have HK:=known_c hD hM i
 have hp:isVal D i v=(vKnown D i && validV D i v):=rfl
 cases hk:vKnown D i with
 | false=>
  rw [hk] at hp HK
  obtain ⟨n,bs,vs⟩:=v
  rw [encV_mk,encVs_eq]
  refine cbS Tryz.func49 rfl Tryz.call49 Tryz.ntmps49 fun en hsz hks hk0=>?_;refine enS ?_
  (repeat (first|refine walkS ?_|refine cS (HK) ?_))
  (refine rtS Tryz.results49 ?_;exact ⟨_,_,.inl ⟨rfl,rfl⟩,List.nodup_nil,by rw [hp];rfl⟩)
 | true=>
  rw [hk] at hp HK
  obtain ⟨v1,v2,v3⟩:=vKnown_spec hk
  have HV:=validI_all hD hM v1 _ (i:=i.toNat) (by omega) (Nat.le_refl _) hv
  rw [Int.toNat_of_nonneg v2] at HV
  obtain ⟨n,bs,vs⟩:=v
  rw [encVc_mk,encVs_eq] at HV
  rw [encV_mk,encVs_eq]
  refine cbS Tryz.func49 rfl Tryz.call49 Tryz.ntmps49 fun en hsz hks hk0=>?_;refine enS ?_
  (repeat (first|refine walkS ?_|refine cS (HK) ?_))
  refine ow_freezeB 5 _ [iD n,encB bs,.sl 3 (vs.map encVc)] rfl rfl hks (by decide) ?_
  (repeat (first|refine walkS ?_|refine cS (HV) ?_))
  (refine rtS Tryz.results49 ?_;exact ⟨_,_,.inl ⟨rfl,rfl⟩,List.nodup_nil,by rw [hp];rfl⟩)
end
end Go.Proofs.YtodkkldopciagaaGreatDoor.Eng
namespace Go.Proofs.YtodkkldopciagaaGreatDoor.Eng
open Go Go.RowKit

section
variable {M:Nat}{D:List RuleD}
theorem printI_all (hD:DB M D) (hM:M≤1048576) (hV:descP D):∀ N:Nat,∀ {v:V},SizeOf.sizeOf v≤N→VB 1048576 v→PrOK D v
 | 0,.mk n bs vs,h,_=>by simp only [V.mk.sizeOf_spec] at h;omega
 | N+1,.mk n bs vs,h,hv=>valueP_step hD hM hV hv fun v hvm=>printI_all hD hM hV N (by have:=item_lt (n:=n) (bs:=bs) hvm;omega) (by unfold VB at hv;exact hv.2.2.el v hvm)
theorem printVI_c (hD:DB M D) (hM:M≤1048576) (i:Int) {v:V} (hv:VB 1048576 v) (ht:totV v≤1048576):AC Tryz.prog 32 [.d (encD D),.d (iD i),.d (encV v)] none (fun r' _=>r'=prRz (prR D i v)):=by
 have HI:=isValidI_c hD hM i hv
 cases he:isVal D i v with
 | false=>
  rw [he] at HI
  rw [prR_f he]
  obtain ⟨n,bs,vs⟩:=v
  rw [encV_mk,encVs_eq] at HI ⊢
  refine cbS Tryz.func32 rfl Tryz.call32 Tryz.ntmps32 fun en hsz hks hk0=>?_;refine enS ?_
  (repeat (first|refine walkS ?_|refine cS (HI) ?_))
  refine aw_condS rfl (fun hc=>?_) (fun hc=>?_)
  ·refine walkS ?_
   (refine rtS Tryz.results32 ?_;exact ⟨_,_,.inl (toZ_tup (toZL_cons (toZ_own (by simp [lk,St.mem])) (toZL_cons toZ_d toZL_nil))),by simp,rfl⟩)
  ·(first|exact absurd trivial hc|exact absurd rfl hc|(cases hc;done)|omega|exact absurd hc (by decide)|(simp at hc;done))
 | true=>
  have hkv:vKnown D i=true∧validV D i v=true:=by
   have:(vKnown D i && validV D i v)=true:=he
   rwa [Bool.and_eq_true] at this
  obtain ⟨v1,v2,v3⟩:=vKnown_spec hkv.1
  have hval:=hkv.2
  rw [←Int.toNat_of_nonneg v2] at hval
  have HP:=printI_all hD hM v1 _ (Nat.le_refl _) hv i.toNat [] (by omega) hval (by unfold capV;rw [List.length_nil];omega)
  have hle:=prI_le v1 v i.toNat [] (by omega) hval
  unfold capV at hle
  have heq:=prI_eq D i.toNat v []
  rw [Int.toNat_of_nonneg v2] at HP hle heq
  rw [he] at HI
  rw [List.length_nil,Nat.zero_add,List.nil_append] at heq
  have hlen:((prI D i [] v).length≤400→prR D i v=(prI D i [] v,true))∧(¬(prI D i [] v).length≤400→prR D i v=([],false)):=by
   refine ⟨fun h=>?_,fun h=>?_⟩
   ·have h4:(prV D i v).length≤400:=by
     refine Nat.le_of_not_lt fun h5=>?_
     have:=heq.2 h5
     omega
    rw [prR_t he h4,heq.1 h4]
   ·refine prR_l fun h4=>h ?_
    rw [heq.1 h4]
    exact h4
  rw [List.length_nil,Nat.zero_add] at hle
  clear heq
  generalize prI D i [] v=l at HP hle hlen
  generalize prR D i v=q at hlen
  obtain ⟨n,bs,vs⟩:=v
  rw [encVc_mk,encVs_eq] at HP
  rw [encV_mk,encVs_eq] at HI ⊢
  have HF:=full_c D (es:=l) (by omega)
  refine cbS Tryz.func32 rfl Tryz.call32 Tryz.ntmps32 fun en hsz hks hk0=>?_;refine enS ?_
  (repeat (first|refine walkS ?_|refine cS (HI) ?_))
  refine aw_condS rfl (fun hc=>?_) (fun hc=>?_)
  ·(first|exact absurd trivial hc|exact absurd rfl hc|(cases hc;done)|omega|exact absurd hc (by decide)|(simp at hc;done))
  refine walkS ?_
  refine ow_freezeB 5 _ [iD n,encB bs,.sl 3 (vs.map encVc)] rfl rfl hks (by decide) ?_
  dsimp only
  refine ow_call1n (k:=64) ?_ dsS rfl rfl HP rfl rfl ?_
  ·exact trivial
  simp only [St.set,List.map_cons,List.map_nil,List.length_map,Nat.reduceAdd]
  refine walkS ?_
  (repeat (first|refine walkS ?_|(refine ow_call1p (k:=64) ?_ dsS rfl rfl (HF) rfl rfl (by first|rfl|(simp only [List.length_map,List.length_append]<;>rfl)) (by decide) ?_;exact trS;simp only [St.set,List.map_cons,List.map_nil,List.length_map,List.length_append,Nat.reduceAdd])|(refine ow_call1pV (k:=64) ?_ dsS rfl rfl rfl (HF) rfl rfl (by first|rfl|(simp only [List.length_map,List.length_append]<;>rfl)) (by decide) ?_;exact trS;simp only [St.set,List.map_cons,List.map_nil,List.length_map,List.length_append,Nat.reduceAdd])))
  refine aw_condS rfl (fun h4=>?_) (fun h4=>?_)
  ·have h4':¬l.length≤400:=by have:400<l.length:=(by first|exact h4|simpa using h4);omega
   rw [hlen.2 h4']
   refine walkS ?_
   (refine rtS Tryz.results32 ?_;exact ⟨_,_,.inl (toZ_tup (toZL_cons (toZ_own (by simp [lk,St.mem])) (toZL_cons toZ_d toZL_nil))),by simp,rfl⟩)
  ·have h4':l.length≤400:=by have:¬400<l.length:=(by first|exact h4|simpa using h4);omega
   rw [hlen.1 h4']
   refine walkS ?_
   (refine rtS Tryz.results32 ?_;exact ⟨_,_,.inl (toZ_tup (toZL_cons (toZ_own (by simp [lk,St.mem])) (toZL_cons toZ_d toZL_nil))),by simp,rfl⟩)

end
theorem prR_len (D:List RuleD) (i:Int) (v:V):(prR D i v).1.length≤400:=by
 unfold prR
 split
 ·rename_i h;exact h.2
 ·simp
end Go.Proofs.YtodkkldopciagaaGreatDoor.Eng
namespace Go.Proofs.YtodkkldopciagaaGreatDoor.Eng
open Go Go.RowKit

section
variable {M:Nat}{D:List RuleD}
theorem printFS_c (hD:DB M D) (hM:M≤1048576) {v:V} (hv:VB 1048576 v) (ht:totV v≤1048576):AC Tryz.prog 25 [.d (encD D),.d (encV v)] none (fun r' _=>r'=prRz (prR D ((D.length:Int) - 1) v)):=by
 have HP:=printVS_c hD hM ((D.length:Int) - 1) hv ht
 generalize prR D ((D.length:Int) - 1) v=q at HP
 obtain ⟨n,bs,vs⟩:=v
 rw [encV_mk,encVs_eq] at HP ⊢
 refine cbS Tryz.func25 rfl Tryz.call25 Tryz.ntmps25 fun en hsz hks hk0=>?_;refine enS ?_
 (repeat (first|refine walkS ?_|refine cS (rootS_c hD hM) ?_|refine cS (HP) ?_))
 (refine rtS Tryz.results25 ?_;exact ⟨_,_,.inl (toZ_tup (toZL_cons (toZ_own (by simp [lk,St.mem])) (toZL_cons toZ_d toZL_nil))),by simp,rfl⟩)
theorem printFI_c (hD:DB M D) (hM:M≤1048576) {v:V} (hv:VB 1048576 v) (ht:totV v≤1048576):AC Tryz.prog 18 [.d (encD D),.d (encV v)] none (fun r' _=>r'=prRz (prR D ((D.length:Int) - 1) v)):=by
 have HP:=printVI_c hD hM ((D.length:Int) - 1) hv ht
 generalize prR D ((D.length:Int) - 1) v=q at HP
 obtain ⟨n,bs,vs⟩:=v
 rw [encV_mk,encVs_eq] at HP ⊢
 refine cbS Tryz.func18 rfl Tryz.call18 Tryz.ntmps18 fun en hsz hks hk0=>?_;refine enS ?_
 (repeat (first|refine walkS ?_|refine cS (rootI_c hD hM) ?_|refine cS (HP) ?_))
 (refine rtS Tryz.results18 ?_;exact ⟨_,_,.inl (toZ_tup (toZL_cons (toZ_own (by simp [lk,St.mem])) (toZL_cons toZ_d toZL_nil))),by simp,rfl⟩)
end
end Go.Proofs.YtodkkldopciagaaGreatDoor.Eng
namespace Go.Proofs.YtodkkldopciagaaGreatDoor.Eng
open Go Go.RowKit

theorem bigB_c (B:List UInt8):AC Tryz.prog 5 [.d (encB B)] none (fun r' _=>r'=.d (bD (decide ((1048576:Int)<B.length)))):=by
 refine cbS Tryz.func5 rfl Tryz.call5 Tryz.ntmps5 fun en hsz hks hk0=>?_;refine enS ?_
 refine walkS ?_
 (refine rtS Tryz.results5 ?_;exact ⟨_,_,.inl ⟨rfl,rfl⟩,List.nodup_nil,rfl⟩)
end Go.Proofs.YtodkkldopciagaaGreatDoor.Eng
