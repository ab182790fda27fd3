/-
 Draws: numbers as texts; which rules are integers.
-/
import Derived.Test.YtndnefealooolaaGreatDoorKND1
import Derived.Test.YtndnefealooolaaGreatDoorKPD
set_option linter.unusedSimpArgs false
set_option linter.unusedVariables false
set_option linter.defProp false
set_option maxRecDepth 100000
set_option maxHeartbeats 4000000
namespace Go.Proofs.YtndnefealooolaaGreatDoor.Eng
open Go Go.RowKit

section
variable {p:Nat→Prop}
theorem wkD_ownS (l:List ByteArray) (k:Nat) (e:TypeId):wkD (encS l) (.own k e 1 (l.map fun s=>[sD s]))=True:=eq_true (by unfold encS wkD;exact .inr ⟨_,_,_,rfl,dleLL_refl _⟩)
theorem wkD_ownI (l:List Int) (k:Nat) (e:TypeId):wkD (encI l) (.own k e 1 (l.map fun n=>[iD n]))=True:=eq_true (by unfold encI wkD;exact .inr ⟨_,_,_,rfl,dleLL_refl _⟩)
theorem wkD_ownDs (l:List RuleD) (k:Nat) (e:TypeId):wkD (encDs l) (.own k e 8 (l.map encRc))=True:=eq_true (by unfold encDs wkD;exact .inr ⟨_,_,_,rfl,dleLL_refl _⟩)
theorem wkD_own2 (z k:Nat) (e:TypeId) (c d:List D):wkD (.sl z [c,d]) (.own k e z [c,d])=True:=eq_true (by unfold wkD;exact .inr ⟨_,_,_,rfl,dleLL_refl _⟩)
theorem wkDS3 {p:Prop} (h:p:=by first|exact wkD_self _|(simp (decide:=true) only [wkD_own1,wkD_own2,wkD_ownS,wkD_ownI,wkD_ownDs,wkD_selfT,wkD_ownB,wkD_ownB0,wkD_ownV0,wkD_nilB,wkD_ownV,wkD_nilV,wkD_agg,wkD_tup,wkDL_nil,wkDL_cons,encVs_append,encVs_one,encVs_nil,encV_mk,V0,dle_agg,dle_tup,dleL_nil,dleL_cons,dle_nil,dle_nilB,wkD_tupd,wkD_aggd,dle_selfT,and_true,true_and,List.map_cons,List.map_nil])):p:=h
theorem convV_own2 (P:Program) (s d:TypeId) (k:Nat) (e:TypeId) (n:Int) (K:A→Prop):convV P s d (.own k e 1 [[.v (.int .u8 n)]]) K=(P.underlying d=some .string∧bytesT P s=true∧K (.d (sD ⟨#[UInt8.ofNat n.toNat]⟩))):=by
 rfl
private def tyF:=ai (ai (ai tg22 (ai tg24 tg57)) (ai tg65 (ai tg26 tg97))) (ai (ai tg3 (ai tg4 tg5)) (ai tg59 (ai tg9 convV_own2)))
theorem fmtS_c {n:Nat} (hn:n≤4611686018427387904):AC Tryz.prog 68 [.d (iD (n:Nat))] none (fun r' _=>r'=.d (sD (fmtN n))):=by
 have e2:decide ((n:Int)<0)=false:=by simp
 refine cbS Tryz.func68 rfl Tryz.call68 Tryz.ntmps68 fun en hsz hks hk0=>?_;refine enS ?_
 refine walkS ?_
 refine aw_condS rfl (fun h=>?_) (fun h=>?_)
 ·refine walkS ?_
  (refine rtS Tryz.results68 ?_;exact ⟨_,_,.inl ⟨rfl,rfl⟩,List.nodup_nil,by rw [fmtN,if_pos (by omega)]⟩)
 ·refine walkS ?_
  refine aw_loopS [0,2] (fun _ _=>[]) (fun _ y=>[(4,.d (iD (y.1:Nat))),(3,.d (sD y.2))]) [] (fun _ _=>[]) [] (fun _ _=>[]) (fun y:Nat × ByteArray=>y.2.size+y.1≤n∧fmtA y.1 y.2=fmtA n ByteArray.empty) (fun y=>y.1) ((n,ByteArray.empty)) hks (fun _=>rfl) (⟨by simp,rfl⟩) wkS ?_;intro x hx;refine headS ?_
  obtain ⟨kk,out⟩:=x
  obtain ⟨hs,hdg⟩:out.size+kk≤n∧fmtA kk out=fmtA n ByteArray.empty:=hx
  refine walkS ?_
  refine aw_condS rfl (fun hc=>?_) (fun hc=>?_)
  ·have e1:decide ((kk:Int).tmod 10<0)=false:=by
    have:=Int.tmod_nonneg 10 (show (0:Int)≤kk by omega)
    simp;omega
   have hm1:∀ c:UInt8,ByteArray.size { data:=#[c] }=1:=fun _=>rfl
   have hmm:=hm1 (UInt8.ofNat (IntKind.u8.wrap (IntKind.i64.wrap (48+(kk:Int).tmod 10))).toNat)
   (repeat (first|refine ctlS ?_|(refine ol_go ?_ (fun K1 hK1=>?_);exact trS;refine evS ?_;(try simp only [e1]);refine hK1 _ _ ?_;clear hK1 K1)|(refine ow_go ?_ dsS (fun K1 hK1=>?_);exact trS;refine evS ?_;(try simp only [e1]);refine hK1 _ ?_;clear hK1 K1)|refine skipS ?_|refine aw_condT rfl ?_|refine aw_condF rfl ?_))
   refine ⟨(kk / 10,dgt kk++out),⟨?_,(fmtA_step (by omega)).symm.trans hdg⟩,by show kk / 10<kk;omega,?_⟩
   ·show ByteArray.size (dgt kk++out)+kk / 10≤n
    rw [ByteArray.size_append,show (dgt kk).size=1 from rfl]
    omega
   ·have hq0:(kk:Int).tdiv 10=((kk / 10:Nat):Int):=by rw [Int.tdiv_eq_ediv_of_nonneg (by omega)];omega
    rw [hq0,wrap64 (by omega) (by omega)]
    exact wkS
  ·obtain rfl:kk=0:=by omega
   (repeat (first|refine ctlS ?_|(refine ol_go ?_ (fun K1 hK1=>?_);exact trS;refine evS ?_;(try simp only [e2]);refine hK1 _ _ ?_;clear hK1 K1)|(refine ow_go ?_ dsS (fun K1 hK1=>?_);exact trS;refine evS ?_;(try simp only [e2]);refine hK1 _ ?_;clear hK1 K1)|refine skipS ?_|refine aw_condT rfl ?_|refine aw_condF rfl ?_))
   (refine rtS Tryz.results68 ?_;exact ⟨_,_,.inl ⟨rfl,rfl⟩,List.nodup_nil,(by rw [fmtN,if_neg (by omega),←hdg,fmtA_0])⟩)
theorem intIx_c {M:Nat}{D:List RuleD} (hD:DB M D) (hM:M≤1048576) (c:Cur) (hb:c.b.length≤1048576) (hp:0<(intIx D D.length).length):AC Tryz.prog 117 [.ptr 0 0,.d (encD D)] (some ((curP p c).map .d)) (drwQ p (iD (pickI c (intIx D D.length)).1) (pickI c (intIx D D.length)).2):=by
 have hl:=hD.len
 have hil:=intIx_len (D:=D) D.length
 have c1:=pickI_c (p:=p) c hb hp (by omega)
 refine cbS Tryz.func117 rfl Tryz.call117 Tryz.ntmps117 fun en hsz hks hk0=>?_;refine enS ?_
 refine walkS ?_
 refine aw_loopS [0,3,4] (fun κ s'=>[(κ,keyOf (s'.f 5))]) (fun κ x=>[(6,.d (iD (x.1:Nat))),(5,.own κ 3 1 (x.2.map fun n=>[iD n]))]) [] (fun _ _=>[]) [48] (fun κ x=>[(κ,some (x.2.length,3,1))]) (fun x:Nat × List Int=>x.1≤D.length∧x.2=intIx D x.1) (fun x=>D.length - x.1) ((0,[])) hks (fun _=>rfl) ⟨Nat.zero_le _,rfl⟩ wkS ?_;intro x hx;refine headS ?_
 obtain ⟨x,y⟩:=x
 simp only at hx ⊢
 obtain ⟨hx,rfl⟩:=hx
 have hix:=intIx_len (D:=D) x
 refine walkS ?_
 refine aw_condS rfl (fun hc=>?_) (fun hc=>?_)
 ·have hx':x<D.length:=by omega
  obtain ⟨r,hr⟩:∃ r,D[x]?=some r:=⟨_,List.getElem?_eq_getElem hx'⟩
  have hrD:=ruleD_get hr
  refine walkS ?_
  refine aw_condS rfl (fun h1=>?_) (fun h1=>?_)
  ·have e:intIx D (x+1)=intIx D x++[(x:Int)]:=by rw [intIx,hrD,if_pos h1]
   refine walkS ?_
   refine ⟨(x+1,intIx D (x+1)),⟨by simp only;omega,rfl⟩,by simp only;omega,?_⟩
   rw [e]
   exact wkS
  ·have e:intIx D (x+1)=intIx D x:=by rw [intIx,hrD,if_neg h1]
   refine walkS ?_
   refine ⟨(x+1,intIx D (x+1)),⟨by simp only;omega,rfl⟩,by simp only;omega,?_⟩
   rw [e]
   exact wkS
 ·obtain rfl:x=D.length:=by have:x≤D.length:=hx;omega
  (repeat (first|refine walkS ?_|refine vS 0 (c1) ?_))
  (refine rtS Tryz.results117 ?_;exact ⟨_,[],.inl ⟨rfl,rfl⟩,_,(curP p (pickI c (intIx D D.length)).2:List Eng.D).map .d,[],rfl,toZL_d _ (curP p (pickI c (intIx D D.length)).2),by simp,rfl,rfl⟩)
end
end Go.Proofs.YtndnefealooolaaGreatDoor.Eng
