/-
 Numbers as texts: FormatInt of the reference.
-/
import Derived.Test.YtaammoodcgfhpaaDoorKTy
import Derived.Test.YtaammoodcgfhpaaDoorKN0
import Derived.Test.YtaammoodcgfhpaaDoorKPD
import Derived.Test.YtaammoodcgfhpaaDoorKE30
import Derived.Test.YtaammoodcgfhpaaDoorKE4
import Derived.Test.YtaammoodcgfhpaaDoorKE38
set_option linter.unusedSimpArgs false
set_option linter.unusedVariables false
set_option linter.defProp false
set_option maxRecDepth 100000
set_option maxHeartbeats 4000000
namespace Go.Proofs.YtaammoodcgfhpaaDoor.Eng
open Go Go.RowKit

theorem convV_own2 (P:Program) (s d:TypeId) (k:Nat) (e:TypeId) (n:Int) (K:A→Prop):convV P s d (.own k e 1 [[.v (.int .u8 n)]]) K=(P.underlying d=some .string∧bytesT P s=true∧K (.d (sD ⟨#[UInt8.ofNat n.toNat]⟩))):=by
 rfl
private def tyF:=ai (ai tg54 tg3) (ai tg5 (ai tg9 convV_own2))
theorem fmtS_c {n:Nat} (hn:n≤4611686018427387904):AC Tryd.prog 15 [.d (iD (n:Nat))] none (fun r' _=>r'=.d (sD (fmtN n))):=by
 have e2:decide ((n:Int)<0)=false:=by simp
 refine cbS Tryd.func15 rfl Tryd.call15 Tryd.ntmps15 fun en hsz hks hk0=>?_;refine enS ?_
 refine walkS ?_
 refine aw_condS rfl (fun h=>?_) (fun h=>?_)
 ·refine walkS ?_
  (refine rtS Tryd.results15 ?_;exact ⟨_,_,.inl ⟨rfl,rfl⟩,List.nodup_nil,by rw [fmtN,if_pos (by omega)]⟩)
 ·refine walkS ?_
  refine aw_loopS [0,2] (fun _ _=>[]) (fun _ y=>[(4,.d (iD (y.1:Nat))),(3,.d (sD y.2))]) [] (fun _ _=>[]) [] (fun _ _=>[]) (fun y:Nat × ByteArray=>y.2.size+y.1≤n∧fmtA y.1 y.2=fmtA n ByteArray.empty) (fun y=>y.1) ((n,ByteArray.empty)) hks (fun _=>rfl) (⟨by simp,rfl⟩) wkS ?_;intro x hx;refine headS ?_
  obtain ⟨kk,out⟩:=x
  obtain ⟨hs,hdg⟩:out.size+kk≤n∧fmtA kk out=fmtA n ByteArray.empty:=hx
  refine walkS ?_
  refine aw_condS rfl (fun hc=>?_) (fun hc=>?_)
  ·have e1:decide ((kk:Int).tmod 10<0)=false:=by
    have:=Int.tmod_nonneg 10 (show (0:Int)≤kk by omega)
    simp;omega
   have hm1:∀ c:UInt8,ByteArray.size { data:=#[c] }=1:=fun _=>rfl
   have hmm:=hm1 (UInt8.ofNat (IntKind.u8.wrap (IntKind.i64.wrap (48+(kk:Int).tmod 10))).toNat)
   (repeat (first|refine ctlS ?_|(refine ol_go ?_ (fun K1 hK1=>?_);exact trS;refine evS ?_;(try simp only [e1]);refine hK1 _ _ ?_;clear hK1 K1)|(refine ow_go ?_ dsS (fun K1 hK1=>?_);exact trS;refine evS ?_;(try simp only [e1]);refine hK1 _ ?_;clear hK1 K1)|refine skipS ?_|refine aw_condT rfl ?_|refine aw_condF rfl ?_))
   refine ⟨(kk / 10,dgt kk++out),⟨?_,(fmtA_step (by omega)).symm.trans hdg⟩,by show kk / 10<kk;omega,?_⟩
   ·show ByteArray.size (dgt kk++out)+kk / 10≤n
    rw [ByteArray.size_append,show (dgt kk).size=1 from rfl]
    omega
   ·have hq0:(kk:Int).tdiv 10=((kk / 10:Nat):Int):=by rw [Int.tdiv_eq_ediv_of_nonneg (by omega)];omega
    rw [hq0,wrap64 (by omega) (by omega)]
    exact wkS
  ·obtain rfl:kk=0:=by omega
   (repeat (first|refine ctlS ?_|(refine ol_go ?_ (fun K1 hK1=>?_);exact trS;refine evS ?_;(try simp only [e2]);refine hK1 _ _ ?_;clear hK1 K1)|(refine ow_go ?_ dsS (fun K1 hK1=>?_);exact trS;refine evS ?_;(try simp only [e2]);refine hK1 _ ?_;clear hK1 K1)|refine skipS ?_|refine aw_condT rfl ?_|refine aw_condF rfl ?_))
   (refine rtS Tryd.results15 ?_;exact ⟨_,_,.inl ⟨rfl,rfl⟩,List.nodup_nil,(by rw [fmtN,if_neg (by omega),←hdg,fmtA_0])⟩)
end Go.Proofs.YtaammoodcgfhpaaDoor.Eng
