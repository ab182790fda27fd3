/-
 Draws of mutations: numbers that follow, the reference.

 Draws of mutations: MutationOf, MutateBytes, the reference.

 Draws of mutations: MutateBytes, the reference.
-/
import Derived.Test.YtndnefealooolaaGreatDoorKPR2
import Derived.Test.YtndnefealooolaaGreatDoorKND2
import Derived.Test.YtndnefealooolaaGreatDoorKNE
import Derived.Test.YtndnefealooolaaGreatDoorKNR5
import Derived.Test.YtndnefealooolaaGreatDoorKPR4
set_option linter.unusedSimpArgs false
set_option linter.unusedVariables false
set_option linter.defProp false
set_option maxRecDepth 100000
set_option maxHeartbeats 4000000
namespace Go.Proofs.YtndnefealooolaaGreatDoor.Eng
open Go Go.RowKit

private def tyF:=ai (ai tg22 (ai tg30 tg170)) (ai tg3 (ai tg4 tg5))
theorem modS_c (s:Int):AC Tryz.prog 154 [.d (iD s),.d (iD 2147483647)] none (fun r' _=>r'=.d (iD (modM s))):=by
 have h:=tmodM s
 have e0:IntKind.i64.wrap (s.tmod 2147483647)=s.tmod 2147483647:=wrap_small (by omega) (by omega)
 have e1:IntKind.i64.wrap (s.tmod 2147483647+2147483647)=s.tmod 2147483647+2147483647:=wrap_small (by omega) (by omega)
 have hm:=modM_in s
 have e2:IntKind.i64.wrap ((s.tmod 2147483647+2147483647).tmod 2147483647)=(s.tmod 2147483647+2147483647).tmod 2147483647:=by
  unfold modM at hm
  exact wrap_small (by omega) (by omega)
 have L1:AC Tryz.prog 64 [.d (iD 2147483647),.d (iD 1),.d (iD 1000000000000)] none (fun r _=>r=.d (bD true)):=l1In_t (by omega)
 refine cbS Tryz.func154 rfl Tryz.call154 Tryz.ntmps154 fun en hsz hks hk0=>?_;refine enS ?_
 (repeat (first|refine ctlS ?_|(refine ol_go ?_ (fun K1 hK1=>?_);exact trS;refine evS ?_;(try simp only [e0,e1,e2]);refine hK1 _ _ ?_;clear hK1 K1)|(refine ow_go ?_ dsS (fun K1 hK1=>?_);exact trS;refine evS ?_;(try simp only [e0,e1,e2]);refine hK1 _ ?_;clear hK1 K1)|refine skipS ?_|refine cS (L1) ?_|refine aw_condT rfl ?_|refine aw_condF rfl ?_))
 (refine rtS Tryz.results154 ?_;exact ⟨_,_,.inl ⟨rfl,rfl⟩,List.nodup_nil,rfl⟩)
theorem maxS_c (a b:Int):AC Tryz.prog 153 [.d (iD a),.d (iD b)] none (fun r' _=>r'=.d (iD (if a<b then b else a))):=by
 refine cbS Tryz.func153 rfl Tryz.call153 Tryz.ntmps153 fun en hsz hks hk0=>?_;refine enS ?_
 refine walkS ?_
 refine aw_condS rfl (fun h=>?_) (fun h=>?_)
 ·refine walkS ?_
  (refine rtS Tryz.results153 ?_;exact ⟨_,_,.inl ⟨rfl,rfl⟩,List.nodup_nil,by rw [if_pos h]⟩)
 ·refine walkS ?_
  (refine rtS Tryz.results153 ?_;exact ⟨_,_,.inl ⟨rfl,rfl⟩,List.nodup_nil,by rw [if_neg h]⟩)
theorem nextS_c (s:Int):AC Tryz.prog 139 [.d (iD s)] none (fun r' _=>r'=.d (iD (nxtN s))):=by
 have hm:=modM_in s
 have e0:IntKind.i64.wrap (modM s*48271)=modM s*48271:=wrap_small (by omega) (by omega)
 have hb:0≤(modM s*48271).tmod 2147483647∧(modM s*48271).tmod 2147483647<2147483647:=⟨Int.tmod_nonneg _ (by omega),Int.tmod_lt_of_pos _ (by omega)⟩
 have e1:IntKind.i64.wrap ((modM s*48271).tmod 2147483647)=(modM s*48271).tmod 2147483647:=wrap_small (by omega) (by omega)
 have hx:nxtN s=if 1<(modM s*48271).tmod 2147483647 then (modM s*48271).tmod 2147483647 else 1:=by
  unfold nxtN
  split<;>split<;>omega
 rw [hx]
 have M1:=modS_c s
 have X1:=maxS_c 1 ((modM s*48271).tmod 2147483647)
 refine cbS Tryz.func139 rfl Tryz.call139 Tryz.ntmps139 fun en hsz hks hk0=>?_;refine enS ?_
 (repeat (first|refine ctlS ?_|(refine ol_go ?_ (fun K1 hK1=>?_);exact trS;refine evS ?_;(try simp only [e0,e1]);refine hK1 _ _ ?_;clear hK1 K1)|(refine ow_go ?_ dsS (fun K1 hK1=>?_);exact trS;refine evS ?_;(try simp only [e0,e1]);refine hK1 _ ?_;clear hK1 K1)|refine skipS ?_|refine cS (M1) ?_|refine cS (X1) ?_))
 (refine rtS Tryz.results139 ?_;exact ⟨_,_,.inl ⟨rfl,rfl⟩,List.nodup_nil,rfl⟩)
theorem drawN_c (s:Int):AC Tryz.prog 130 [.ptr 0 0] (some [.d (iD s)]) (fun r' b=>r'=.d (iD (nxtN s))∧b=some [.d (iD (nxtN s))]):=by
 refine cbS Tryz.func130 rfl Tryz.call130 Tryz.ntmps130 fun en hsz hks hk0=>?_;refine enS ?_
 (repeat (first|refine walkS ?_|refine cS (nextS_c s) ?_))
 (refine rtS Tryz.results130 ?_;exact ⟨_,[],.inl ⟨rfl,rfl⟩,_,([iD (nxtN s)]:List Eng.D).map .d,[],rfl,toZL_d _ ([iD (nxtN s)]),by simp,⟨rfl,rfl⟩⟩)
end Go.Proofs.YtndnefealooolaaGreatDoor.Eng
namespace Go.Proofs.YtndnefealooolaaGreatDoor.Eng
open Go Go.RowKit

section
variable {s:Int}{n:Nat}
theorem drawN_m (s:Int):AC Tryz.prog 130 [.ptr 0 0] (some (([iD s]:List Eng.D).map .d)) (fun r' b=>r'=.d (iD (nxtN s))∧b=some (([iD (nxtN s)]:List Eng.D).map .d)):=drawN_c s
theorem mutO_0 {n:Nat} (h:¬400<n) (h0:n=0) {s:Int}:mutO n s=(2,(nxtN (nxtN s)).tmod 1,(nxtN (nxtN (nxtN s))).tmod 256):=by unfold mutO;rw [if_neg h,if_pos h0]
theorem mutO_1 {n:Nat} (h:¬400<n) (h0:¬n=0) {s:Int} (hq:(nxtN s).tmod 3=0):mutO n s=(1,(nxtN (nxtN s)).tmod n,(nxtN (nxtN (nxtN s))).tmod 256):=by unfold mutO;rw [if_neg h,if_neg h0,if_pos hq]
theorem mutO_2 {n:Nat} (h:¬400<n) (h0:¬n=0) {s:Int} (hq:(nxtN s).tmod 3=1):mutO n s=(2,(nxtN (nxtN s)).tmod (n+1),(nxtN (nxtN (nxtN s))).tmod 256):=by unfold mutO;rw [if_neg h,if_neg h0,if_neg (by omega),if_pos hq]
theorem mutO_3 {n:Nat} (h:¬400<n) (h0:¬n=0) {s:Int} (hq:(nxtN s).tmod 3=2):mutO n s=(3,(nxtN (nxtN s)).tmod n,0):=by unfold mutO;rw [if_neg h,if_neg h0,if_neg (by omega),if_neg (by omega),hq];rfl
theorem wrap_rem {a m:Int} (h:0≤a) (hm:0<m) (hk:m≤4294967296):IntKind.i64.wrap (a.tmod m)=a.tmod m:=
 wrap_small (by have:=Int.tmod_nonneg m h;omega) (by have:=Int.tmod_lt_of_pos a hm;omega)
theorem mutOS_c (hn:n≤400) (s:Int):AC Tryz.prog 115 [.d (iD n),.d (iD s)] none (fun r' _=>r'=.d (mutE (mutO n s).1 (mutO n s).2.1 (mutO n s).2.2)):=by
 have r1:AC Tryz.prog 64 [.d (iD (n:Nat)),.d (iD 0),.d (iD 400)] none (fun r' _=>r'=.d (bD true)):=l1In_t (by omega)
 have D1:=drawN_m s
 have D2:=drawN_m (nxtN s)
 have D3:=drawN_m (nxtN (nxtN s))
 have i1:=nxtN_in s
 have i2:=nxtN_in (nxtN s)
 have i3:=nxtN_in (nxtN (nxtN s))
 have q0:(nxtN s).tmod 3=0∨(nxtN s).tmod 3=1∨(nxtN s).tmod 3=2:=by
  have:=Int.tmod_nonneg (a:=nxtN s) 3 (by omega)
  have:=Int.tmod_lt_of_pos (nxtN s) (b:=3) (by omega)
  omega
 have m0:=mutO_0 (n:=n) (s:=s) (by omega)
 have m1:=mutO_1 (n:=n) (s:=s) (by omega)
 have m2:=mutO_2 (n:=n) (s:=s) (by omega)
 have m3:=mutO_3 (n:=n) (s:=s) (by omega)
 have w0:IntKind.i64.wrap (1+0)=1:=rfl
 have w1:IntKind.i64.wrap (1+1)=2:=rfl
 have w2:IntKind.i64.wrap (1+2)=3:=rfl
 have v0:IntKind.i64.wrap 0=0:=rfl
 have v1:IntKind.i64.wrap 1=1:=rfl
 have v2:IntKind.i64.wrap 2=2:=rfl
 have wn:IntKind.i64.wrap ((n:Int)+1)=(n:Int)+1:=wrap_small (by omega) (by omega)
 have x1:∀ h0:¬n=0,IntKind.i64.wrap ((nxtN (nxtN s)).tmod n)=(nxtN (nxtN s)).tmod n:=fun h0=>wrap_rem (by omega) (by omega) (by omega)
 have x2:IntKind.i64.wrap ((nxtN (nxtN s)).tmod ((n:Int)+1))=(nxtN (nxtN s)).tmod ((n:Int)+1):=wrap_rem (by omega) (by omega) (by omega)
 have x3:IntKind.i64.wrap ((nxtN (nxtN (nxtN s))).tmod 256)=(nxtN (nxtN (nxtN s))).tmod 256:=wrap_rem (by omega) (by omega) (by omega)
 generalize nxtN (nxtN (nxtN s))=z3 at *
 generalize nxtN (nxtN s)=z2 at *
 generalize nxtN s=z1 at *
 have k0:(1:Int)+0=1:=rfl
 have k1:(1:Int)+1=2:=rfl
 have k2:(1:Int)+2=3:=rfl
 rcases q0 with q|q|q
 ·refine cbS Tryz.func115 rfl Tryz.call115 Tryz.ntmps115 fun en hsz hks hk0=>?_;refine enS ?_
  (repeat (first|refine walkS ?_|refine cS (r1) ?_|refine aw_condT rfl ?_|refine aw_condF rfl ?_))
  (repeat (first|refine ctlS ?_|(refine ol_go ?_ (fun K1 hK1=>?_);exact trS;refine evS ?_;(try simp only [q,v0,k0]);refine hK1 _ _ ?_;clear hK1 K1)|(refine ow_go ?_ dsS (fun K1 hK1=>?_);exact trS;refine evS ?_;(try simp only [q,v0,k0]);refine hK1 _ ?_;clear hK1 K1)|refine skipS ?_|refine vS 48 (D1) ?_|refine aw_condT rfl ?_|refine aw_condF rfl ?_))
  (repeat (first|refine walkS ?_|refine vS 48 (D2) ?_|refine aw_condT rfl ?_|refine aw_condF rfl ?_))
  (repeat (first|refine walkS ?_|refine vS 48 (D3) ?_|refine aw_condT rfl ?_|refine aw_condF rfl ?_))
  refine aw_condS rfl (fun h=>?_) (fun h=>?_)
  ·(repeat (first|refine ctlS ?_|(refine ol_go ?_ (fun K1 hK1=>?_);exact trS;refine evS ?_;(try simp only [x2,x3,wn,k0]);refine hK1 _ _ ?_;clear hK1 K1)|(refine ow_go ?_ dsS (fun K1 hK1=>?_);exact trS;refine evS ?_;(try simp only [x2,x3,wn,k0]);refine hK1 _ ?_;clear hK1 K1)|refine skipS ?_|refine aw_condT rfl ?_|refine aw_condF rfl ?_))
   (refine rtS Tryz.results115 ?_;exact ⟨_,_,.inl ⟨rfl,rfl⟩,List.nodup_nil,by rw [m0 (by omega)];simp only [show n=0 by omega];rfl⟩)
  ·have x1:=x1 (by omega)
   (repeat (first|refine ctlS ?_|(refine ol_go ?_ (fun K1 hK1=>?_);exact trS;refine evS ?_;(try simp only [x1,x2,x3,wn,k0]);refine hK1 _ _ ?_;clear hK1 K1)|(refine ow_go ?_ dsS (fun K1 hK1=>?_);exact trS;refine evS ?_;(try simp only [x1,x2,x3,wn,k0]);refine hK1 _ ?_;clear hK1 K1)|refine skipS ?_|refine aw_condT rfl ?_|refine aw_condF rfl ?_))
   (refine rtS Tryz.results115 ?_;exact ⟨_,_,.inl ⟨rfl,rfl⟩,List.nodup_nil,by rw [m1 (by omega) q]⟩)
 ·refine cbS Tryz.func115 rfl Tryz.call115 Tryz.ntmps115 fun en hsz hks hk0=>?_;refine enS ?_
  (repeat (first|refine walkS ?_|refine cS (r1) ?_|refine aw_condT rfl ?_|refine aw_condF rfl ?_))
  (repeat (first|refine ctlS ?_|(refine ol_go ?_ (fun K1 hK1=>?_);exact trS;refine evS ?_;(try simp only [q,v1,k1]);refine hK1 _ _ ?_;clear hK1 K1)|(refine ow_go ?_ dsS (fun K1 hK1=>?_);exact trS;refine evS ?_;(try simp only [q,v1,k1]);refine hK1 _ ?_;clear hK1 K1)|refine skipS ?_|refine vS 48 (D1) ?_|refine aw_condT rfl ?_|refine aw_condF rfl ?_))
  (repeat (first|refine walkS ?_|refine vS 48 (D2) ?_|refine aw_condT rfl ?_|refine aw_condF rfl ?_))
  (repeat (first|refine walkS ?_|refine vS 48 (D3) ?_|refine aw_condT rfl ?_|refine aw_condF rfl ?_))
  refine aw_condS rfl (fun h=>?_) (fun h=>?_)
  ·(repeat (first|refine ctlS ?_|(refine ol_go ?_ (fun K1 hK1=>?_);exact trS;refine evS ?_;(try simp only [x2,x3,wn,k1]);refine hK1 _ _ ?_;clear hK1 K1)|(refine ow_go ?_ dsS (fun K1 hK1=>?_);exact trS;refine evS ?_;(try simp only [x2,x3,wn,k1]);refine hK1 _ ?_;clear hK1 K1)|refine skipS ?_|refine aw_condT rfl ?_|refine aw_condF rfl ?_))
   (refine rtS Tryz.results115 ?_;exact ⟨_,_,.inl ⟨rfl,rfl⟩,List.nodup_nil,by rw [m0 (by omega)];simp only [show n=0 by omega];rfl⟩)
  ·have x1:=x1 (by omega)
   (repeat (first|refine ctlS ?_|(refine ol_go ?_ (fun K1 hK1=>?_);exact trS;refine evS ?_;(try simp only [x1,x2,x3,wn,k1]);refine hK1 _ _ ?_;clear hK1 K1)|(refine ow_go ?_ dsS (fun K1 hK1=>?_);exact trS;refine evS ?_;(try simp only [x1,x2,x3,wn,k1]);refine hK1 _ ?_;clear hK1 K1)|refine skipS ?_|refine aw_condT rfl ?_|refine aw_condF rfl ?_))
   (refine rtS Tryz.results115 ?_;exact ⟨_,_,.inl ⟨rfl,rfl⟩,List.nodup_nil,by rw [m2 (by omega) q]⟩)
 ·refine cbS Tryz.func115 rfl Tryz.call115 Tryz.ntmps115 fun en hsz hks hk0=>?_;refine enS ?_
  (repeat (first|refine walkS ?_|refine cS (r1) ?_|refine aw_condT rfl ?_|refine aw_condF rfl ?_))
  (repeat (first|refine ctlS ?_|(refine ol_go ?_ (fun K1 hK1=>?_);exact trS;refine evS ?_;(try simp only [q,v2,k2]);refine hK1 _ _ ?_;clear hK1 K1)|(refine ow_go ?_ dsS (fun K1 hK1=>?_);exact trS;refine evS ?_;(try simp only [q,v2,k2]);refine hK1 _ ?_;clear hK1 K1)|refine skipS ?_|refine vS 48 (D1) ?_|refine aw_condT rfl ?_|refine aw_condF rfl ?_))
  (repeat (first|refine walkS ?_|refine vS 48 (D2) ?_|refine aw_condT rfl ?_|refine aw_condF rfl ?_))
  (repeat (first|refine walkS ?_|refine vS 48 (D3) ?_|refine aw_condT rfl ?_|refine aw_condF rfl ?_))
  refine aw_condS rfl (fun h=>?_) (fun h=>?_)
  ·(repeat (first|refine ctlS ?_|(refine ol_go ?_ (fun K1 hK1=>?_);exact trS;refine evS ?_;(try simp only [x2,x3,wn,k2]);refine hK1 _ _ ?_;clear hK1 K1)|(refine ow_go ?_ dsS (fun K1 hK1=>?_);exact trS;refine evS ?_;(try simp only [x2,x3,wn,k2]);refine hK1 _ ?_;clear hK1 K1)|refine skipS ?_|refine aw_condT rfl ?_|refine aw_condF rfl ?_))
   (refine rtS Tryz.results115 ?_;exact ⟨_,_,.inl ⟨rfl,rfl⟩,List.nodup_nil,by rw [m0 (by omega)];simp only [show n=0 by omega];rfl⟩)
  ·have x1:=x1 (by omega)
   (repeat (first|refine ctlS ?_|(refine ol_go ?_ (fun K1 hK1=>?_);exact trS;refine evS ?_;(try simp only [x1,x2,x3,wn,k2]);refine hK1 _ _ ?_;clear hK1 K1)|(refine ow_go ?_ dsS (fun K1 hK1=>?_);exact trS;refine evS ?_;(try simp only [x1,x2,x3,wn,k2]);refine hK1 _ ?_;clear hK1 K1)|refine skipS ?_|refine aw_condT rfl ?_|refine aw_condF rfl ?_))
   (refine rtS Tryz.results115 ?_;exact ⟨_,_,.inl ⟨rfl,rfl⟩,List.nodup_nil,by rw [m3 (by omega) q]⟩)
end
end Go.Proofs.YtndnefealooolaaGreatDoor.Eng
namespace Go.Proofs.YtndnefealooolaaGreatDoor.Eng
open Go Go.RowKit

section
variable {b:List UInt8}
theorem applyS_o1 (hb:b.length≤1048576) {i c:Nat} (hi:i<b.length) (hc:c≤255):AC Tryz.prog 50 [.d (encB b),.d (mutE 1 i c)] none (fun r' _=>r'=ownT (cutB b i 1 [UInt8.ofNat c])):=by
 have r1:AC Tryz.prog 64 [.d (iD (c:Nat)),.d (iD 0),.d (iD 255)] none (fun r' _=>r'=.d (bD true)):=l1In_t (by omega)
 have r2:AC Tryz.prog 64 [.d (iD (i:Nat)),.d (iD 0),.d (iD (b.length:Nat))] none (fun r' _=>r'=.d (bD true)):=l1In_t (by omega)
 have e2:decide ((i:Int)<(b.length:Int))=true:=by simp;omega
 have HS:=spliceS_o hb (a:=i) (rm:=1) (by omega) (new:=[UInt8.ofNat c]) (by simp)
 refine cbS Tryz.func50 rfl Tryz.call50 Tryz.ntmps50 fun en hsz hks hk0=>?_;refine enS ?_
 (repeat (first|refine ctlS ?_|(refine ol_go ?_ (fun K1 hK1=>?_);exact trS;refine evS ?_;(try simp only [u8_nat,e2]);refine hK1 _ _ ?_;clear hK1 K1)|(refine ow_go ?_ dsS (fun K1 hK1=>?_);exact trS;refine evS ?_;(try simp only [u8_nat,e2]);refine hK1 _ ?_;clear hK1 K1)|refine skipS ?_|refine cS (r1) ?_|refine cS (r2) ?_|refine cS (HS) ?_|refine aw_condT rfl ?_|refine aw_condF rfl ?_))
 (refine rtS Tryz.results50 ?_;exact ⟨_,_,.inl (toZ_tup (toZL_cons (toZ_own (by simp [lk,St.mem])) (toZL_cons toZ_d toZL_nil))),by simp,rfl⟩)
theorem mutO_fits {n:Nat} (hn:n≤400) (s:Int):(∃ i c:Nat,mutO n s=(1,(i:Int),(c:Int))∧i<n∧c≤255)∨(∃ i c:Nat,mutO n s=(2,(i:Int),(c:Int))∧i≤n∧c≤255)∨(∃ i:Nat,mutO n s=(3,(i:Int),0)∧i<n):=by
 have i2:=nxtN_in (nxtN s)
 have i3:=nxtN_in (nxtN (nxtN s))
 have q0:(nxtN s).tmod 3=0∨(nxtN s).tmod 3=1∨(nxtN s).tmod 3=2:=by
  have:=nxtN_in s
  have:=Int.tmod_nonneg (a:=nxtN s) 3 (by omega)
  have:=Int.tmod_lt_of_pos (nxtN s) (b:=3) (by omega)
  omega
 have m0:=mutO_0 (n:=n) (s:=s) (by omega)
 have m1:=mutO_1 (n:=n) (s:=s) (by omega)
 have m2:=mutO_2 (n:=n) (s:=s) (by omega)
 have m3:=mutO_3 (n:=n) (s:=s) (by omega)
 generalize nxtN (nxtN (nxtN s))=z3 at *
 generalize nxtN (nxtN s)=z2 at *
 have c1:=Int.tmod_nonneg (a:=z3) 256 (by omega)
 have c2:=Int.tmod_lt_of_pos z3 (b:=256) (by omega)
 have j0:∀ m:Int,0<m→0≤z2.tmod m∧z2.tmod m<m:=fun m hm=>⟨Int.tmod_nonneg _ (by omega),Int.tmod_lt_of_pos _ hm⟩
 have co:∀ z:Int,0≤z→z=(z.toNat:Int):=fun z hz=>by omega
 by_cases h0:n=0
 ·have j1:=j0 1 (by omega)
  exact .inr (.inl ⟨(z2.tmod 1).toNat,(z3.tmod 256).toNat,by rw [m0 h0,←co _ j1.1,←co _ c1],by omega,by omega⟩)
 ·rcases q0 with q|q|q
  ·have j1:=j0 n (by omega)
   exact .inl ⟨(z2.tmod n).toNat,(z3.tmod 256).toNat,by rw [m1 h0 q,←co _ j1.1,←co _ c1],by omega,by omega⟩
  ·have j1:=j0 (n+1) (by omega)
   exact .inr (.inl ⟨(z2.tmod (n+1)).toNat,(z3.tmod 256).toNat,by rw [m2 h0 q,←co _ j1.1,←co _ c1],by omega,by omega⟩)
  ·have j1:=j0 n (by omega)
   exact .inr (.inr ⟨(z2.tmod n).toNat,by rw [m3 h0 q,←co _ j1.1],by omega⟩)
theorem applyO_c (hb:b.length≤400) (s:Int):AC Tryz.prog 50 [.d (encB b),.d (mutE (mutO b.length s).1 (mutO b.length s).2.1 (mutO b.length s).2.2)] none (fun r' _=>r'=ownT (mutR b (mutO b.length s).1 (mutO b.length s).2.1 (mutO b.length s).2.2).1):=by
 rcases mutO_fits hb s with ⟨i,c,e,h1,h2⟩|⟨i,c,e,h1,h2⟩|⟨i,e,h1⟩
 ·rw [e]
  simp only
  rw [mutR_1 h1 h2]
  exact applyS_o1 (by omega) h1 h2
 ·rw [e]
  simp only
  rw [mutR_2 h1 h2]
  exact applyS_o2 (by omega) h1 h2
 ·rw [e]
  simp only
  rw [mutR_3 h1]
  exact applyS_o3 (by omega) h1
theorem mutMS_c (hb:b.length≤380) {s:Int} (hs:0≤s∧s≤1000000) {cnt:Nat} (hc:cnt≤19):AC Tryz.prog 72 [.d (encB b),.d (iD s),.d (iD cnt)] none (fun r' _=>r'=.own 5 1 ((mutM b s cnt).map fun c=>[uD c])):=by
 have hm:mutM b s cnt=mutN cnt s b:=by unfold mutM;rw [if_pos hb,Nat.min_eq_left (by omega)]
 rw [hm]
 have e3:decide ((b.length:Int)≤380)=true:=decide_eq_true (by omega)
 refine cbS Tryz.func72 rfl Tryz.call72 Tryz.ntmps72 fun en hsz hks hk0=>?_;refine enS ?_
 refine walkS ?_
 refine aw_loopS [0,1,2,6] (fun κ s'=>[(κ,keyOf (s'.f 7))]) (fun κ z=>[(8,.d (iD (z.1:Nat))),(7,.own κ 5 1 (z.2.map fun c=>[uD c]))]) [] (fun _ _=>[]) [32] (fun κ z=>[(κ,some (z.2.length,5,1))]) (fun z:Nat × List UInt8=>z.1≤cnt∧mutN (cnt - z.1) (s+z.1) z.2=mutN cnt s b∧z.2.length≤b.length+z.1) (fun z=>cnt - z.1) ((0,b)) hks (fun _=>rfl) ⟨Nat.zero_le _,by simp,by simp⟩ wkS ?_;intro x hx;refine headS ?_
 revert hx
 revert x
 rintro ⟨k,x⟩ hx
 obtain ⟨hx1,hx2,hx3⟩:=hx
 simp only at hx1 hx2 hx3 ⊢
 by_cases hk:k<cnt
 ·have e1:decide ((k:Int)<(cnt:Int))=true:=decide_eq_true (by omega)
  have e2:decide ((k:Int)<20)=true:=decide_eq_true (by omega)
  have e4:IntKind.i64.wrap (s+(k:Int))=s+(k:Int):=wrap_small (by omega) (by omega)
  have e5:IntKind.i64.wrap ((k:Int)+1)=((k+1:Nat):Int):=by rw [wrap_small (by omega) (by omega)];omega
  have MO:=mutOS_c (n:=x.length) (by omega) (s+k)
  have MA:=applyO_c (b:=x) (by omega) (s+k)
  have hl:=mutR_len x (mutO x.length (s+k)).1 (mutO x.length (s+k)).2.1 (mutO x.length (s+k)).2.2
  have hn:mutN (cnt - k) (s+k) x=mutN (cnt - (k+1)) (s+((k+1:Nat):Int)) (mutR x (mutO x.length (s+k)).1 (mutO x.length (s+k)).2.1 (mutO x.length (s+k)).2.2).1:=by
   rw [show cnt - k=(cnt - (k+1))+1 by omega,mutN,show s+((k+1:Nat):Int)=s+k+1 by omega]
  rw [hn] at hx2
  generalize mutO x.length (s+k)=mo at *
  generalize mutR x mo.1 mo.2.1 mo.2.2=y at *
  (repeat (first|refine ctlS ?_|(refine ol_go ?_ (fun K1 hK1=>?_);exact trS;refine evS ?_;(try simp only [e1,e2,e3,e4,e5]);refine hK1 _ _ ?_;clear hK1 K1)|(refine ow_go ?_ dsS (fun K1 hK1=>?_);exact trS;refine evS ?_;(try simp only [e1,e2,e3,e4,e5]);refine hK1 _ ?_;clear hK1 K1)|refine skipS ?_|refine cS (MO) ?_|refine cS (MA) ?_|refine aw_condT rfl ?_|refine aw_condF rfl ?_))
  refine ⟨(k+1,y.1),⟨by simp only;omega,hx2,by simp only;omega⟩,by simp only;omega,?_⟩
  exact wkS
 ·have e1:decide ((k:Int)<(cnt:Int))=false:=decide_eq_false (by omega)
  obtain rfl:k=cnt:=by omega
  rw [Nat.sub_self,mutN] at hx2
  (repeat (first|refine ctlS ?_|(refine ol_go ?_ (fun K1 hK1=>?_);exact trS;refine evS ?_;(try simp only [e1]);refine hK1 _ _ ?_;clear hK1 K1)|(refine ow_go ?_ dsS (fun K1 hK1=>?_);exact trS;refine evS ?_;(try simp only [e1]);refine hK1 _ ?_;clear hK1 K1)|refine skipS ?_|refine aw_condT rfl ?_|refine aw_condF rfl ?_))
  (refine rtS Tryz.results72 ?_;exact ⟨_,_,.inl (toZ_own (by simp [lk,St.mem])),by simp,by rw [hx2]⟩)
end
end Go.Proofs.YtndnefealooolaaGreatDoor.Eng
