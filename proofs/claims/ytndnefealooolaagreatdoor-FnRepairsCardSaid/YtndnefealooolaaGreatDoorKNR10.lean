/-
 Plain functions: bytes that are nearly a small file; a number out of the input.

 Draws of mutations: MutateBytes, the reference.
-/
import Derived.Test.YtndnefealooolaaGreatDoorKPR2
import Derived.Test.YtndnefealooolaaGreatDoorKPDX
import Derived.Test.YtndnefealooolaaGreatDoorKNR8
set_option linter.unusedSimpArgs false
set_option linter.unusedVariables false
set_option linter.defProp false
set_option maxRecDepth 100000
set_option maxHeartbeats 4000000
namespace Go.Proofs.YtndnefealooolaaGreatDoor.Eng
open Go.RowKit

def endS (D:List RuleD) (b:List UInt8) (c:Cur):(List RuleD × List UInt8) × Cur:=
 let s:=bel c 12
 if s.1=0 then ((D,List.replicate 41 0),s.2)
 else if s.1=1 then ((D,b++[1]),s.2)
 else ((D,b),s.2)
def midS (D:List RuleD) (b:List UInt8) (c:Cur):(List RuleD × List UInt8) × Cur:=
 endS D (mutM b (bel c 999).1 (bel (bel c 999).2 3).1.toNat) (bel (bel c 999).2 3).2
def smallC (c:Cur):(List RuleD × List UInt8) × Cur:=
 midS (descC c).1 ((prV (descC c).1 (((descC c).1.length - 1:Nat):Int) (vMk (descC c).1 (descC c).1.length ((descC c).1.length - 1) 3 (descC c).2).1).take 9) (vMk (descC c).1 (descC c).1.length ((descC c).1.length - 1) 3 (descC c).2).2
theorem endS_1 (D:List RuleD) (b:List UInt8) (c:Cur):(endS D b c).1.1=D:=by
 unfold endS
 simp only
 split
 ·rfl
 split<;>rfl
theorem endS_0 {D:List RuleD}{b:List UInt8}{c:Cur} (h:(bel c 12).1=0):endS D b c=((D,List.replicate 41 0),(bel c 12).2):=by unfold endS;simp only [h,if_true]
theorem endS_y {D:List RuleD}{b:List UInt8}{c:Cur} (h:(bel c 12).1=1):endS D b c=((D,b++[1]),(bel c 12).2):=by unfold endS;simp only;rw [if_neg (by omega),if_pos h]
theorem endS_no {D:List RuleD}{b:List UInt8}{c:Cur} (h:(bel c 12).1≠0) (h1:(bel c 12).1≠1):endS D b c=((D,b),(bel c 12).2):=by unfold endS;simp only;rw [if_neg h,if_neg h1]
theorem endS_b (D:List RuleD) (b:List UInt8) (c:Cur):(endS D b c).2.b=c.b:=by
 unfold endS
 simp only
 split
 ·rw [bel_b]
 split<;>rw [bel_b]
theorem midS_b (D:List RuleD) (b:List UInt8) (c:Cur):(midS D b c).2.b=c.b:=by
 unfold midS
 rw [endS_b,bel_b,bel_b]
theorem smallC_1 (c:Cur):(smallC c).1.1=(descC c).1:=by
 unfold smallC midS
 rw [endS_1]
theorem smallC_b (c:Cur):(smallC c).2.b=c.b:=by
 unfold smallC
 rw [midS_b,vMk_b,descC_b]
theorem mutM_len {b:List UInt8} (h:b.length≤100) (s:Int) (n:Nat):(mutM b s n).length≤120:=by
 unfold mutM
 rw [if_pos (by omega)]
 have:=mutN_len (min n 20) s b
 omega
theorem endS_len {D:List RuleD}{b:List UInt8} (h:b.length≤120) (c:Cur):(endS D b c).1.2.length≤121:=by
 unfold endS
 simp only
 split
 ·simp
 split
 ·simp only [List.length_append,List.length_singleton];omega
 ·simp only;omega
theorem smallC_len (c:Cur):(smallC c).1.2.length≤121:=by
 unfold smallC midS
 exact endS_len (mutM_len (by rw [List.length_take];omega) _ _) _
theorem smallC_db (c:Cur):DB 1048576 (smallC c).1.1:=by
 rw [smallC_1]
 exact DInv.db (descC_inv c).1 (by have:=(descC_inv c).2;omega)
def atN (B:List UInt8) (i:Nat):Int:=if h:i<B.length then (B[i].toNat:Int) else ((i:Int)*31+(B.length:Int)*7).tmod 256
theorem atN_in (B:List UInt8) (i:Nat):0≤atN B i∧atN B i≤255:=by
 unfold atN
 split
 ·have:=UInt8.toNat_lt (B[i])
  omega
 ·have h1:=Int.tmod_nonneg (a:=(i:Int)*31+(B.length:Int)*7) 256 (by omega)
  have h2:=Int.tmod_lt_of_pos ((i:Int)*31+(B.length:Int)*7) (b:=256) (by omega)
  omega
theorem atN_hit {B:List UInt8}{i:Nat} (h:i<B.length):atN B i=(B[i].toNat:Int):=by unfold atN;rw [dif_pos h]
theorem atN_no {B:List UInt8}{i:Nat} (h:¬i<B.length):atN B i=((i:Int)*31+(B.length:Int)*7).tmod 256:=by unfold atN;rw [dif_neg h]
def rowE (a b:List UInt8) (i n:Nat):List Int:=(List.range n).map fun k=>dE a b i k
theorem rowE_len (a b:List UInt8) (i n:Nat):(rowE a b i n).length=n:=by simp [rowE]
theorem rowE_get {a b:List UInt8}{i n k:Nat} (h:k<n):(rowE a b i n)[k]?=some (dE a b i k):=by simp [rowE,h]
theorem rowE_succ (a b:List UInt8) (i n:Nat):rowE a b i n++[dE a b i n]=rowE a b i (n+1):=by simp [rowE,List.range_succ]
end Go.Proofs.YtndnefealooolaaGreatDoor.Eng
namespace Go.Proofs.YtndnefealooolaaGreatDoor.Eng
open Go Go.RowKit

section
variable {b:List UInt8}
private def tyF:=ai (ai tg22 tg30) (ai tg3 (ai tg4 tg5))
theorem applyS_o1 (hb:b.length≤1048576) {i c:Nat} (hi:i<b.length) (hc:c≤255):AC Tryz.prog 50 [.d (encB b),.d (mutE 1 i c)] none (fun r' _=>r'=ownT (cutB b i 1 [UInt8.ofNat c])):=by
 have r1:AC Tryz.prog 64 [.d (iD (c:Nat)),.d (iD 0),.d (iD 255)] none (fun r' _=>r'=.d (bD true)):=l1In_t (by omega)
 have r2:AC Tryz.prog 64 [.d (iD (i:Nat)),.d (iD 0),.d (iD (b.length:Nat))] none (fun r' _=>r'=.d (bD true)):=l1In_t (by omega)
 have e2:decide ((i:Int)<(b.length:Int))=true:=by simp;omega
 have HS:=spliceS_o hb (a:=i) (rm:=1) (by omega) (new:=[UInt8.ofNat c]) (by simp)
 refine cbS Tryz.func50 rfl Tryz.call50 Tryz.ntmps50 fun en hsz hks hk0=>?_;refine enS ?_
 (repeat (first|refine ctlS ?_|(refine ol_go ?_ (fun K1 hK1=>?_);exact trS;refine evS ?_;(try simp only [u8_nat,e2]);refine hK1 _ _ ?_;clear hK1 K1)|(refine ow_go ?_ dsS (fun K1 hK1=>?_);exact trS;refine evS ?_;(try simp only [u8_nat,e2]);refine hK1 _ ?_;clear hK1 K1)|refine skipS ?_|refine cS (r1) ?_|refine cS (r2) ?_|refine cS (HS) ?_|refine aw_condT rfl ?_|refine aw_condF rfl ?_))
 (refine rtS Tryz.results50 ?_;exact ⟨_,_,.inl (toZ_tup (toZL_cons (toZ_own (by simp [lk,St.mem])) (toZL_cons toZ_d toZL_nil))),by simp,rfl⟩)
theorem mutO_fits {n:Nat} (hn:n≤400) (s:Int):(∃ i c:Nat,mutO n s=(1,(i:Int),(c:Int))∧i<n∧c≤255)∨(∃ i c:Nat,mutO n s=(2,(i:Int),(c:Int))∧i≤n∧c≤255)∨(∃ i:Nat,mutO n s=(3,(i:Int),0)∧i<n):=by
 have i2:=nxtN_in (nxtN s)
 have i3:=nxtN_in (nxtN (nxtN s))
 have q0:(nxtN s).tmod 3=0∨(nxtN s).tmod 3=1∨(nxtN s).tmod 3=2:=by
  have:=nxtN_in s
  have:=Int.tmod_nonneg (a:=nxtN s) 3 (by omega)
  have:=Int.tmod_lt_of_pos (nxtN s) (b:=3) (by omega)
  omega
 have m0:=mutO_0 (n:=n) (s:=s) (by omega)
 have m1:=mutO_1 (n:=n) (s:=s) (by omega)
 have m2:=mutO_2 (n:=n) (s:=s) (by omega)
 have m3:=mutO_3 (n:=n) (s:=s) (by omega)
 generalize nxtN (nxtN (nxtN s))=z3 at *
 generalize nxtN (nxtN s)=z2 at *
 have c1:=Int.tmod_nonneg (a:=z3) 256 (by omega)
 have c2:=Int.tmod_lt_of_pos z3 (b:=256) (by omega)
 have j0:∀ m:Int,0<m→0≤z2.tmod m∧z2.tmod m<m:=fun m hm=>⟨Int.tmod_nonneg _ (by omega),Int.tmod_lt_of_pos _ hm⟩
 have co:∀ z:Int,0≤z→z=(z.toNat:Int):=fun z hz=>by omega
 by_cases h0:n=0
 ·have j1:=j0 1 (by omega)
  exact .inr (.inl ⟨(z2.tmod 1).toNat,(z3.tmod 256).toNat,by rw [m0 h0,←co _ j1.1,←co _ c1],by omega,by omega⟩)
 ·rcases q0 with q|q|q
  ·have j1:=j0 n (by omega)
   exact .inl ⟨(z2.tmod n).toNat,(z3.tmod 256).toNat,by rw [m1 h0 q,←co _ j1.1,←co _ c1],by omega,by omega⟩
  ·have j1:=j0 (n+1) (by omega)
   exact .inr (.inl ⟨(z2.tmod (n+1)).toNat,(z3.tmod 256).toNat,by rw [m2 h0 q,←co _ j1.1,←co _ c1],by omega,by omega⟩)
  ·have j1:=j0 n (by omega)
   exact .inr (.inr ⟨(z2.tmod n).toNat,by rw [m3 h0 q,←co _ j1.1],by omega⟩)
theorem applyO_c (hb:b.length≤400) (s:Int):AC Tryz.prog 50 [.d (encB b),.d (mutE (mutO b.length s).1 (mutO b.length s).2.1 (mutO b.length s).2.2)] none (fun r' _=>r'=ownT (mutR b (mutO b.length s).1 (mutO b.length s).2.1 (mutO b.length s).2.2).1):=by
 rcases mutO_fits hb s with ⟨i,c,e,h1,h2⟩|⟨i,c,e,h1,h2⟩|⟨i,e,h1⟩
 ·rw [e]
  simp only
  rw [mutR_1 h1 h2]
  exact applyS_o1 (by omega) h1 h2
 ·rw [e]
  simp only
  rw [mutR_2 h1 h2]
  exact applyS_o2 (by omega) h1 h2
 ·rw [e]
  simp only
  rw [mutR_3 h1]
  exact applyS_o3 (by omega) h1
theorem mutMS_c (hb:b.length≤380) {s:Int} (hs:0≤s∧s≤1000000) {cnt:Nat} (hc:cnt≤19):AC Tryz.prog 72 [.d (encB b),.d (iD s),.d (iD cnt)] none (fun r' _=>r'=.own 5 1 ((mutM b s cnt).map fun c=>[uD c])):=by
 have hm:mutM b s cnt=mutN cnt s b:=by unfold mutM;rw [if_pos hb,Nat.min_eq_left (by omega)]
 rw [hm]
 have e3:decide ((b.length:Int)≤380)=true:=decide_eq_true (by omega)
 refine cbS Tryz.func72 rfl Tryz.call72 Tryz.ntmps72 fun en hsz hks hk0=>?_;refine enS ?_
 refine walkS ?_
 refine aw_loopS [0,1,2,6] (fun κ s'=>[(κ,keyOf (s'.f 7))]) (fun κ z=>[(8,.d (iD (z.1:Nat))),(7,.own κ 5 1 (z.2.map fun c=>[uD c]))]) [] (fun _ _=>[]) [32] (fun κ z=>[(κ,some (z.2.length,5,1))]) (fun z:Nat × List UInt8=>z.1≤cnt∧mutN (cnt - z.1) (s+z.1) z.2=mutN cnt s b∧z.2.length≤b.length+z.1) (fun z=>cnt - z.1) ((0,b)) hks (fun _=>rfl) ⟨Nat.zero_le _,by simp,by simp⟩ wkS ?_;intro x hx;refine headS ?_
 revert hx
 revert x
 rintro ⟨k,x⟩ hx
 obtain ⟨hx1,hx2,hx3⟩:=hx
 simp only at hx1 hx2 hx3 ⊢
 by_cases hk:k<cnt
 ·have e1:decide ((k:Int)<(cnt:Int))=true:=decide_eq_true (by omega)
  have e2:decide ((k:Int)<20)=true:=decide_eq_true (by omega)
  have e4:IntKind.i64.wrap (s+(k:Int))=s+(k:Int):=wrap_small (by omega) (by omega)
  have e5:IntKind.i64.wrap ((k:Int)+1)=((k+1:Nat):Int):=by rw [wrap_small (by omega) (by omega)];omega
  have MO:=mutOS_c (n:=x.length) (by omega) (s+k)
  have MA:=applyO_c (b:=x) (by omega) (s+k)
  have hl:=mutR_len x (mutO x.length (s+k)).1 (mutO x.length (s+k)).2.1 (mutO x.length (s+k)).2.2
  have hn:mutN (cnt - k) (s+k) x=mutN (cnt - (k+1)) (s+((k+1:Nat):Int)) (mutR x (mutO x.length (s+k)).1 (mutO x.length (s+k)).2.1 (mutO x.length (s+k)).2.2).1:=by
   rw [show cnt - k=(cnt - (k+1))+1 by omega,mutN,show s+((k+1:Nat):Int)=s+k+1 by omega]
  rw [hn] at hx2
  generalize mutO x.length (s+k)=mo at *
  generalize mutR x mo.1 mo.2.1 mo.2.2=y at *
  (repeat (first|refine ctlS ?_|(refine ol_go ?_ (fun K1 hK1=>?_);exact trS;refine evS ?_;(try simp only [e1,e2,e3,e4,e5]);refine hK1 _ _ ?_;clear hK1 K1)|(refine ow_go ?_ dsS (fun K1 hK1=>?_);exact trS;refine evS ?_;(try simp only [e1,e2,e3,e4,e5]);refine hK1 _ ?_;clear hK1 K1)|refine skipS ?_|refine cS (MO) ?_|refine cS (MA) ?_|refine aw_condT rfl ?_|refine aw_condF rfl ?_))
  refine ⟨(k+1,y.1),⟨by simp only;omega,hx2,by simp only;omega⟩,by simp only;omega,?_⟩
  exact wkS
 ·have e1:decide ((k:Int)<(cnt:Int))=false:=decide_eq_false (by omega)
  obtain rfl:k=cnt:=by omega
  rw [Nat.sub_self,mutN] at hx2
  (repeat (first|refine ctlS ?_|(refine ol_go ?_ (fun K1 hK1=>?_);exact trS;refine evS ?_;(try simp only [e1]);refine hK1 _ _ ?_;clear hK1 K1)|(refine ow_go ?_ dsS (fun K1 hK1=>?_);exact trS;refine evS ?_;(try simp only [e1]);refine hK1 _ ?_;clear hK1 K1)|refine skipS ?_|refine aw_condT rfl ?_|refine aw_condF rfl ?_))
  (refine rtS Tryz.results72 ?_;exact ⟨_,_,.inl (toZ_own (by simp [lk,St.mem])),by simp,by rw [hx2]⟩)
end
end Go.Proofs.YtndnefealooolaaGreatDoor.Eng
