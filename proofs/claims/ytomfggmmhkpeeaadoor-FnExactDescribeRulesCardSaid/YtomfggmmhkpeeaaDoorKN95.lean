/-
 Lines that tell of rules; the reference.
-/
import Derived.Test.YtomfggmmhkpeeaaDoorKN91
import Derived.Test.YtomfggmmhkpeeaaDoorKN93
import Derived.Test.YtomfggmmhkpeeaaDoorKN94
import Derived.Test.YtomfggmmhkpeeaaDoorKNFS
import Derived.Test.YtomfggmmhkpeeaaDoorKITO
set_option linter.unusedSimpArgs false
set_option linter.unusedVariables false
set_option linter.defProp false
set_option maxRecDepth 100000
set_option maxHeartbeats 4000000
namespace Go.Proofs.YtomfggmmhkpeeaaDoor.Eng
open Go Go.RowKit

theorem digL_le:∀ n:Nat,(Lib.decDigits n).length≤n+1:=by
 intro n
 induction n using Nat.strongRecOn with
 | ind n ih=>
  rw [Lib.decDigits]
  split
  ·simp
  ·have:=ih (n / 10) (by omega)
   rw [List.length_append,List.length_singleton]
   omega
theorem itoI_size {n:Int} (h0:0≤n) (h1:n≤1000):(itoB n).size≤1001:=by
 obtain ⟨m,rfl⟩:∃ m:Nat,n=m:=⟨n.toNat,by omega⟩
 unfold itoB
 rw [Lib.itoa_nonneg]
 have:=digL_le m
 show (Lib.decDigits m).toArray.size≤1001
 rw [List.size_toArray]
 omega
section
variable {D:List RuleD}{M:Nat}
noncomputable def lineT (D:List RuleD) (i:Nat):ByteArray:=
 (ruleD D i).name++⟨#[32]⟩++kName (ruleD D i).kind++⟨#[32]⟩++itoB (minOf D i)++⟨#[45]⟩++itoB (maxOf D i)++⟨#[32]⟩++itoB (depOf D i)
noncomputable def lnS (D:List RuleD) (k:Nat):List ByteArray:=(List.range k).map (lineT D)
theorem lnS_len (D:List RuleD) (k:Nat):(lnS D k).length=k:=by simp [lnS]
noncomputable def linesT (D:List RuleD):List ByteArray:=if vDesc D=true then lnS D D.length else []
abbrev ownS (l:List ByteArray):Rz:=.own 9 1 (l.map fun t=>[sD t])
theorem fmtS_i {n:Int} (h0:0≤n) (h1:n≤1000):AC Tryd.prog 16 [.d (iD n)] none (fun r' _=>r'=.d (sD (itoB n))):=by
 obtain ⟨m,rfl⟩:∃ m:Nat,n=m:=⟨n.toNat,by omega⟩
 rw [←fmtN_ito]
 exact fmtS_c (by omega)
theorem line_sizes {nm kn s1 s2 s3:ByteArray} (h0:nm.size≤1048576) (h4:kn.size≤16) (h1:s1.size≤1001) (h2:s2.size≤1001) (h3:s3.size≤1001) :
  (nm.size+ByteArray.size ⟨#[32]⟩≤9223372036854775807)∧((nm++⟨#[32]⟩).size+kn.size≤9223372036854775807)∧((nm++⟨#[32]⟩++kn).size+ByteArray.size ⟨#[32]⟩≤9223372036854775807)∧((nm++⟨#[32]⟩++kn++⟨#[32]⟩).size+s1.size≤9223372036854775807)∧
  ((nm++⟨#[32]⟩++kn++⟨#[32]⟩++s1).size+ByteArray.size ⟨#[45]⟩≤9223372036854775807)∧((nm++⟨#[32]⟩++kn++⟨#[32]⟩++s1++⟨#[45]⟩).size+s2.size≤9223372036854775807)∧((nm++⟨#[32]⟩++kn++⟨#[32]⟩++s1++⟨#[45]⟩++s2).size+ByteArray.size ⟨#[32]⟩≤9223372036854775807)∧
  ((nm++⟨#[32]⟩++kn++⟨#[32]⟩++s1++⟨#[45]⟩++s2++⟨#[32]⟩).size+s3.size≤9223372036854775807):=by
 have y2:ByteArray.size ⟨#[32]⟩=1:=rfl
 have y3:ByteArray.size ⟨#[45]⟩=1:=rfl
 simp only [ByteArray.size_append,y2,y3]
 omega
theorem range_line (D:List RuleD) (k:Nat):lnS D k++[lineT D k]=lnS D (k+1):=by
 unfold lnS
 rw [List.range_succ,List.map_append]
 rfl
private def tyF:=ai (ai (ai tg39 tg26) (ai tg28 (ai tg40 tg30))) (ai (ai tg42 tg3) (ai tg4 (ai tg5 tg9)))
theorem linesS_c (hD:DB M D) (hM:M≤1048576):AC Tryd.prog 5 [.d (encD D)] none (fun r' _=>r'=ownS (linesT D)):=by
 by_cases hv:vDesc D=true
 ·have hV:descP D:=descP_of hv
  have h24:D.length≤24:=hV.1.2
  have hDl:=hD.len
  rw [show linesT D=lnS D D.length from if_pos hv]
  refine cbS Tryd.func5 rfl Tryd.call5 Tryd.ntmps5 fun en hsz hks hk0=>?_;refine enS ?_
  refine walkS ?_
  refine aw_loopS [1,2] (fun κ s'=>[(κ,keyOf (s'.f 3))]) (fun κ x=>[(4,.d (iD (x.1:Nat))),(3,.own κ 9 1 (x.2.map fun c=>[sD c]))]) [] (fun _ _=>[]) [32] (fun κ x=>[(κ,some (x.2.length,9,1))]) (fun x:Nat × List ByteArray=>x.1≤D.length∧x.2=lnS D x.1) (fun x=>D.length - x.1) ((0,[])) hks (fun _=>rfl) ⟨Nat.zero_le _,rfl⟩ wkS ?_;intro x hx;refine headS ?_
  obtain ⟨y,acc⟩:=x
  simp only at hx ⊢
  obtain ⟨hx1,rfl⟩:=hx
  refine walkS ?_
  (refine ow_gd rfl rfl dsS (fun hg K1 hK1=>?_) (fun hg=>?_);((try simp only [hg]);refine evS ?_;refine hK1 _ ?_;clear hK1 K1);rotate_left;(simp only [Bool.not_true,Bool.not_false] at hg;simp only [St.set,hg]);rotate_left)
  ·have hg':y<D.length:=by simpa using hg
   (repeat (first|refine walkS ?_|(refine callPre ?_;(first|refine callN_funS rfl ((validS_c hD hM).eqv (r1:=.d (bD true)) (by rw [hv])) ?_))|(refine callPreL ?_;(first|refine callL_funS rfl ((validS_c hD hM).eqv (r1:=.d (bD true)) (by rw [hv])) ?_))))
   refine aw_condS rfl (fun hj=>?_) (fun hj=>?_)
   ·obtain ⟨r,hr⟩:∃ r,D[y]?=some r:=⟨_,List.getElem?_eq_getElem hg'⟩
    have hrb:=hD.rule r (List.mem_of_getElem? hr)
    have hrD:=ruleD_get hr
    have b1:=minOf_in D y
    have b2:=maxOf_in D y
    have b3:=depOf_in D y
    have f1:=fmtS_i (n:=minOf D y) b1.1 (by omega)
    have f2:=fmtS_i (n:=maxOf D y) b2.1 (by omega)
    have f3:=fmtS_i (n:=depOf D y) b3.1 (by omega)
    have c1:=minSizeS_c hD hM y
    have c2:=maxSizeS_c hD hM y
    have c3:=depS_c hD hM y
    have hl:r.name++⟨#[32]⟩++kName r.kind++⟨#[32]⟩++itoB (minOf D y)++⟨#[45]⟩++itoB (maxOf D y)++⟨#[32]⟩++itoB (depOf D y)=lineT D y:=by
     unfold lineT
     rw [hrD]
    have hll:=lnS_len D y
    have z0:=hrb.name
    have z4:=kName_size r.kind
    have z1:=itoI_size (n:=minOf D y) b1.1 (by omega)
    have z2:=itoI_size (n:=maxOf D y) b2.1 (by omega)
    have z3:=itoI_size (n:=depOf D y) b3.1 (by omega)
    have c4:=kindS_c r.kind
    generalize minOf D y=n1 at *
    generalize maxOf D y=n2 at *
    generalize depOf D y=n3 at *
    generalize itoB n1=s1 at *
    generalize itoB n2=s2 at *
    generalize itoB n3=s3 at *
    generalize kName r.kind=kn at *
    generalize hnm:r.name=nm at *
    obtain ⟨a1,a2,a3,a4,a5,a6,a7,a8⟩:=line_sizes (nm:=nm) (kn:=kn) (s1:=s1) (s2:=s2) (s3:=s3) (by omega) z4 z1 z2 z3
    have hb:1073741824≤9223372036854775807:=by decide
    (repeat (first|refine ctlS ?_|(refine ol_go ?_ (fun K1 hK1=>?_);exact trS;refine evS ?_;(try simp only [hnm]);refine hK1 _ _ ?_;clear hK1 K1)|(refine ow_go ?_ dsS (fun K1 hK1=>?_);exact trS;refine evS ?_;(try simp only [hnm]);refine hK1 _ ?_;clear hK1 K1)|refine skipS ?_|refine cS (c4) ?_|refine cS (c1) ?_|refine cS (c2) ?_|refine cS (c3) ?_|refine cS (f1) ?_|refine cS (f2) ?_|refine cS (f3) ?_))
    refine ⟨(y+1,lnS D y++[lineT D y]),⟨by simp only;omega,range_line D y⟩,by simp only;omega,?_⟩
    rw [←hl]
    exact wkS
   ·(first|exact absurd trivial hj|exact absurd rfl hj|(cases hj;done)|omega|exact absurd hj (by decide)|(simp at hj;done))
  ·have hg':¬y<D.length:=by simpa using hg
   refine walkS ?_
   refine aw_condS rfl (fun hj=>?_) (fun hj=>?_)
   ·(first|exact absurd trivial hj|exact absurd rfl hj|(cases hj;done)|omega|exact absurd hj (by decide)|(simp at hj;done))
   ·obtain rfl:y=D.length:=by omega
    refine walkS ?_
    (refine rtS Tryd.results5 ?_;exact ⟨_,_,.inl (toZ_own (by simp [lk,St.mem])),by simp,rfl⟩)
 ·have hv':vDesc D=false:=by simpa using hv
  have hDl:=hD.len
  rw [show linesT D=[] from if_neg hv]
  refine cbS Tryd.func5 rfl Tryd.call5 Tryd.ntmps5 fun en hsz hks hk0=>?_;refine enS ?_
  refine walkS ?_
  refine aw_loopS [1,2] (fun κ s'=>[(κ,keyOf (s'.f 3))]) (fun κ x=>[(4,.d (iD (x.1:Nat))),(3,.own κ 9 1 (x.2.map fun c=>[sD c]))]) [] (fun _ _=>[]) [32] (fun κ x=>[(κ,some (x.2.length,9,1))]) (fun x:Nat × List ByteArray=>x.1=0∧x.2=[]) (fun x=>1 - x.1) ((0,[])) hks (fun _=>rfl) ⟨rfl,rfl⟩ wkS ?_;intro x hx;refine headS ?_
  obtain ⟨y,acc⟩:=x
  simp only at hx ⊢
  obtain ⟨rfl,rfl⟩:=hx
  refine walkS ?_
  (refine ow_gd rfl rfl dsS (fun hg K1 hK1=>?_) (fun hg=>?_);((try simp only [hg]);refine evS ?_;refine hK1 _ ?_;clear hK1 K1);rotate_left;(simp only [Bool.not_true,Bool.not_false] at hg;simp only [St.set,hg]);rotate_left)
  ·(repeat (first|refine walkS ?_|(refine callPre ?_;(first|refine callN_funS rfl ((validS_c hD hM).eqv (r1:=.d (bD false)) (by rw [hv'])) ?_))|(refine callPreL ?_;(first|refine callL_funS rfl ((validS_c hD hM).eqv (r1:=.d (bD false)) (by rw [hv'])) ?_))))
   refine aw_condS rfl (fun hj=>?_) (fun hj=>?_)
   ·(first|exact absurd trivial hj|exact absurd rfl hj|(cases hj;done)|omega|exact absurd hj (by decide)|(simp at hj;done))
   ·refine walkS ?_
    (refine rtS Tryd.results5 ?_;exact ⟨_,_,.inl (toZ_own (by simp [lk,St.mem])),by simp,rfl⟩)
  ·refine walkS ?_
   refine aw_condS rfl (fun hj=>?_) (fun hj=>?_)
   ·(first|exact absurd trivial hj|exact absurd rfl hj|(cases hj;done)|omega|exact absurd hj (by decide)|(simp at hj;done))
   ·refine walkS ?_
    (refine rtS Tryd.results5 ?_;exact ⟨_,_,.inl (toZ_own (by simp [lk,St.mem])),by simp,rfl⟩)
end
end Go.Proofs.YtomfggmmhkpeeaaDoor.Eng
