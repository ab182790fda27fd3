/-
 The distance of two texts, the reference; a byte of the input.
-/
import Derived.Test.YtndnefealooolaaGreatDoorKPR4
import Derived.Test.YtndnefealooolaaGreatDoorKND2
import Derived.Test.YtndnefealooolaaGreatDoorKNR10
import Derived.Test.YtndnefealooolaaGreatDoorKPure14
set_option linter.unusedSimpArgs false
set_option linter.unusedVariables false
set_option linter.defProp false
set_option maxRecDepth 100000
set_option maxHeartbeats 4000000
namespace Go.Proofs.YtndnefealooolaaGreatDoor.Eng
open Go Go.RowKit

section
variable {a b:List UInt8}
theorem minF_dE (a b:List UInt8) (i k:Nat):minF (dE a b i k+if a[i]?=b[k]? then 0 else 1) (minF (dE a b i (k+1)) (dE a b (i+1) k)+1)=dE a b (i+1) (k+1):=by
 have h:∀ x y:Int,minF x y=min x y:=fun x y=>by unfold minF;split<;>omega
 rw [dE_nn,h,h]
private def tyF:=ai (ai tg22 tg57) (ai tg3 tg5)
theorem distS_c (ha:a.length≤1000) (hb:b.length≤1000):AC Tryz.prog 14 [.d (encB a),.d (encB b)] none (fun r' _=>r'=.d (iD (dE a b a.length b.length))):=by
 have ap:∀ i n:Nat,((rowE a b i n).map fun c=>[iD c])++[[iD (dE a b i n)]]=(rowE a b i (n+1)).map fun c=>[iD c]:=fun i n=>by rw [←rowE_succ,List.map_append];rfl
 have ap0:∀ n:Nat,((rowE a b 0 n).map fun c=>[iD c])++[[iD n]]=(rowE a b 0 (n+1)).map fun c=>[iD c]:=fun n=>by rw [←ap,dE_0]
 refine cbS Tryz.func14 rfl Tryz.call14 Tryz.ntmps14 fun en hsz hks hk0=>?_;refine enS ?_
 refine walkS ?_
 refine aw_loopS [0,1,4] (fun κ s'=>[(κ,keyOf (s'.f 5))]) (fun κ x=>[(6,.d (iD (x.1:Nat))),(5,.own κ 3 1 (x.2.map fun c=>[iD c]))]) [] (fun _ _=>[]) [16] (fun κ x=>[(κ,some (x.2.length,3,1))]) (fun x:Nat × List Int=>x.1≤b.length+1∧x.2=rowE a b 0 x.1) (fun x=>b.length+1 - x.1) ((0,[])) hks (fun _=>rfl) ⟨Nat.zero_le _,rfl⟩ wkS ?_;intro x hx;refine headS ?_
 revert hx
 revert x
 rintro ⟨x,l⟩ hx
 simp only at hx ⊢
 obtain ⟨hx1,rfl⟩:=hx
 refine walkS ?_
 refine aw_condS rfl (fun h1=>?_) (fun h1=>?_)
 ·have e1:IntKind.i64.wrap ((x:Int)+1)=((x+1:Nat):Int):=by rw [wrap_small (by omega) (by omega)];omega
  have ax:=ap0 x
  have hl:=rowE_len a b 0 x
  (repeat (first|refine ctlS ?_|(refine ol_go ?_ (fun K1 hK1=>?_);exact trS;refine evS ?_;(try simp only [e1]);refine hK1 _ _ ?_;clear hK1 K1)|(refine ow_go ?_ dsS (fun K1 hK1=>?_);exact trS;refine evS ?_;(try simp only [e1]);refine hK1 _ ?_;clear hK1 K1)|refine skipS ?_))
  refine ⟨(x+1,rowE a b 0 x++[(x:Int)]),⟨by simp only;omega,by rw [←rowE_succ,dE_0]⟩,by simp only;omega,?_⟩
  exact wkS
 ·obtain rfl:x=b.length+1:=by omega
  refine walkS ?_
  refine aw_loopS [0,1,4] (fun κ s'=>[(κ,keyOf (s'.f 5))]) (fun κ x=>[(7,.d (iD (x.1:Nat))),(5,.own κ 3 1 (x.2.map fun c=>[iD c]))]) [] (fun _ _=>[]) [32] (fun κ x=>[(κ,some (x.2.length,3,1))]) (fun x:Nat × List Int=>(1≤x.1∧x.1≤a.length+1)∧x.2=rowE a b (x.1 - 1) (b.length+1)) (fun x=>a.length+1 - x.1) ((1,rowE a b 0 (b.length+1))) hks (fun _=>rfl) ⟨⟨Nat.le_refl _,by omega⟩,rfl⟩ wkS ?_;intro x hx;refine headS ?_
  revert hx
  revert x
  rintro ⟨i,l⟩ hx
  simp only at hx ⊢
  obtain ⟨⟨hi1,hi2⟩,rfl⟩:=hx
  obtain ⟨i,rfl⟩:∃ j,i=j+1:=⟨i - 1,by omega⟩
  rw [Nat.add_sub_cancel]
  refine walkS ?_
  refine aw_condS rfl (fun h2=>?_) (fun h2=>?_)
  ·have hi:i<a.length:=by omega
   have f1:IntKind.i64.wrap (((i+1:Nat):Int) - 1)=(i:Int):=by rw [wrap_small (by omega) (by omega)];omega
   have f4:((i+1:Nat):Int) - 1=(i:Int):=by omega
   have ia:a[i]?=some (a[i]'hi):=List.getElem?_eq_getElem hi
   refine walkS ?_
   refine aw_loopS [0,1,4,5,7] (fun κ s'=>[(κ,keyOf (s'.f 8))]) (fun κ x=>[(9,.d (iD (x.1:Nat))),(8,.own κ 3 1 (x.2.map fun c=>[iD c]))]) [] (fun _ _=>[]) [64] (fun κ x=>[(κ,some (x.2.length,3,1))]) (fun x:Nat × List Int=>(1≤x.1∧x.1≤b.length+1)∧x.2=rowE a b (i+1) x.1) (fun x=>b.length+1 - x.1) ((1,[((i+1:Nat):Int)])) hks (fun _=>rfl) ⟨⟨Nat.le_refl _,by omega⟩,by simp [rowE,dE_n0]⟩ wkS ?_;intro x hx;refine headS ?_
   revert hx
   revert x
   rintro ⟨k,l⟩ hx
   simp only at hx ⊢
   obtain ⟨⟨hk1,hk2⟩,rfl⟩:=hx
   obtain ⟨j,rfl⟩:∃ j,k=j+1:=⟨k - 1,by omega⟩
   refine walkS ?_
   refine aw_condS rfl (fun h3=>?_) (fun h3=>?_)
   ·have hj:j<b.length:=by omega
    have ib:b[j]?=some (b[j]'hj):=List.getElem?_eq_getElem hj
    have f2:IntKind.i64.wrap (((j+1:Nat):Int) - 1)=(j:Int):=by rw [wrap_small (by omega) (by omega)];omega
    have f3:((j+1:Nat):Int) - 1=(j:Int):=by omega
    have r1:(rowE a b i (b.length+1))[j]?=some (dE a b i j):=rowE_get (by omega)
    have r2:(rowE a b i (b.length+1))[j+1]?=some (dE a b i (j+1)):=rowE_get (by omega)
    have r3:(rowE a b (i+1) (j+1))[j]?=some (dE a b (i+1) j):=rowE_get (by omega)
    have l1:=rowE_len a b i (b.length+1)
    have l2:=rowE_len a b (i+1) (j+1)
    have d1:=dE_in a b i j
    have d2:=dE_in a b i (j+1)
    have d3:=dE_in a b (i+1) j
    have d4:=dE_in a b (i+1) (j+1)
    have f5:IntKind.i64.wrap (dE a b i j+1)=dE a b i j+1:=wrap_small (by omega) (by omega)
    have f6:IntKind.i64.wrap (minF (dE a b i (j+1)) (dE a b (i+1) j)+1)=minF (dE a b i (j+1)) (dE a b (i+1) j)+1:=by
     have:0≤minF (dE a b i (j+1)) (dE a b (i+1) j)∧minF (dE a b i (j+1)) (dE a b (i+1) j)≤3000:=by unfold minF;split<;>omega
     exact wrap_small (by omega) (by omega)
    have f7:IntKind.i64.wrap (((j+1:Nat):Int)+1)=((j+1+1:Nat):Int):=by rw [wrap_small (by omega) (by omega)];omega
    have f8:((j+1:Nat):Int)+1=((j+1+1:Nat):Int):=by omega
    have m1:=minS_c (dE a b i (j+1)) (dE a b (i+1) j)
    have hmm:=minF_dE a b i j
    rw [ia,ib] at hmm
    (repeat (first|refine ctlS ?_|(refine ol_go ?_ (fun K1 hK1=>?_);exact trS;refine evS ?_;(try simp only [f1,f2,f3,f4]);refine hK1 _ _ ?_;clear hK1 K1)|(refine ow_go ?_ dsS (fun K1 hK1=>?_);exact trS;refine evS ?_;(try simp only [f1,f2,f3,f4]);refine hK1 _ ?_;clear hK1 K1)|refine skipS ?_))
    refine aw_condS rfl (fun hab=>?_) (fun hab=>?_)
    ·have mm:minF (dE a b i j+1) (minF (dE a b i (j+1)) (dE a b (i+1) j)+1)=dE a b (i+1) (j+1):=by rw [←hmm,if_neg (fun h=>hab (by rw [Option.some.inj h]))]
     have m2:=minS_c (dE a b i j+1) (minF (dE a b i (j+1)) (dE a b (i+1) j)+1)
     rw [mm] at m2
     (repeat (first|refine ctlS ?_|(refine ol_go ?_ (fun K1 hK1=>?_);exact trS;refine evS ?_;(try simp only [f2,f3,f5,f6,f7,f8]);refine hK1 _ _ ?_;clear hK1 K1)|(refine ow_go ?_ dsS (fun K1 hK1=>?_);exact trS;refine evS ?_;(try simp only [f2,f3,f5,f6,f7,f8]);refine hK1 _ ?_;clear hK1 K1)|refine skipS ?_|refine cS (m1) ?_|refine cS (m2) ?_))
     refine ⟨(j+1+1,rowE a b (i+1) (j+1)++[dE a b (i+1) (j+1)]),⟨⟨by simp only;omega,by simp only;omega⟩,rowE_succ a b (i+1) (j+1)⟩,by simp only;omega,?_⟩
     exact wkS
    ·have mm:minF (dE a b i j) (minF (dE a b i (j+1)) (dE a b (i+1) j)+1)=dE a b (i+1) (j+1):=by rw [←hmm,if_pos (congrArg some (u8_inj hab)),Int.add_zero]
     have m2:=minS_c (dE a b i j) (minF (dE a b i (j+1)) (dE a b (i+1) j)+1)
     rw [mm] at m2
     (repeat (first|refine ctlS ?_|(refine ol_go ?_ (fun K1 hK1=>?_);exact trS;refine evS ?_;(try simp only [f2,f3,f5,f6,f7,f8]);refine hK1 _ _ ?_;clear hK1 K1)|(refine ow_go ?_ dsS (fun K1 hK1=>?_);exact trS;refine evS ?_;(try simp only [f2,f3,f5,f6,f7,f8]);refine hK1 _ ?_;clear hK1 K1)|refine skipS ?_|refine cS (m1) ?_|refine cS (m2) ?_))
     refine ⟨(j+1+1,rowE a b (i+1) (j+1)++[dE a b (i+1) (j+1)]),⟨⟨by simp only;omega,by simp only;omega⟩,rowE_succ a b (i+1) (j+1)⟩,by simp only;omega,?_⟩
     exact wkS
   ·obtain rfl:j=b.length:=by omega
    have f7:IntKind.i64.wrap (((i+1:Nat):Int)+1)=((i+1+1:Nat):Int):=by rw [wrap_small (by omega) (by omega)];omega
    have f8:((i+1:Nat):Int)+1=((i+1+1:Nat):Int):=by omega
    (repeat (first|refine ctlS ?_|(refine ol_go ?_ (fun K1 hK1=>?_);exact trS;refine evS ?_;(try simp only [f7,f8]);refine hK1 _ _ ?_;clear hK1 K1)|(refine ow_go ?_ dsS (fun K1 hK1=>?_);exact trS;refine evS ?_;(try simp only [f7,f8]);refine hK1 _ ?_;clear hK1 K1)|refine skipS ?_))
    refine ⟨(i+1+1,rowE a b (i+1) (b.length+1)),⟨⟨by simp only;omega,by simp only;omega⟩,rfl⟩,by simp only;omega,?_⟩
    exact wkS
  ·obtain rfl:i=a.length:=by omega
   have r1:(rowE a b a.length (b.length+1))[b.length]?=some (dE a b a.length b.length):=rowE_get (by omega)
   have l1:=rowE_len a b a.length (b.length+1)
   refine walkS ?_
   (refine rtS Tryz.results14 ?_;exact ⟨_,_,.inl ⟨rfl,rfl⟩,List.nodup_nil,rfl⟩)
end
end Go.Proofs.YtndnefealooolaaGreatDoor.Eng
