/-
 Bytes up to a terminator.
-/
import Derived.Test.YtomfggmmhkpeeaaGreatDoorKTy
import Derived.Test.YtomfggmmhkpeeaaGreatDoorKN0
import Derived.KernelRfl
set_option linter.unusedSimpArgs false
set_option linter.unusedVariables false
set_option linter.defProp false
set_option maxRecDepth 100000
set_option maxHeartbeats 4000000
namespace Go.Proofs.YtomfggmmhkpeeaaGreatDoor.Eng
open Go Go.RowKit

theorem l1In_t {n a b:Int} (h:a≤n∧n≤b):AC Tryz.prog 30 [.d (iD n),.d (iD a),.d (iD b)] none (fun r _=>r=.d (bD true)):=(l1In_c n a b).eqv (by simp [h])
theorem l1In_f {n a b:Int} (h:¬(a≤n∧n≤b)):AC Tryz.prog 30 [.d (iD n),.d (iD a),.d (iD b)] none (fun r _=>r=.d (bD false)):=(l1In_c n a b).eqv (by
 congr 3
 rw [←Bool.decide_and]
 exact decide_eq_false h)
theorem u8_inj {x y:UInt8} (h:((x.toNat:Nat):Int)=(y.toNat:Nat)):x=y:=UInt8.toNat_inj.1 (by omega)
theorem u8_ninj {x y:UInt8} (h:((x.toNat:Nat):Int)≠(y.toNat:Nat)):x≠y:=fun e=>h (by rw [e])
abbrev rtR (l:List UInt8) (p:Nat) (t:UInt8):Rz:=.d (.tup [encB (rdT l p t).1,iD (rdT l p t).2.1,bD (rdT l p t).2.2])

private def tyF:=ai tg25 (ai tg3 tg5)
theorem rtS_c {l:List UInt8} (hl:l.length≤1048576) (p:Nat) (hp:p≤l.length) (t:UInt8):AC Tryz.prog 56 [.d (encB l),.d (iD p),.d (uD t)] none (fun r' _=>r'=rtR l p t):=by
 refine cbS Tryz.func56 rfl Tryz.call56 Tryz.ntmps56 fun en hsz hks hk0=>?_;refine enS ?_
 refine walkS ?_
 refine aw_loopS [0,1,2,6,7,8] (fun κ s'=>[(κ,keyOf (s'.f 9))]) (fun κ x=>[(10,.d (iD (x.1:Nat))),(9,.own κ 5 1 (x.2.map fun c=>[uD c]))]) [] (fun _ _=>[]) [16] (fun κ x=>[(κ,some (x.2.length,5,1))]) (fun x=>x.1≤l.length∧TermAt l p t x.1 x.2∧x.2.length≤x.1) (fun x=>l.length - x.1) ((p,[])) hks (fun _=>rfl) ⟨hp,TermAt.refl,Nat.zero_le _⟩ wkS ?_;intro x hx;refine headS ?_
 obtain ⟨hx1,hx2,hx3⟩:=hx
 (repeat (first|refine walkS ?_|(refine callPre ?_;(first|refine callN_funS rfl (l1In_t (by omega)) ?_))|(refine callPreL ?_;(first|refine callL_funS rfl (l1In_t (by omega)) ?_))))
 refine aw_condS rfl (fun hk=>?_) (fun hk=>?_)
 ·refine walkS ?_
  refine aw_condS rfl (fun he=>?_) (fun he=>?_)
  ·refine walkS ?_
   (refine rtS Tryz.results56 ?_;refine ⟨_,[],.inr (.inl ⟨.tup [encB x.2,iD ((x.1:Int)+1),bD true],rfl,rfl,?_⟩),List.nodup_nil,by rw [rtR,hx2.hit (by omega) (u8_inj he)];rfl⟩;exact wkDS)
  ·have he':=u8_ninj he
   refine walkS ?_
   refine aw_condS rfl (fun h92=>?_) (fun h92=>?_)
   ·refine walkS ?_
    refine aw_condS rfl (fun hl2=>?_) (fun hl2=>?_)
    ·refine walkS ?_
     (refine rtS Tryz.results56 ?_;refine ⟨_,[],.inr (.inl ⟨.tup [encB [],iD (p:Int),bD false],rfl,rfl,?_⟩),List.nodup_nil,by rw [rtR,hx2.last (by omega) (by omega) he' (u8_inj (y:=92) h92)]⟩;exact wkDS)
    ·refine walkS ?_
     refine ⟨(x.1+1+1,x.2++[l[x.1+1]]),⟨by simp only;omega,hx2.esc (by omega) he' (u8_inj (y:=92) h92),by simp;omega⟩,by simp only;omega,?_⟩
     exact wkS
   ·refine walkS ?_
    refine ⟨(x.1+1,x.2++[l[x.1]]),⟨by simp only;omega,hx2.step (by omega) he' (u8_ninj (y:=92) h92),by simp;omega⟩,by simp only;omega,?_⟩
    exact wkS
 ·refine walkS ?_
  (refine rtS Tryz.results56 ?_;refine ⟨_,[],.inr (.inl ⟨.tup [encB [],iD (p:Int),bD false],rfl,rfl,?_⟩),List.nodup_nil,by rw [rtR,hx2.fin (by omega)]⟩;exact wkDS)


theorem rtI_c {l:List UInt8} (hl:l.length≤1048576) (p:Nat) (hp:p≤l.length) (t:UInt8):AC Tryz.prog 72 [.d (encB l),.d (iD p),.d (uD t)] none (fun r' _=>r'=rtR l p t):=by
 have e1:decide ((p:Int)<0)=false:=by simp
 have e2:decide ((l.length:Int)<(p:Int))=false:=by simp;omega
 refine cbS Tryz.func72 rfl Tryz.call72 Tryz.ntmps72 fun en hsz hks hk0=>?_;refine enS ?_
 (repeat (first|refine ctlS ?_|(refine ol_go ?_ (fun K1 hK1=>?_);exact trS;refine evS ?_;(try simp only [e1,e2]);refine hK1 _ _ ?_;clear hK1 K1)|(refine ow_go ?_ dsS (fun K1 hK1=>?_);exact trS;refine evS ?_;(try simp only [e1,e2]);refine hK1 _ ?_;clear hK1 K1)|refine skipS ?_))
 refine aw_condS rfl (fun hc=>?_) (fun hc=>?_)
 ·cases hc
 refine walkS ?_
 refine aw_loopS [0,1,2,6,7,8] (fun κ s'=>[(κ,keyOf (s'.f 9))]) (fun κ x=>[(10,.d (iD (x.1:Nat))),(9,.own κ 5 1 (x.2.map fun c=>[uD c]))]) [] (fun _ _=>[]) [16] (fun κ x=>[(κ,some (x.2.length,5,1))]) (fun x=>x.1≤l.length∧TermAt l p t x.1 x.2∧x.2.length≤x.1) (fun x=>l.length - x.1) ((p,[])) hks (fun _=>rfl) ⟨hp,TermAt.refl,Nat.zero_le _⟩ wkS ?_;intro x hx;refine headS ?_
 obtain ⟨hx1,hx2,hx3⟩:=hx
 refine walkS ?_
 refine aw_condS rfl (fun hk=>?_) (fun hk=>?_)
 ·refine walkS ?_
  refine aw_condS rfl (fun he=>?_) (fun he=>?_)
  ·refine walkS ?_
   (refine rtS Tryz.results72 ?_;refine ⟨_,[],.inr (.inl ⟨.tup [encB x.2,iD ((x.1:Int)+1),bD true],rfl,rfl,?_⟩),List.nodup_nil,by rw [rtR,hx2.hit (by omega) (u8_inj he)];rfl⟩;exact wkDS)
  ·have he':=u8_ninj he
   refine walkS ?_
   refine aw_condS rfl (fun h92=>?_) (fun h92=>?_)
   ·refine walkS ?_
    refine aw_condS rfl (fun hl2=>?_) (fun hl2=>?_)
    ·refine walkS ?_
     (refine rtS Tryz.results72 ?_;refine ⟨_,[],.inr (.inl ⟨.tup [encB [],iD (p:Int),bD false],rfl,rfl,?_⟩),List.nodup_nil,by rw [rtR,hx2.last (by omega) (by omega) he' (u8_inj (y:=92) h92)]⟩;exact wkDS)
    ·refine walkS ?_
     refine ⟨(x.1+1+1,x.2++[l[x.1+1]]),⟨by simp only;omega,hx2.esc (by omega) he' (u8_inj (y:=92) h92),by simp;omega⟩,by simp only;omega,?_⟩
     exact wkS
   ·refine walkS ?_
    refine ⟨(x.1+1,x.2++[l[x.1]]),⟨by simp only;omega,hx2.step (by omega) he' (u8_ninj (y:=92) h92),by simp;omega⟩,by simp only;omega,?_⟩
    exact wkS
 ·refine walkS ?_
  (refine rtS Tryz.results72 ?_;refine ⟨_,[],.inr (.inl ⟨.tup [encB [],iD (p:Int),bD false],rfl,rfl,?_⟩),List.nodup_nil,by rw [rtR,hx2.fin (by omega)]⟩;exact wkDS)

end Go.Proofs.YtomfggmmhkpeeaaGreatDoor.Eng
