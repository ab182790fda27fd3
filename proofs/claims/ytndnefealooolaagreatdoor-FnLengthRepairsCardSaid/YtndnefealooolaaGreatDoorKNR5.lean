/-
 The laws' sameBytes.

 Mutations: the reference.
-/
import Derived.Test.YtndnefealooolaaGreatDoorKNE
import Derived.Test.YtndnefealooolaaGreatDoorKNR1
set_option linter.unusedSimpArgs false
set_option linter.unusedVariables false
set_option linter.defProp false
set_option maxRecDepth 100000
set_option maxHeartbeats 4000000
namespace Go.Proofs.YtndnefealooolaaGreatDoor.Eng
open Go Go.RowKit

theorem AC.owndT {P:Program}{f:FuncId}{args:List A}{e:TypeId}{z:Nat}{es:List (List D)}{y:D} (h:AC P f args none fun r _=>r=.tup [.own e z es,.d y]):AC P f args none fun r _=>r=.d (.tup [.sl z es,y]):=
 ⟨h.1,fun w C β F0 vs h1 h2 h3 h4=>(h.2 w C β F0 vs h1 h2 h3 h4).mono fun x w' ⟨v,r,bx',C',F,F',he',hq,hb,g1,g2,g3,g4,g5,g6,g7,g8⟩=>by
  subst hq
  cases bx' with
  | some x=>simp at hb
  | none=>
   unfold BoxO at g6
   subst g6
   refine ⟨v,.d (.tup [.sl z es,y]),none,C',[],[],he',rfl,rfl,g1,g2,g3,g4,?_,rfl,by simp [XO],fun b' hb'=>by cases hb'⟩
   unfold RepZ at g5 ⊢
   obtain ⟨us,rfl,g5⟩:=g5
   refine ⟨rfl,?_⟩
   unfold RepZL at g5
   obtain ⟨u,us',F1,F2,rfl,rfl,k1,k2⟩:=g5
   unfold RepZL at k2
   obtain ⟨u2,us2,F3,F4,rfl,rfl,k2,k3⟩:=k2
   unfold RepZL at k3
   obtain ⟨rfl,rfl⟩:=k3
   unfold RepZ at k2
   unfold RepD
   refine ⟨_,rfl,?_⟩
   unfold RepL
   refine ⟨u,_,rfl,?_,?_⟩
   ·have hw:wkD (.sl z es) (.own 0 e z es):=by unfold wkD;exact .inr ⟨_,_,_,rfl,dleLL_refl _⟩
    unfold RepZ at k1
    rcases k1 with ⟨rfl,rfl,_⟩|⟨b,cp,_,k1,_⟩
    ·exact wkD_rep (G:=⟨fun _=>none,fun _=>0,C'⟩) hw (by unfold RepA RepOwn;exact .inl ⟨rfl,rfl,rfl⟩)
    ·exact wkD_rep (G:=⟨fun _=>some b,fun _=>cp,C'⟩) hw (by unfold RepA;exact k1)
   ·unfold RepL
    refine ⟨u2,_,rfl,k2.2,?_⟩
    unfold RepL
    rfl⟩
private def tyF:=ai (ai tg22 tg30) (ai tg3 (ai tg4 tg5))
theorem sameBytes_c {l m:List UInt8} (hl:l.length≤1048576) (hm:m.length≤1048576):AC Tryz.prog 11 [.d (encB l),.d (encB m)] none (fun r' _=>r'=.d (bD (l==m))):=by
 refine cbS Tryz.func11 rfl Tryz.call11 Tryz.ntmps11 fun en hsz hks hk0=>?_;refine enS ?_
 refine walkS ?_
 refine aw_condS rfl (fun h=>?_) (fun h=>?_)
 ·refine walkS ?_
  (refine rtS Tryz.results11 ?_;exact ⟨_,_,.inl ⟨rfl,rfl⟩,List.nodup_nil,by rw [show (l==m)=false by rw [beq_eq_false_iff_ne];rintro rfl;exact h rfl]⟩)
 ·have hlm:l.length=m.length:=by omega
  refine walkS ?_
  refine aw_loopS [0,1,4] (fun _ _=>[]) (fun _ k=>[(5,.d (iD (k:Nat)))]) [] (fun _ _=>[]) [] (fun _ _=>[]) (fun k=>k≤l.length∧∀ j (h1:j<l.length) (h2:j<m.length),j<k→l[j]=m[j]) (fun k=>l.length - k) (0) hks (fun _=>rfl) ⟨Nat.zero_le _,fun _ _ _ h=>absurd h (Nat.not_lt_zero _)⟩ wkS ?_;intro x hx;refine headS ?_
  obtain ⟨hx1,hx2⟩:=hx
  refine walkS ?_
  refine aw_condS rfl (fun hk=>?_) (fun hk=>?_)
  ·have i1:l[x]?=some (l[x]'(by omega)):=List.getElem?_eq_getElem (by omega)
   have i2:m[x]?=some (m[x]'(by omega)):=List.getElem?_eq_getElem (by omega)
   refine walkS ?_
   refine aw_condS rfl (fun he=>?_) (fun he=>?_)
   ·refine walkS ?_
    (refine rtS Tryz.results11 ?_;exact ⟨_,_,.inl ⟨rfl,rfl⟩,List.nodup_nil,by rw [beq_bytes_no (by omega) (by omega) (u8_ninj he)]⟩)
   ·refine walkS ?_
    refine ⟨x+1,⟨by omega,fun j h1 h2 hj=>?_⟩,by omega,?_⟩
    ·by_cases e:j=x
     ·subst e;exact u8_inj he
     ·exact hx2 j h1 h2 (by omega)
    exact wkS
  ·refine walkS ?_
   (refine rtS Tryz.results11 ?_;exact ⟨_,_,.inl ⟨rfl,rfl⟩,List.nodup_nil,by rw [beq_bytes hlm l.length (Nat.le_refl _) (fun j h1 h2 _=>hx2 j h1 h2 (by omega)),List.drop_length,hlm,List.drop_length];rfl⟩)
end Go.Proofs.YtndnefealooolaaGreatDoor.Eng
namespace Go.Proofs.YtndnefealooolaaGreatDoor.Eng
open Go Go.RowKit

section
variable {b:List UInt8}
abbrev ownT (l:List UInt8):Rz:=.tup [.own 5 1 (l.map fun c=>[uD c]),.d (bD true)]
theorem spliceS_o (hb:b.length≤1048576) {a rm:Nat} (h:a+rm≤b.length) {new:List UInt8} (hn:new.length≤16):AC Tryz.prog 71 [.d (encB b),.d (iD a),.d (iD rm),.d (encB new)] none (fun r' _=>r'=ownT (cutB b a rm new)):=by
 have e1:decide ((a:Int)<0)=false:=by simp
 have e2:decide ((rm:Int)<0)=false:=by simp
 have e3:decide ((b.length:Int)<(rm:Int))=false:=by simp;omega
 have e4:decide ((b.length:Int) - (rm:Int)<(a:Int))=false:=by simp;omega
 have l1:(b.take a).length≤1048576:=by rw [List.length_take];omega
 have l2:(b.drop (a+rm)).length≤1048576:=by rw [List.length_drop];omega
 have t2:((a:Int)+(rm:Int)).toNat=a+rm:=by omega
 have s1:(b.drop 0).take (a - 0)=b.take a:=rfl
 have s2:(b.drop (a+rm)).take (b.length - (a+rm))=b.drop (a+rm):=List.take_of_length_le (by simp)
 refine cbS Tryz.func71 rfl Tryz.call71 Tryz.ntmps71 fun en hsz hks hk0=>?_;refine enS ?_
 (repeat (first|refine ctlS ?_|(refine ol_go ?_ (fun K1 hK1=>?_);exact trS;refine evS ?_;(try simp only [e1,e2,e3,e4,t2,s1,s2,Nat.sub_zero]);refine hK1 _ _ ?_;clear hK1 K1)|(refine ow_go ?_ dsS (fun K1 hK1=>?_);exact trS;refine evS ?_;(try simp only [e1,e2,e3,e4,t2,s1,s2,Nat.sub_zero]);refine hK1 _ ?_;clear hK1 K1)|refine skipS ?_|refine aw_condT rfl ?_|refine aw_condF rfl ?_))
 have hE:List.map (fun c=>[uD c]) (List.take a b)++List.map (fun c=>[uD c]) new++List.map (fun c=>[uD c]) (List.drop (a+rm) b)=(cutB b a rm new).map fun c=>[uD c]:=by simp [cutB]
 rw [hE]
 (refine rtS Tryz.results71 ?_;exact ⟨_,_,.inl (toZ_tup (toZL_cons (toZ_own (by simp [lk,St.mem,cutB,Nat.add_assoc])) (toZL_cons toZ_d toZL_nil))),by simp,rfl⟩)
theorem applyS_o2 (hb:b.length≤1048576) {i c:Nat} (hi:i≤b.length) (hc:c≤255):AC Tryz.prog 50 [.d (encB b),.d (mutE 2 i c)] none (fun r' _=>r'=ownT (cutB b i 0 [UInt8.ofNat c])):=by
 have r1:AC Tryz.prog 64 [.d (iD (c:Nat)),.d (iD 0),.d (iD 255)] none (fun r' _=>r'=.d (bD true)):=l1In_t (by omega)
 have r2:AC Tryz.prog 64 [.d (iD (i:Nat)),.d (iD 0),.d (iD (b.length:Nat))] none (fun r' _=>r'=.d (bD true)):=l1In_t (by omega)
 have HS:=spliceS_o hb (a:=i) (rm:=0) (by omega) (new:=[UInt8.ofNat c]) (by simp)
 refine cbS Tryz.func50 rfl Tryz.call50 Tryz.ntmps50 fun en hsz hks hk0=>?_;refine enS ?_
 (repeat (first|refine ctlS ?_|(refine ol_go ?_ (fun K1 hK1=>?_);exact trS;refine evS ?_;(try simp only [u8_nat]);refine hK1 _ _ ?_;clear hK1 K1)|(refine ow_go ?_ dsS (fun K1 hK1=>?_);exact trS;refine evS ?_;(try simp only [u8_nat]);refine hK1 _ ?_;clear hK1 K1)|refine skipS ?_|refine cS (r1) ?_|refine cS (r2) ?_|refine cS (HS) ?_|refine aw_condT rfl ?_|refine aw_condF rfl ?_))
 (refine rtS Tryz.results50 ?_;exact ⟨_,_,.inl (toZ_tup (toZL_cons (toZ_own (by simp [lk,St.mem])) (toZL_cons toZ_d toZL_nil))),by simp,rfl⟩)
theorem applyS_2 (hb:b.length≤1048576) {i c:Nat} (hi:i≤b.length) (hc:c≤255):AC Tryz.prog 50 [.d (encB b),.d (mutE 2 i c)] none (fun r' _=>r'=.d (.tup [encB (cutB b i 0 [UInt8.ofNat c]),bD true])):=(applyS_o2 hb hi hc).owndT
theorem applyS_o3 (hb:b.length≤1048576) {i:Nat} (hi:i<b.length):AC Tryz.prog 50 [.d (encB b),.d (mutE 3 i 0)] none (fun r' _=>r'=ownT (cutB b i 1 [])):=by
 have r1:AC Tryz.prog 64 [.d (iD 0),.d (iD 0),.d (iD 255)] none (fun r' _=>r'=.d (bD true)):=l1In_t (by omega)
 have r2:AC Tryz.prog 64 [.d (iD (i:Nat)),.d (iD 0),.d (iD (b.length:Nat))] none (fun r' _=>r'=.d (bD true)):=l1In_t (by omega)
 have e2:decide ((i:Int)<(b.length:Int))=true:=by simp;omega
 have HS:=spliceS_o hb (a:=i) (rm:=1) (by omega) (new:=[]) (by simp)
 refine cbS Tryz.func50 rfl Tryz.call50 Tryz.ntmps50 fun en hsz hks hk0=>?_;refine enS ?_
 (repeat (first|refine ctlS ?_|(refine ol_go ?_ (fun K1 hK1=>?_);exact trS;refine evS ?_;(try simp only [e2]);refine hK1 _ _ ?_;clear hK1 K1)|(refine ow_go ?_ dsS (fun K1 hK1=>?_);exact trS;refine evS ?_;(try simp only [e2]);refine hK1 _ ?_;clear hK1 K1)|refine skipS ?_|refine cS (r1) ?_|refine cS (r2) ?_|refine cS (HS) ?_|refine aw_condT rfl ?_|refine aw_condF rfl ?_))
 (refine rtS Tryz.results50 ?_;exact ⟨_,_,.inl (toZ_tup (toZL_cons (toZ_own (by simp [lk,St.mem])) (toZL_cons toZ_d toZL_nil))),by simp,rfl⟩)
theorem applyS_3 (hb:b.length≤1048576) {i:Nat} (hi:i<b.length):AC Tryz.prog 50 [.d (encB b),.d (mutE 3 i 0)] none (fun r' _=>r'=.d (.tup [encB (cutB b i 1 []),bD true])):=(applyS_o3 hb hi).owndT
end
end Go.Proofs.YtndnefealooolaaGreatDoor.Eng
