/-
 The rules that a rule uses; whether one of them is terminated: the program.

 The law: FnOneCanonical.
-/
import Derived.Test.YtodkkldopciagaaGreatDoorKE38
import Derived.Test.YtodkkldopciagaaGreatDoorKNPF
import Derived.Test.YtodkkldopciagaaGreatDoorKPU1
import Derived.Test.YtodkkldopciagaaGreatDoorKPD
import Derived.Test.YtodkkldopciagaaGreatDoorKPL7
import Derived.Test.YtodkkldopciagaaGreatDoorKND17
import Derived.Test.YtodkkldopciagaaGreatDoorKLSB
set_option linter.unusedSimpArgs false
set_option linter.unusedVariables false
set_option linter.defProp false
set_option maxRecDepth 100000
set_option maxHeartbeats 4000000
namespace Go.Proofs.YtodkkldopciagaaGreatDoor.Eng
open Go Go.RowKit
variable {D:List RuleD}{M:Nat}

abbrev boolsA (u:List Bool):List A:=(u.map bD).map A.d
theorem boolsA_len (u:List Bool):(boolsA u).length=u.length:=by simp [boolsA]
theorem boolsA_set {u:List Bool}{i:Nat} (h:i<u.length):splice (boolsA u) [.d (bD true)] i=boolsA (u.set i true):=by
 unfold boolsA splice
 rw [List.map_set,List.map_set,List.set_eq_take_append_cons_drop,if_pos (by simpa using h),List.append_assoc]
 rfl
theorem boolsA_get {u:List Bool}{i:Nat}{x:Bool} (h:u[i]?=some x):(boolsA u)[i]?=some (.d (bD x)):=by simp [boolsA,h]
theorem boolsA_agg (u:List Bool) (h:u.length=24):mkAgg ((boolsA u).take 24)=.d (.agg (u.map bD)):=by
 unfold boolsA
 rw [List.take_of_length_le (by simp;omega)]
 have:∀ l:List Eng.D,allD (l.map A.d)=some l:=fun l=>by
  induction l with
  | nil=>rfl
  | cons x l ih=>simp only [List.map_cons,allD,ih];rfl
 cases u with
 | nil=>rfl
 | cons x u=>
  show mkAgg (A.d (bD x)::(u.map bD).map A.d)=_
  have h2:=this (bD x::u.map bD)
  simp only [List.map_cons] at h2 ⊢
  simp only [mkAgg,h2]
theorem spliceB_all {a b:List A} (h:b.length=a.length):splice a b 0=b:=by
 unfold splice
 rw [List.take_zero,List.nil_append,Nat.zero_add,List.drop_of_length_le (by omega),List.append_nil]
private def tyF:=ai (ai (ai tg89 tg22) (ai tg24 (ai tg58 tg60))) (ai (ai tg26 (ai tg62 tg3)) (ai tg4 (ai tg5 tg9)))
theorem usedI_c (hD:DB M D) (hM:M≤1048576) (hV:descP D) {n:Nat} (hn:n<D.length):AC Tryz.prog 59 [.d (encD D),.d (iD (n:Nat))] none (fun r' _=>r'=.d (.agg ((useL D (n+1) ((List.replicate 24 false).set n true)).map bD))):=by
 have hDl:=hV.1.2
 have hz:[A.d (Eng.D.v (Value.bool false)),A.d (Eng.D.v (Value.bool false)),A.d (Eng.D.v (Value.bool false)),A.d (Eng.D.v (Value.bool false)),A.d (Eng.D.v (Value.bool false)),A.d (Eng.D.v (Value.bool false)),A.d (Eng.D.v (Value.bool false)),A.d (Eng.D.v (Value.bool false)),A.d (Eng.D.v (Value.bool false)),A.d (Eng.D.v (Value.bool false)),A.d (Eng.D.v (Value.bool false)),A.d (Eng.D.v (Value.bool false)),A.d (Eng.D.v (Value.bool false)),A.d (Eng.D.v (Value.bool false)),A.d (Eng.D.v (Value.bool false)),A.d (Eng.D.v (Value.bool false)),A.d (Eng.D.v (Value.bool false)),A.d (Eng.D.v (Value.bool false)),A.d (Eng.D.v (Value.bool false)),A.d (Eng.D.v (Value.bool false)),A.d (Eng.D.v (Value.bool false)),A.d (Eng.D.v (Value.bool false)),A.d (Eng.D.v (Value.bool false)),A.d (Eng.D.v (Value.bool false))]=boolsA (List.replicate 24 false):=rfl
 have hL0:(boolsA (List.replicate 24 false)).length=24:=by rw [boolsA_len,List.length_replicate]
 have hs0:splice (boolsA (List.replicate 24 false)) [.d (bD true)] n=boolsA ((List.replicate 24 false).set n true):=boolsA_set (by rw [List.length_replicate];omega)
 have hu24:(List.replicate 24 false).length=24:=List.length_replicate
 generalize List.replicate 24 false=z0 at *
 refine cbS Tryz.func59 rfl Tryz.call59 Tryz.ntmps59 fun en hsz hks hk0=>?_;refine enS ?_
 (repeat (first|refine ctlS ?_|(refine ol_go ?_ (fun K1 hK1=>?_);exact trS;refine evS ?_;(try simp only [hz,hs0]);refine hK1 _ _ ?_;clear hK1 K1)|(refine ow_go ?_ dsS (fun K1 hK1=>?_);exact trS;refine evS ?_;(try simp only [hz,hs0]);refine hK1 _ ?_;clear hK1 K1)|refine skipS ?_))
 refine aw_loopS [2,4,5] (fun _ _=>[]) (fun _ x=>[(6,.d (iD x.1))]) [48] (fun _ x=>[(48,some (boolsA x.2))]) [] (fun _ _=>[]) (fun x:Int × List Bool=>(-1≤x.1∧x.1≤n)∧x.2.length=24∧useL D (x.1+1).toNat x.2=useL D (n+1) (z0.set n true)) (fun x=>(x.1+1).toNat) (((n:Int),z0.set n true)) hks (fun _=>rfl) ⟨by omega,by rw [List.length_set,hu24],by rw [show ((n:Int)+1).toNat=n+1 by omega]⟩ wkS ?_;intro x hx;refine headS ?_
 obtain ⟨i,u⟩:=x
 simp only at hx ⊢
 obtain ⟨hx1,hx2,hx3⟩:=hx
 refine walkS ?_
 refine aw_condS rfl (fun hc=>?_) (fun hc=>?_)
 ·obtain ⟨j,rfl⟩:∃ j:Nat,i=(j:Int):=⟨i.toNat,by omega⟩
  have hjn:j<D.length:=by omega
  have hj24:j<u.length:=by omega
  have hL:(boolsA u).length=24:=by rw [boolsA_len,hx2]
  have hat:(boolsA u)[j]?=some (.d (bD u[j])):=boolsA_get (List.getElem?_eq_getElem hj24)
  rw [show ((j:Int)+1).toNat=j+1 by omega,useL] at hx3
  have e1:IntKind.i64.wrap ((j:Int) - 1)=(j:Int) - 1:=wrap_small (by omega) (by omega)
  obtain ⟨r,hr⟩:∃ r,D[j]?=some r:=⟨_,List.getElem?_eq_getElem hjn⟩
  have hrD:=ruleD_get hr
  have hlk:=(hD.rule r (List.mem_of_getElem? hr)).lk
  have G:GoodR D j r:=good_of hV hr
  cases hu:u[j] with
  | false=>
   have hS:useS D u j=u:=by unfold useS;rw [if_neg (by rw [List.getElem?_eq_getElem hj24,hu];simp)]
   rw [hS] at hx3
   rw [hu] at hat
   (repeat (first|refine ctlS ?_|(refine ol_go ?_ (fun K1 hK1=>?_);exact trS;refine evS ?_;(try simp only [partA_at hat]);refine hK1 _ _ ?_;clear hK1 K1)|(refine ow_go ?_ dsS (fun K1 hK1=>?_);exact trS;refine evS ?_;(try simp only [partA_at hat]);refine hK1 _ ?_;clear hK1 K1)|refine skipS ?_))
   refine aw_condS rfl (fun h2=>?_) (fun h2=>?_)
   ·(repeat (first|refine ctlS ?_|(refine ol_go ?_ (fun K1 hK1=>?_);exact trS;refine evS ?_;(try simp only [e1]);refine hK1 _ _ ?_;clear hK1 K1)|(refine ow_go ?_ dsS (fun K1 hK1=>?_);exact trS;refine evS ?_;(try simp only [e1]);refine hK1 _ ?_;clear hK1 K1)|refine skipS ?_))
    refine ⟨((j:Int) - 1,u),⟨⟨by omega,by omega⟩,hx2,by rw [show ((j:Int) - 1+1).toNat=j by omega];exact hx3⟩,by simp only;omega,?_⟩
    exact wkS
   ·(first|exact absurd trivial h2|exact absurd rfl h2|(cases h2;done)|omega|exact absurd h2 (by decide)|(simp at h2;done))
  | true=>
   have hS:useS D u j=useK u r.kids:=by unfold useS;rw [if_pos (by rw [List.getElem?_eq_getElem hj24,hu]),hrD]
   rw [hS] at hx3
   rw [hu] at hat
   (repeat (first|refine ctlS ?_|(refine ol_go ?_ (fun K1 hK1=>?_);exact trS;refine evS ?_;(try simp only [partA_at hat]);refine hK1 _ _ ?_;clear hK1 K1)|(refine ow_go ?_ dsS (fun K1 hK1=>?_);exact trS;refine evS ?_;(try simp only [partA_at hat]);refine hK1 _ ?_;clear hK1 K1)|refine skipS ?_))
   refine aw_condS rfl (fun h2=>?_) (fun h2=>?_)
   ·(first|exact absurd trivial h2|exact absurd rfl h2|(cases h2;done)|omega|exact absurd h2 (by decide)|(simp at h2;done))
   ·refine walkS ?_
    have hu0:boolsA u=boolsA (useK u (r.kids.take 0)):=rfl
    rw [hu0]
    refine aw_loopS [4,5,6,25,26] (fun _ _=>[]) (fun _ k=>[(27,.d (iD (k:Nat))),(2,.ptr 16 0)]) [48] (fun _ k=>[(48,some (boolsA (useK u (r.kids.take k))))]) [] (fun _ _=>[]) (fun k=>k≤r.kids.length) (fun k=>r.kids.length - k) (0) hks (fun _=>rfl) (Nat.zero_le _) wkS ?_;intro x hx;refine headS ?_
    have hLk:(useK u (r.kids.take x)).length=24:=by rw [useK_len,hx2]
    refine walkS ?_
    refine aw_condS rfl (fun hk=>?_) (fun hk=>?_)
    ·have hkl:x<r.kids.length:=by have:x≤r.kids.length:=hx;omega
     have g1:=G.kid x hkl
     obtain ⟨m,hm⟩:∃ m:Nat,r.kids[x]=(m:Int):=⟨_,(Int.toNat_of_nonneg g1.1).symm⟩
     have i1:r.kids[x]?=some (m:Int):=by rw [List.getElem?_eq_getElem hkl,hm]
     have hs1:splice (boolsA (useK u (r.kids.take x))) [.d (bD true)] m=boolsA (useK u (r.kids.take (x+1))):=by
      rw [boolsA_set (by rw [useK_len];omega),List.take_succ_eq_append_getElem hkl,useK_snoc,hm,Int.toNat_natCast]
     (repeat (first|refine ctlS ?_|(refine ol_go ?_ (fun K1 hK1=>?_);exact trS;refine evS ?_;(try simp only [hm,hs1]);refine hK1 _ _ ?_;clear hK1 K1)|(refine ow_go ?_ dsS (fun K1 hK1=>?_);exact trS;refine evS ?_;(try simp only [hm,hs1]);refine hK1 _ ?_;clear hK1 K1)|refine skipS ?_))
     refine ⟨x+1,by omega,by omega,?_⟩
     exact wkS
    ·obtain rfl:x=r.kids.length:=by have:x≤r.kids.length:=hx;omega
     rw [List.take_length]
     (repeat (first|refine ctlS ?_|(refine ol_go ?_ (fun K1 hK1=>?_);exact trS;refine evS ?_;(try simp only [e1]);refine hK1 _ _ ?_;clear hK1 K1)|(refine ow_go ?_ dsS (fun K1 hK1=>?_);exact trS;refine evS ?_;(try simp only [e1]);refine hK1 _ ?_;clear hK1 K1)|refine skipS ?_))
     refine ⟨((j:Int) - 1,useK u r.kids),⟨⟨by omega,by omega⟩,by simp only;rw [useK_len];exact hx2,by rw [show ((j:Int) - 1+1).toNat=j by omega];exact hx3⟩,by simp only;omega,?_⟩
     exact wkS
 ·have hi:(i+1).toNat=0:=by omega
  rw [hi,useL] at hx3
  have hma:=boolsA_agg u hx2
  have hsp:splice (boolsA z0) (boolsA u) 0=boolsA u:=spliceB_all (by rw [boolsA_len,boolsA_len,hx2,hu24])
  have hlb:(boolsA u).length=24:=by rw [boolsA_len,hx2]
  have hlz:(boolsA z0).length=24:=by rw [boolsA_len,hu24]
  rw [←hx3]
  refine walkS ?_
  simp only [hma]
  refine ow_go ?_ dsS (fun K1 hK1=>?_)
  ·trivial
  refine evS ?_
  refine hK1 _ ?_
  clear hK1 K1
  simp only [hsp]
  refine walkS ?_
  (refine rtS Tryz.results59 ?_)
  rw [hma]
  refine ⟨by omega,_,[],.inr (.inl ⟨.agg (u.map bD),rfl,rfl,?_⟩),List.nodup_nil,rfl⟩
  exact wkDS
theorem usedRulesI_c (hD:DB M D) (hM:M≤1048576) (hV:descP D):AC Tryz.prog 40 [.d (encD D),.d (iD ((D.length:Int) - 1))] none (fun r' _=>r'=.d (encI (usedN D D.length))):=by
 have hl:=hV.1
 obtain ⟨n,hn⟩:∃ n,D.length=n+1:=⟨D.length - 1,by omega⟩
 have hr:(D.length:Int) - 1=(n:Int):=by omega
 have KN:=known_c hD hM ((D.length:Int) - 1)
 rw [vKnown_yes (vDesc_yes hV) (by omega)] at KN
 have US:=usedI_c hD hM hV (n:=n) (by omega)
 have hA:usedA D=useL D (n+1) ((List.replicate 24 false).set n true):=by unfold usedA;rw [hn];rfl
 rw [←hA] at US
 have hAl:=usedA_len D
 rw [hr] at KN ⊢
 obtain ⟨u,hu⟩:∃ u,u=usedA D:=⟨_,rfl⟩
 rw [←hu] at US hAl
 have hz:(u.map bD).map A.d++List.drop u.length [A.d (Eng.D.v (Value.bool false)),A.d (Eng.D.v (Value.bool false)),A.d (Eng.D.v (Value.bool false)),A.d (Eng.D.v (Value.bool false)),A.d (Eng.D.v (Value.bool false)),A.d (Eng.D.v (Value.bool false)),A.d (Eng.D.v (Value.bool false)),A.d (Eng.D.v (Value.bool false)),A.d (Eng.D.v (Value.bool false)),A.d (Eng.D.v (Value.bool false)),A.d (Eng.D.v (Value.bool false)),A.d (Eng.D.v (Value.bool false)),A.d (Eng.D.v (Value.bool false)),A.d (Eng.D.v (Value.bool false)),A.d (Eng.D.v (Value.bool false)),A.d (Eng.D.v (Value.bool false)),A.d (Eng.D.v (Value.bool false)),A.d (Eng.D.v (Value.bool false)),A.d (Eng.D.v (Value.bool false)),A.d (Eng.D.v (Value.bool false)),A.d (Eng.D.v (Value.bool false)),A.d (Eng.D.v (Value.bool false)),A.d (Eng.D.v (Value.bool false)),A.d (Eng.D.v (Value.bool false))]=(u.map bD).map A.d:=by rw [hAl];simp
 refine cbS Tryz.func40 rfl Tryz.call40 Tryz.ntmps40 fun en hsz hks hk0=>?_;refine enS ?_
 (repeat (first|refine ctlS ?_|(refine ol_go ?_ (fun K1 hK1=>?_);exact trS;refine evS ?_;(try simp only [hz]);refine hK1 _ _ ?_;clear hK1 K1)|(refine ow_go ?_ dsS (fun K1 hK1=>?_);exact trS;refine evS ?_;(try simp only [hz]);refine hK1 _ ?_;clear hK1 K1)|refine skipS ?_|(refine callPre ?_;(first|refine callN_funS rfl (KN) ?_|refine callN_funS rfl (US) ?_))|(refine callPreL ?_;(first|refine callL_funS rfl (KN) ?_|refine callL_funS rfl (US) ?_))|refine aw_condT rfl ?_|refine aw_condF rfl ?_))
 refine aw_loopS [4,6,19] (fun κ s'=>[(κ,keyOf (s'.f 5))]) (fun κ x=>[(20,.d (iD (x.1:Nat))),(5,.own κ 3 1 (x.2.map fun c=>[iD c]))]) [] (fun _ _=>[]) [32] (fun κ x=>[(κ,some (x.2.length,3,1))]) (fun x:Nat × List Int=>x.1≤D.length∧x.2=usedN D x.1) (fun x=>D.length - x.1) ((0,[])) hks (fun _=>rfl) ⟨Nat.zero_le _,rfl⟩ wkS ?_;intro x hx;refine headS ?_
 obtain ⟨x,l⟩:=x
 simp only at hx ⊢
 obtain ⟨hx,hxl⟩:=hx
 have hun:=usedN_len D x
 rw [←hxl] at hun
 refine walkS ?_
 refine aw_condS rfl (fun hc=>?_) (fun hc=>?_)
 ·have hx':x<D.length:=by omega
  have hx24:x<u.length:=by omega
  have hg:(usedA D).getD x false=u[x]:=by rw [←hu,List.getD_eq_getElem?_getD,List.getElem?_eq_getElem hx24];rfl
  have hat:((u.map bD).map A.d)[x]?=some (.d (bD u[x])):=boolsA_get (List.getElem?_eq_getElem hx24)
  cases hux:u[x] with
  | false=>
   rw [hux] at hat hg
   (repeat (first|refine ctlS ?_|(refine ol_go ?_ (fun K1 hK1=>?_);exact trS;refine evS ?_;(try simp only [partA_at hat]);refine hK1 _ _ ?_;clear hK1 K1)|(refine ow_go ?_ dsS (fun K1 hK1=>?_);exact trS;refine evS ?_;(try simp only [partA_at hat]);refine hK1 _ ?_;clear hK1 K1)|refine skipS ?_))
   refine aw_condS rfl (fun h2=>?_) (fun h2=>?_)
   ·(first|exact absurd trivial h2|exact absurd rfl h2|(cases h2;done)|omega|exact absurd h2 (by decide)|(simp at h2;done))
   ·refine walkS ?_
    refine ⟨(x+1,l),⟨by simp only;omega,by rw [hxl,usedN_f hg]⟩,by simp only;omega,?_⟩
    exact wkS
  | true=>
   rw [hux] at hat hg
   (repeat (first|refine ctlS ?_|(refine ol_go ?_ (fun K1 hK1=>?_);exact trS;refine evS ?_;(try simp only [partA_at hat]);refine hK1 _ _ ?_;clear hK1 K1)|(refine ow_go ?_ dsS (fun K1 hK1=>?_);exact trS;refine evS ?_;(try simp only [partA_at hat]);refine hK1 _ ?_;clear hK1 K1)|refine skipS ?_))
   refine aw_condS rfl (fun h2=>?_) (fun h2=>?_)
   ·refine walkS ?_
    refine ⟨(x+1,l++[(x:Int)]),⟨by simp only;omega,by rw [hxl,usedN_t hg]⟩,by simp only;omega,?_⟩
    exact wkS
   ·(first|exact absurd trivial h2|exact absurd rfl h2|(cases h2;done)|omega|exact absurd h2 (by decide)|(simp at h2;done))
 ·obtain rfl:x=D.length:=by omega
  rw [←hxl]
  refine walkS ?_
  (refine rtS Tryz.results40 ?_)
  refine ⟨_,[],.inr (.inl ⟨.sl 1 (l.map fun c=>[iD c]),rfl,rfl,?_⟩),List.nodup_nil,rfl⟩
  unfold wkD
  exact .inr ⟨_,_,_,rfl,dleLL_refl _⟩
theorem binI_c (hD:DB M D) (hM:M≤1048576):AC Tryz.prog 26 [.d (encD D)] none (fun r' _=>r'=.d (bD (binP D))):=by
 have VI:=validI_c hD hM
 have RI:=rootI_c hD hM
 cases hv:vDesc D with
 | false=>
  have hb:binP D=false:=by unfold binP;rw [hv];rfl
  rw [hv] at VI
  rw [hb]
  refine cbS Tryz.func26 rfl Tryz.call26 Tryz.ntmps26 fun en hsz hks hk0=>?_;refine enS ?_
  (repeat (first|refine walkS ?_|(refine callPre ?_;(first|refine callN_funS rfl (VI) ?_))|(refine callPreL ?_;(first|refine callL_funS rfl (VI) ?_))))
  refine aw_condS rfl (fun h=>?_) (fun h=>?_)
  ·refine walkS ?_
   (refine rtS Tryz.results26 ?_;exact ⟨_,_,.inl ⟨rfl,rfl⟩,List.nodup_nil,rfl⟩)
  ·(first|exact absurd trivial h|exact absurd rfl h|(cases h;done)|omega|exact absurd h (by decide)|(simp at h;done))
 | true=>
  have hV:=descP_of hv
  have hDl:=hV.1.2
  have UR:=usedRulesI_c hD hM hV
  have hb:binP D=(usedN D D.length).all fun i=>decide ((ruleD D i).kind≠10):=by unfold binP;rw [hv];rfl
  have hin:∀ i∈usedN D D.length,0≤i∧i<D.length:=fun i hi=>usedN_in hi
  have hun:=usedN_len D D.length
  rw [hv] at VI
  rw [hb]
  generalize usedN D D.length=l at UR hin hun ⊢
  refine cbS Tryz.func26 rfl Tryz.call26 Tryz.ntmps26 fun en hsz hks hk0=>?_;refine enS ?_
  (repeat (first|refine walkS ?_|(refine callPre ?_;(first|refine callN_funS rfl (VI) ?_|refine callN_funS rfl (RI) ?_|refine callN_funS rfl (UR) ?_))|(refine callPreL ?_;(first|refine callL_funS rfl (VI) ?_|refine callL_funS rfl (RI) ?_|refine callL_funS rfl (UR) ?_))|refine aw_condT rfl ?_|refine aw_condF rfl ?_))
  refine aw_loopS [1,2,11,12] (fun _ _=>[]) (fun _ k=>[(13,.d (iD (k:Nat)))]) [] (fun _ _=>[]) [] (fun _ _=>[]) (fun k:Nat=>k≤l.length∧∀ j (h:j<l.length),j<k→(ruleD D l[j]).kind≠10) (fun k=>l.length - k) (0) hks (fun _=>rfl) ⟨Nat.zero_le _,fun _ _ h=>absurd h (Nat.not_lt_zero _)⟩ wkS ?_;intro x hx;refine headS ?_
  obtain ⟨hx1,hx2⟩:=hx
  refine walkS ?_
  refine aw_condS rfl (fun hc=>?_) (fun hc=>?_)
  ·have hxl:x<l.length:=by omega
   have h1:=hin _ (List.getElem_mem hxl)
   obtain ⟨m,hm⟩:∃ m:Nat,l[x]=(m:Int):=⟨_,(Int.toNat_of_nonneg h1.1).symm⟩
   have i1:l[x]?=some (m:Int):=by rw [List.getElem?_eq_getElem hxl,hm]
   have hml:m<D.length:=by omega
   obtain ⟨r,hr⟩:∃ r,D[m]?=some r:=⟨_,List.getElem?_eq_getElem hml⟩
   have hrD:=ruleD_get hr
   rw [←hm] at hrD
   (repeat (first|refine ctlS ?_|(refine ol_go ?_ (fun K1 hK1=>?_);exact trS;refine evS ?_;(try simp only [hm]);refine hK1 _ _ ?_;clear hK1 K1)|(refine ow_go ?_ dsS (fun K1 hK1=>?_);exact trS;refine evS ?_;(try simp only [hm]);refine hK1 _ ?_;clear hK1 K1)|refine skipS ?_))
   refine aw_condS rfl (fun h2=>?_) (fun h2=>?_)
   ·refine walkS ?_
    (refine rtS Tryz.results26 ?_;exact ⟨_,_,.inl ⟨rfl,rfl⟩,List.nodup_nil,by rw [show (l.all fun i=>decide ((ruleD D i).kind≠10))=false from List.all_eq_false.2 ⟨_,List.getElem_mem hxl,by rw [hrD];simp;first|exact h2|omega⟩]⟩)
   ·refine walkS ?_
    refine ⟨x+1,⟨by omega,fun j hj hjx=>?_⟩,by omega,?_⟩
    ·by_cases e:j=x
     ·subst e
      rw [hrD]
      first|exact h2|omega
     ·exact hx2 j hj (by omega)
    exact wkS
  ·have hall:(l.all fun i=>decide ((ruleD D i).kind≠10))=true:=List.all_eq_true.2 fun i hi=>by
    obtain ⟨j,hj,rfl⟩:=List.getElem_of_mem hi
    exact decide_eq_true (hx2 j hj (by omega))
   refine walkS ?_
   (refine rtS Tryz.results26 ?_;exact ⟨_,_,.inl ⟨rfl,rfl⟩,List.nodup_nil,by rw [hall]⟩)
theorem allCanI_c (hD:DB M D) (hM:M≤1048576):AC Tryz.prog 15 [.d (encD D)] none (fun r' _=>r'=.d (bD (binP D))):=by
 refine cbS Tryz.func15 rfl Tryz.call15 Tryz.ntmps15 fun en hsz hks hk0=>?_;refine enS ?_
 (repeat (first|refine walkS ?_|(refine callPre ?_;(first|refine callN_funS rfl (binI_c hD hM) ?_))|(refine callPreL ?_;(first|refine callL_funS rfl (binI_c hD hM) ?_))))
 (refine rtS Tryz.results15 ?_;exact ⟨_,_,.inl ⟨rfl,rfl⟩,List.nodup_nil,rfl⟩)
end Go.Proofs.YtodkkldopciagaaGreatDoor.Eng
namespace Go.Proofs.YtodkkldopciagaaGreatDoor.Eng
open Go Go.RowKit

theorem lawOneCanonical_c (B:List UInt8):AC Tryz.prog 4 [.d (encB B)] none (fun r' _=>r'=.d (bD true)):=by
 by_cases h0:(1048576:Int)<B.length
 ·have b1:=bigB_c B
  rw [decide_eq_true h0] at b1
  refine cbS Tryz.func4 rfl Tryz.call4 Tryz.ntmps4 fun en hsz hks hk0=>?_;refine enS ?_
  (repeat (first|refine walkS ?_|(refine callPre ?_;(first|refine callN_funS rfl (b1) ?_))|(refine callPreL ?_;(first|refine callL_funS rfl (b1) ?_))))
  refine aw_condS rfl (fun hc=>?_) (fun hc=>?_)
  ·refine walkS ?_
   (refine rtS Tryz.results4 ?_;exact ⟨_,_,.inl ⟨rfl,rfl⟩,List.nodup_nil,rfl⟩)
  ·(first|exact absurd trivial hc|exact absurd rfl hc|(cases hc;done)|omega|exact absurd hc (by decide)|(simp at hc;done))
 have b1:=bigB_c B
 rw [decide_eq_false h0] at b1
 have hB:B.length≤1048576:=by omega
 have V1:=drawSF_c hB
 have hDB:=sameC_db B
 have hl:=sameC_len B
 generalize sameC B=z at V1 hDB hl
 obtain ⟨D,a,b⟩:=z
 simp only at V1 hDB hl
 have C1:=(canI_c hDB (Nat.le_refl _) (b:=a) (by omega)).owndT
 have C2:=(canI_c hDB (Nat.le_refl _) (b:=b) (by omega)).owndT
 have C3:=(canS_c hDB (Nat.le_refl _) (b:=a) (by omega)).owndT
 have S1:=sameI_c hDB (Nat.le_refl _) (a:=a) (b:=b) (by omega) (by omega)
 have A1:=allCanI_c hDB (Nat.le_refl _)
 have K1:=isCanI_c hDB (Nat.le_refl _) (b:=a) (by omega)
 have hbin:binP D=true→(canR D a).2=true→isCanP D a=true:=fun h1 h2=>by
  obtain ⟨U,hU,hr⟩:=binP_used h1
  have hf:fileP D a=true:=by
   cases hf:fileP D a with
   | true=>rfl
   | false=>rw [can_no hf] at h2;cases h2
  have:=can_bin hf hU hr
  unfold isCanP
  rw [this]
  simp
 rw [same_can] at S1
 have l1:=canR_len D a
 have l2:=canR_len D b
 generalize isCanP D a=w at K1 hbin
 generalize binP D=e at A1 hbin
 generalize canR D a=u at C1 C3 S1 hbin l1
 generalize canR D b=v at C2 S1 l2
 obtain ⟨x,ok⟩:=u
 obtain ⟨y,fine⟩:=v
 simp only at C1 C2 C3 S1 hbin l1 l2
 have Q1:=sameBytes_c (l:=x) (m:=y) (by omega) (by omega)
 generalize (x==y)=q at Q1 S1
 cases ok with
 | false=>
  cases fine with
  | false=>
   simp only [Bool.and_self,Bool.and_true,Bool.true_and,Bool.and_false,Bool.false_and] at S1
   refine cbS Tryz.func4 rfl Tryz.call4 Tryz.ntmps4 fun en hsz hks hk0=>?_;refine enS ?_
   (repeat (first|refine walkS ?_|(refine callPre ?_;(first|refine callN_funS rfl (b1) ?_|refine callN_funS rfl (V1) ?_|refine callN_funS rfl (C1) ?_|refine callN_funS rfl (C2) ?_|refine callN_funS rfl (C3) ?_|refine callN_funS rfl (S1) ?_|refine callN_funS rfl (Q1) ?_|refine callN_funS rfl (A1) ?_|refine callN_funS rfl (K1) ?_))|(refine callPreL ?_;(first|refine callL_funS rfl (b1) ?_|refine callL_funS rfl (V1) ?_|refine callL_funS rfl (C1) ?_|refine callL_funS rfl (C2) ?_|refine callL_funS rfl (C3) ?_|refine callL_funS rfl (S1) ?_|refine callL_funS rfl (Q1) ?_|refine callL_funS rfl (A1) ?_|refine callL_funS rfl (K1) ?_))|refine aw_condT rfl ?_|refine aw_condF rfl ?_))
   cases e
   ·(repeat (first|refine walkS ?_|(refine callPre ?_;(first|refine callN_funS rfl (b1) ?_|refine callN_funS rfl (V1) ?_|refine callN_funS rfl (C1) ?_|refine callN_funS rfl (C2) ?_|refine callN_funS rfl (C3) ?_|refine callN_funS rfl (S1) ?_|refine callN_funS rfl (Q1) ?_|refine callN_funS rfl (A1) ?_|refine callN_funS rfl (K1) ?_))|(refine callPreL ?_;(first|refine callL_funS rfl (b1) ?_|refine callL_funS rfl (V1) ?_|refine callL_funS rfl (C1) ?_|refine callL_funS rfl (C2) ?_|refine callL_funS rfl (C3) ?_|refine callL_funS rfl (S1) ?_|refine callL_funS rfl (Q1) ?_|refine callL_funS rfl (A1) ?_|refine callL_funS rfl (K1) ?_))|refine aw_condT rfl ?_|refine aw_condF rfl ?_))
    (refine rtS Tryz.results4 ?_;exact ⟨_,_,.inl ⟨rfl,rfl⟩,List.nodup_nil,rfl⟩)
   ·(repeat (first|refine walkS ?_|(refine callPre ?_;(first|refine callN_funS rfl (b1) ?_|refine callN_funS rfl (V1) ?_|refine callN_funS rfl (C1) ?_|refine callN_funS rfl (C2) ?_|refine callN_funS rfl (C3) ?_|refine callN_funS rfl (S1) ?_|refine callN_funS rfl (Q1) ?_|refine callN_funS rfl (A1) ?_|refine callN_funS rfl (K1) ?_))|(refine callPreL ?_;(first|refine callL_funS rfl (b1) ?_|refine callL_funS rfl (V1) ?_|refine callL_funS rfl (C1) ?_|refine callL_funS rfl (C2) ?_|refine callL_funS rfl (C3) ?_|refine callL_funS rfl (S1) ?_|refine callL_funS rfl (Q1) ?_|refine callL_funS rfl (A1) ?_|refine callL_funS rfl (K1) ?_))|refine aw_condT rfl ?_|refine aw_condF rfl ?_))
    (refine rtS Tryz.results4 ?_;exact ⟨_,_,.inl ⟨rfl,rfl⟩,List.nodup_nil,rfl⟩)
  | true=>
   simp only [Bool.and_self,Bool.and_true,Bool.true_and,Bool.and_false,Bool.false_and] at S1
   refine cbS Tryz.func4 rfl Tryz.call4 Tryz.ntmps4 fun en hsz hks hk0=>?_;refine enS ?_
   (repeat (first|refine walkS ?_|(refine callPre ?_;(first|refine callN_funS rfl (b1) ?_|refine callN_funS rfl (V1) ?_|refine callN_funS rfl (C1) ?_|refine callN_funS rfl (C2) ?_|refine callN_funS rfl (C3) ?_|refine callN_funS rfl (S1) ?_|refine callN_funS rfl (Q1) ?_|refine callN_funS rfl (A1) ?_|refine callN_funS rfl (K1) ?_))|(refine callPreL ?_;(first|refine callL_funS rfl (b1) ?_|refine callL_funS rfl (V1) ?_|refine callL_funS rfl (C1) ?_|refine callL_funS rfl (C2) ?_|refine callL_funS rfl (C3) ?_|refine callL_funS rfl (S1) ?_|refine callL_funS rfl (Q1) ?_|refine callL_funS rfl (A1) ?_|refine callL_funS rfl (K1) ?_))|refine aw_condT rfl ?_|refine aw_condF rfl ?_))
   cases e
   ·(repeat (first|refine walkS ?_|(refine callPre ?_;(first|refine callN_funS rfl (b1) ?_|refine callN_funS rfl (V1) ?_|refine callN_funS rfl (C1) ?_|refine callN_funS rfl (C2) ?_|refine callN_funS rfl (C3) ?_|refine callN_funS rfl (S1) ?_|refine callN_funS rfl (Q1) ?_|refine callN_funS rfl (A1) ?_|refine callN_funS rfl (K1) ?_))|(refine callPreL ?_;(first|refine callL_funS rfl (b1) ?_|refine callL_funS rfl (V1) ?_|refine callL_funS rfl (C1) ?_|refine callL_funS rfl (C2) ?_|refine callL_funS rfl (C3) ?_|refine callL_funS rfl (S1) ?_|refine callL_funS rfl (Q1) ?_|refine callL_funS rfl (A1) ?_|refine callL_funS rfl (K1) ?_))|refine aw_condT rfl ?_|refine aw_condF rfl ?_))
    (refine rtS Tryz.results4 ?_;exact ⟨_,_,.inl ⟨rfl,rfl⟩,List.nodup_nil,rfl⟩)
   ·(repeat (first|refine walkS ?_|(refine callPre ?_;(first|refine callN_funS rfl (b1) ?_|refine callN_funS rfl (V1) ?_|refine callN_funS rfl (C1) ?_|refine callN_funS rfl (C2) ?_|refine callN_funS rfl (C3) ?_|refine callN_funS rfl (S1) ?_|refine callN_funS rfl (Q1) ?_|refine callN_funS rfl (A1) ?_|refine callN_funS rfl (K1) ?_))|(refine callPreL ?_;(first|refine callL_funS rfl (b1) ?_|refine callL_funS rfl (V1) ?_|refine callL_funS rfl (C1) ?_|refine callL_funS rfl (C2) ?_|refine callL_funS rfl (C3) ?_|refine callL_funS rfl (S1) ?_|refine callL_funS rfl (Q1) ?_|refine callL_funS rfl (A1) ?_|refine callL_funS rfl (K1) ?_))|refine aw_condT rfl ?_|refine aw_condF rfl ?_))
    (refine rtS Tryz.results4 ?_;exact ⟨_,_,.inl ⟨rfl,rfl⟩,List.nodup_nil,rfl⟩)
 | true=>
  have hw:e=true→w=true:=fun h=>hbin h rfl
  cases fine with
  | false=>
   simp only [Bool.and_self,Bool.and_true,Bool.true_and,Bool.and_false,Bool.false_and] at S1
   refine cbS Tryz.func4 rfl Tryz.call4 Tryz.ntmps4 fun en hsz hks hk0=>?_;refine enS ?_
   (repeat (first|refine walkS ?_|(refine callPre ?_;(first|refine callN_funS rfl (b1) ?_|refine callN_funS rfl (V1) ?_|refine callN_funS rfl (C1) ?_|refine callN_funS rfl (C2) ?_|refine callN_funS rfl (C3) ?_|refine callN_funS rfl (S1) ?_|refine callN_funS rfl (Q1) ?_|refine callN_funS rfl (A1) ?_|refine callN_funS rfl (K1) ?_))|(refine callPreL ?_;(first|refine callL_funS rfl (b1) ?_|refine callL_funS rfl (V1) ?_|refine callL_funS rfl (C1) ?_|refine callL_funS rfl (C2) ?_|refine callL_funS rfl (C3) ?_|refine callL_funS rfl (S1) ?_|refine callL_funS rfl (Q1) ?_|refine callL_funS rfl (A1) ?_|refine callL_funS rfl (K1) ?_))|refine aw_condT rfl ?_|refine aw_condF rfl ?_))
   cases e
   ·(repeat (first|refine walkS ?_|(refine callPre ?_;(first|refine callN_funS rfl (b1) ?_|refine callN_funS rfl (V1) ?_|refine callN_funS rfl (C1) ?_|refine callN_funS rfl (C2) ?_|refine callN_funS rfl (C3) ?_|refine callN_funS rfl (S1) ?_|refine callN_funS rfl (Q1) ?_|refine callN_funS rfl (A1) ?_|refine callN_funS rfl (K1) ?_))|(refine callPreL ?_;(first|refine callL_funS rfl (b1) ?_|refine callL_funS rfl (V1) ?_|refine callL_funS rfl (C1) ?_|refine callL_funS rfl (C2) ?_|refine callL_funS rfl (C3) ?_|refine callL_funS rfl (S1) ?_|refine callL_funS rfl (Q1) ?_|refine callL_funS rfl (A1) ?_|refine callL_funS rfl (K1) ?_))|refine aw_condT rfl ?_|refine aw_condF rfl ?_))
    (refine rtS Tryz.results4 ?_;exact ⟨_,_,.inl ⟨rfl,rfl⟩,List.nodup_nil,rfl⟩)
   ·obtain rfl:=hw rfl
    (repeat (first|refine walkS ?_|(refine callPre ?_;(first|refine callN_funS rfl (b1) ?_|refine callN_funS rfl (V1) ?_|refine callN_funS rfl (C1) ?_|refine callN_funS rfl (C2) ?_|refine callN_funS rfl (C3) ?_|refine callN_funS rfl (S1) ?_|refine callN_funS rfl (Q1) ?_|refine callN_funS rfl (A1) ?_|refine callN_funS rfl (K1) ?_))|(refine callPreL ?_;(first|refine callL_funS rfl (b1) ?_|refine callL_funS rfl (V1) ?_|refine callL_funS rfl (C1) ?_|refine callL_funS rfl (C2) ?_|refine callL_funS rfl (C3) ?_|refine callL_funS rfl (S1) ?_|refine callL_funS rfl (Q1) ?_|refine callL_funS rfl (A1) ?_|refine callL_funS rfl (K1) ?_))|refine aw_condT rfl ?_|refine aw_condF rfl ?_))
    (refine rtS Tryz.results4 ?_;exact ⟨_,_,.inl ⟨rfl,rfl⟩,List.nodup_nil,rfl⟩)
  | true=>
   cases q with
   | false=>
    simp only [Bool.and_self,Bool.and_true,Bool.true_and,Bool.and_false,Bool.false_and] at S1
    refine cbS Tryz.func4 rfl Tryz.call4 Tryz.ntmps4 fun en hsz hks hk0=>?_;refine enS ?_
    (repeat (first|refine walkS ?_|(refine callPre ?_;(first|refine callN_funS rfl (b1) ?_|refine callN_funS rfl (V1) ?_|refine callN_funS rfl (C1) ?_|refine callN_funS rfl (C2) ?_|refine callN_funS rfl (C3) ?_|refine callN_funS rfl (S1) ?_|refine callN_funS rfl (Q1) ?_|refine callN_funS rfl (A1) ?_|refine callN_funS rfl (K1) ?_))|(refine callPreL ?_;(first|refine callL_funS rfl (b1) ?_|refine callL_funS rfl (V1) ?_|refine callL_funS rfl (C1) ?_|refine callL_funS rfl (C2) ?_|refine callL_funS rfl (C3) ?_|refine callL_funS rfl (S1) ?_|refine callL_funS rfl (Q1) ?_|refine callL_funS rfl (A1) ?_|refine callL_funS rfl (K1) ?_))|refine aw_condT rfl ?_|refine aw_condF rfl ?_))
    cases e
    ·(repeat (first|refine walkS ?_|(refine callPre ?_;(first|refine callN_funS rfl (b1) ?_|refine callN_funS rfl (V1) ?_|refine callN_funS rfl (C1) ?_|refine callN_funS rfl (C2) ?_|refine callN_funS rfl (C3) ?_|refine callN_funS rfl (S1) ?_|refine callN_funS rfl (Q1) ?_|refine callN_funS rfl (A1) ?_|refine callN_funS rfl (K1) ?_))|(refine callPreL ?_;(first|refine callL_funS rfl (b1) ?_|refine callL_funS rfl (V1) ?_|refine callL_funS rfl (C1) ?_|refine callL_funS rfl (C2) ?_|refine callL_funS rfl (C3) ?_|refine callL_funS rfl (S1) ?_|refine callL_funS rfl (Q1) ?_|refine callL_funS rfl (A1) ?_|refine callL_funS rfl (K1) ?_))|refine aw_condT rfl ?_|refine aw_condF rfl ?_))
     (refine rtS Tryz.results4 ?_;exact ⟨_,_,.inl ⟨rfl,rfl⟩,List.nodup_nil,rfl⟩)
    ·obtain rfl:=hw rfl
     (repeat (first|refine walkS ?_|(refine callPre ?_;(first|refine callN_funS rfl (b1) ?_|refine callN_funS rfl (V1) ?_|refine callN_funS rfl (C1) ?_|refine callN_funS rfl (C2) ?_|refine callN_funS rfl (C3) ?_|refine callN_funS rfl (S1) ?_|refine callN_funS rfl (Q1) ?_|refine callN_funS rfl (A1) ?_|refine callN_funS rfl (K1) ?_))|(refine callPreL ?_;(first|refine callL_funS rfl (b1) ?_|refine callL_funS rfl (V1) ?_|refine callL_funS rfl (C1) ?_|refine callL_funS rfl (C2) ?_|refine callL_funS rfl (C3) ?_|refine callL_funS rfl (S1) ?_|refine callL_funS rfl (Q1) ?_|refine callL_funS rfl (A1) ?_|refine callL_funS rfl (K1) ?_))|refine aw_condT rfl ?_|refine aw_condF rfl ?_))
     (refine rtS Tryz.results4 ?_;exact ⟨_,_,.inl ⟨rfl,rfl⟩,List.nodup_nil,rfl⟩)
   | true=>
    simp only [Bool.and_self,Bool.and_true,Bool.true_and,Bool.and_false,Bool.false_and] at S1
    refine cbS Tryz.func4 rfl Tryz.call4 Tryz.ntmps4 fun en hsz hks hk0=>?_;refine enS ?_
    (repeat (first|refine walkS ?_|(refine callPre ?_;(first|refine callN_funS rfl (b1) ?_|refine callN_funS rfl (V1) ?_|refine callN_funS rfl (C1) ?_|refine callN_funS rfl (C2) ?_|refine callN_funS rfl (C3) ?_|refine callN_funS rfl (S1) ?_|refine callN_funS rfl (Q1) ?_|refine callN_funS rfl (A1) ?_|refine callN_funS rfl (K1) ?_))|(refine callPreL ?_;(first|refine callL_funS rfl (b1) ?_|refine callL_funS rfl (V1) ?_|refine callL_funS rfl (C1) ?_|refine callL_funS rfl (C2) ?_|refine callL_funS rfl (C3) ?_|refine callL_funS rfl (S1) ?_|refine callL_funS rfl (Q1) ?_|refine callL_funS rfl (A1) ?_|refine callL_funS rfl (K1) ?_))|refine aw_condT rfl ?_|refine aw_condF rfl ?_))
    cases e
    ·(repeat (first|refine walkS ?_|(refine callPre ?_;(first|refine callN_funS rfl (b1) ?_|refine callN_funS rfl (V1) ?_|refine callN_funS rfl (C1) ?_|refine callN_funS rfl (C2) ?_|refine callN_funS rfl (C3) ?_|refine callN_funS rfl (S1) ?_|refine callN_funS rfl (Q1) ?_|refine callN_funS rfl (A1) ?_|refine callN_funS rfl (K1) ?_))|(refine callPreL ?_;(first|refine callL_funS rfl (b1) ?_|refine callL_funS rfl (V1) ?_|refine callL_funS rfl (C1) ?_|refine callL_funS rfl (C2) ?_|refine callL_funS rfl (C3) ?_|refine callL_funS rfl (S1) ?_|refine callL_funS rfl (Q1) ?_|refine callL_funS rfl (A1) ?_|refine callL_funS rfl (K1) ?_))|refine aw_condT rfl ?_|refine aw_condF rfl ?_))
     (refine rtS Tryz.results4 ?_;exact ⟨_,_,.inl ⟨rfl,rfl⟩,List.nodup_nil,rfl⟩)
    ·obtain rfl:=hw rfl
     (repeat (first|refine walkS ?_|(refine callPre ?_;(first|refine callN_funS rfl (b1) ?_|refine callN_funS rfl (V1) ?_|refine callN_funS rfl (C1) ?_|refine callN_funS rfl (C2) ?_|refine callN_funS rfl (C3) ?_|refine callN_funS rfl (S1) ?_|refine callN_funS rfl (Q1) ?_|refine callN_funS rfl (A1) ?_|refine callN_funS rfl (K1) ?_))|(refine callPreL ?_;(first|refine callL_funS rfl (b1) ?_|refine callL_funS rfl (V1) ?_|refine callL_funS rfl (C1) ?_|refine callL_funS rfl (C2) ?_|refine callL_funS rfl (C3) ?_|refine callL_funS rfl (S1) ?_|refine callL_funS rfl (Q1) ?_|refine callL_funS rfl (A1) ?_|refine callL_funS rfl (K1) ?_))|refine aw_condT rfl ?_|refine aw_condF rfl ?_))
     (refine rtS Tryz.results4 ?_;exact ⟨_,_,.inl ⟨rfl,rfl⟩,List.nodup_nil,rfl⟩)
end Go.Proofs.YtodkkldopciagaaGreatDoor.Eng
