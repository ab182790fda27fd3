/-
 Least sizes, the reference: l7Mins, MinSize, MissingAtLeast.
-/
import Derived.Test.YtomfggmmhkpeeaaDoorKN82
set_option linter.unusedSimpArgs false
set_option linter.unusedVariables false
set_option linter.defProp false
set_option maxRecDepth 100000
set_option maxHeartbeats 4000000
namespace Go.Proofs.YtomfggmmhkpeeaaDoor.Eng
open Go Go.RowKit

theorem sumK_take {ts ks:List Int}{j:Nat} (h:j<ks.length):sumK ts (ks.take (j+1))=sumK ts (ks.take j)+atT ts ks[j]:=by
 unfold sumK
 rw [List.take_succ_eq_append_getElem h,List.map_append,List.foldl_append]
 rfl
theorem altK_drop {ts:List Int}{a:Int}{ks:List Int}{j:Nat} (h2:2≤j) (h:j<ks.length):altK ts a ((ks.take (j+1)).drop 2)=minF (altK ts a ((ks.take j).drop 2)) (atT ts ks[j]):=by
 unfold altK
 rw [List.take_succ_eq_append_getElem h,List.drop_append_of_le_length (by rw [List.length_take];omega),List.map_append,List.foldl_append,minF_eq]
 rfl
private def tyF:=ai (ai (ai tg39 tg26) (ai tg28 (ai tg40 tg30))) (ai (ai tg42 tg3) (ai tg4 (ai tg5 tg9)))
theorem minSz_c (a b:Int):AC Tryd.prog 56 [.d (iD a),.d (iD b)] none (fun r' _=>r'=.d (iD (minF a b))):=by
 refine cbS Tryd.func56 rfl Tryd.call56 Tryd.ntmps56 fun en hsz hks hk0=>?_;refine enS ?_
 refine walkS ?_
 refine aw_condS rfl (fun h=>?_) (fun h=>?_)
 ·refine walkS ?_
  (refine rtS Tryd.results56 ?_;exact ⟨_,_,.inl ⟨rfl,rfl⟩,List.nodup_nil,by rw [minF,if_pos h]⟩)
 ·refine walkS ?_
  (refine rtS Tryd.results56 ?_;exact ⟨_,_,.inl ⟨rfl,rfl⟩,List.nodup_nil,by rw [minF,if_neg h]⟩)
section
variable {D:List RuleD}{M:Nat}
abbrev ownN (x:List Int):Rz:=.own 3 1 (x.map fun c=>[iD c])
theorem minsS_c (hD:DB M D) (hM:M≤1048576) (hV:descP D) (h24:D.length≤24):AC Tryd.prog 36 [.d (encD D)] none (fun r' _=>r'=ownN (minS D D.length)):=by
 have hDl:=hD.len
 refine cbS Tryd.func36 rfl Tryd.call36 Tryd.ntmps36 fun en hsz hks hk0=>?_;refine enS ?_
 refine walkS ?_
 refine aw_loopS [1,2] (fun κ s'=>[(κ,keyOf (s'.f 3))]) (fun κ x=>[(4,.d (iD (x.1:Nat))),(3,.own κ 3 1 (x.2.map fun c=>[iD c]))]) [] (fun _ _=>[]) [32] (fun κ x=>[(κ,some (x.2.length,3,1))]) (fun x:Nat × List Int=>x.1≤D.length∧x.2=minS D x.1) (fun x=>D.length - x.1) ((0,[])) hks (fun _=>rfl) ⟨Nat.zero_le _,rfl⟩ wkS ?_;intro x hx;refine headS ?_
 obtain ⟨i,acc⟩:=x
 simp only at hx ⊢
 obtain ⟨hx1,rfl⟩:=hx
 refine walkS ?_
 refine aw_condS rfl (fun hj=>?_) (fun hj=>?_)
 ·have hx':i<D.length:=by omega
  obtain ⟨r,hr⟩:∃ r,D[i]?=some r:=⟨_,List.getElem?_eq_getElem hx'⟩
  have G:GoodR D i r:=good_of hV hr
  obtain ⟨kd1,kd2⟩:=G.kd
  have hrb:=hD.rule r (List.mem_of_getElem? hr)
  have hrD:=ruleD_get hr
  have hlk:=hrb.lk
  have hlb:=hrb.lb
  have hlen:=minS_len D i
  have hgo:∀ n,minN (minS D i) r=n→minS D i++[minF 401 n]=minS D (i+1):=fun n hn=>by
   rw [minS,hrD,hn,minF_eq,Int.min_comm]
  have hin:=minS_in hV i (by omega)
  have hs1:r.kind=1∨r.kind=3→0≤r.size∧r.size≤64:=fun h=>by
   rcases h with h|h
   ·have:=G.k1 h;omega
   ·have:=G.k3 h;omega
  have hkin:∀ k∈r.kids,0≤k∧k<(minS D i).length:=fun k hk=>by
   obtain ⟨j,hj,rfl⟩:=List.getElem_of_mem hk
   rw [minS_len]
   exact G.kid j hj
  have hat:∀ k∈r.kids,0≤k∧(minS D i)[k.toNat]?=some (atT (minS D i) k):=fun k hk=>by
   have h1:=hkin k hk
   have:k.toNat<(minS D i).length:=by omega
   exact ⟨h1.1,by simp [this,atT,List.getD]⟩
  have k12:r.kind=1∨r.kind=2∨r.kind=3∨r.kind=4∨r.kind=5∨r.kind=6∨r.kind=7∨r.kind=8∨r.kind=9∨r.kind=10:=by omega
  refine aw_skip ?_
  dsimp only
  refine aw_hide fun K' hK'=>?_
  refine walkS ?_
  rcases k12 with hk|hk|hk|hk|hk|hk|hk|hk|hk|hk
  ·have hn:=hgo r.size (by simp [minN,hk])
   have hsz1:=hs1 (by omega)
   simp only [hk]
   (repeat (first|refine walkS ?_|refine aw_condT rfl ?_|refine aw_condF rfl ?_))
   (repeat (first|refine walkS ?_|refine cS (minSz_c 401 r.size) ?_|refine aw_condT rfl ?_|refine aw_condF rfl ?_))
   subst hK'
   dsimp only
   refine ⟨(i+1,minS D i++[minF 401 r.size]),⟨by simp only;omega,hn⟩,by simp only;omega,?_⟩
   exact wkS
  ·have hn:=hgo r.bytes.length (by simp [minN,hk])
   simp only [hk]
   (repeat (first|refine walkS ?_|refine aw_condT rfl ?_|refine aw_condF rfl ?_))
   (repeat (first|refine walkS ?_|refine cS (minSz_c 401 r.bytes.length) ?_|refine aw_condT rfl ?_|refine aw_condF rfl ?_))
   subst hK'
   dsimp only
   refine ⟨(i+1,minS D i++[minF 401 r.bytes.length]),⟨by simp only;omega,hn⟩,by simp only;omega,?_⟩
   exact wkS
  ·have hn:=hgo r.size (by simp [minN,hk])
   have hsz1:=hs1 (by omega)
   simp only [hk]
   (repeat (first|refine walkS ?_|refine aw_condT rfl ?_|refine aw_condF rfl ?_))
   (repeat (first|refine walkS ?_|refine cS (minSz_c 401 r.size) ?_|refine aw_condT rfl ?_|refine aw_condF rfl ?_))
   subst hK'
   dsimp only
   refine ⟨(i+1,minS D i++[minF 401 r.size]),⟨by simp only;omega,hn⟩,by simp only;omega,?_⟩
   exact wkS
  ·have hn:=hgo (atT (minS D i) (kid0 r)) (by simp [minN,hk])
   obtain ⟨g1,-⟩:=G.k4 hk
   have i0:=kids0 (r:=r) (by omega)
   obtain ⟨h0,hat0⟩:=hat _ (List.mem_of_getElem? i0)
   simp only [hk]
   (repeat (first|refine walkS ?_|refine aw_condT rfl ?_|refine aw_condF rfl ?_))
   (repeat (first|refine walkS ?_|refine cS (minSz_c 401 (atT (minS D i) (kid0 r))) ?_|refine aw_condT rfl ?_|refine aw_condF rfl ?_))
   subst hK'
   dsimp only
   refine ⟨(i+1,minS D i++[minF 401 (atT (minS D i) (kid0 r))]),⟨by simp only;omega,hn⟩,by simp only;omega,?_⟩
   exact wkS
  ·have hn:=hgo (atT (minS D i) (kid0 r)) (by simp [minN,hk])
   obtain ⟨g1,-⟩:=G.k5 hk
   have i0:=kids0 (r:=r) (by omega)
   obtain ⟨h0,hat0⟩:=hat _ (List.mem_of_getElem? i0)
   simp only [hk]
   (repeat (first|refine walkS ?_|refine aw_condT rfl ?_|refine aw_condF rfl ?_))
   (repeat (first|refine walkS ?_|refine cS (minSz_c 401 (atT (minS D i) (kid0 r))) ?_|refine aw_condT rfl ?_|refine aw_condF rfl ?_))
   subst hK'
   dsimp only
   refine ⟨(i+1,minS D i++[minF 401 (atT (minS D i) (kid0 r))]),⟨by simp only;omega,hn⟩,by simp only;omega,?_⟩
   exact wkS
  ·have hn:=hgo (sumK (minS D i) r.kids) (by simp [minN,hk])
   have g6:=G.k6 hk
   simp only [hk]
   (repeat (first|refine walkS ?_|refine aw_condT rfl ?_|refine aw_condF rfl ?_))
   refine aw_loopS [2,3,4,5,23] (fun _ _=>[]) (fun _ z=>[(7,.d (iD (z.1:Nat))),(6,.d (iD z.2)),(1,.ptr 16 0)]) [] (fun _ _=>[]) [] (fun _ _=>[]) (fun z:Nat × Int=>z.1≤r.kids.length∧z.2=sumK (minS D i) (r.kids.take z.1)∧0≤z.2∧z.2≤401*z.1) (fun z=>r.kids.length - z.1) ((0,0)) hks (fun _=>rfl) ⟨Nat.zero_le _,rfl,by omega,by omega⟩ wkS ?_;intro x hx;refine headS ?_
   obtain ⟨j,n⟩:=x
   simp only at hx ⊢
   obtain ⟨hx1,hx2,hx3,hx4⟩:=hx
   refine walkS ?_
   refine aw_condS rfl (fun hj=>?_) (fun hj=>?_)
   ·have hjl:j<r.kids.length:=by omega
    have i1:r.kids[j]?=some r.kids[j]:=List.getElem?_eq_getElem hjl
    have hs:=sumK_take (ts:=minS D i) hjl
    obtain ⟨g1,g2⟩:=hat r.kids[j] (List.getElem_mem hjl)
    have b1:=atT_in hin r.kids[j]
    generalize r.kids[j]=kd at *
    refine walkS ?_
    refine ⟨(j+1,n+atT (minS D i) kd),⟨by simp only;omega,by simp only;rw [hs,hx2],by simp only;omega,by simp only;omega⟩,by simp only;omega,?_⟩
    exact wkS
   ·rw [List.take_of_length_le (by omega)] at hx2
    (repeat (first|refine walkS ?_|refine cS (minSz_c 401 n) ?_|refine aw_condT rfl ?_|refine aw_condF rfl ?_))
    subst hK' hx2
    dsimp only
    refine ⟨(i+1,minS D i++[minF 401 (sumK (minS D i) r.kids)]),⟨by simp only;omega,hn⟩,by simp only;omega,?_⟩
    exact wkS
  ·have gk:=G.k7 hk
   have h2k:=kids7 hV hr hk
   have hn:=hgo (altK (minS D i) (atT (minS D i) (kid1 r)) (r.kids.drop 2)+atT (minS D i) (kid0 r)) (by rw [Int.add_comm];simp [minN,hk])
   have i0:=kids0 (r:=r) (by omega)
   obtain ⟨h0,hat0⟩:=hat _ (List.mem_of_getElem? i0)
   have i1:=kids1 (r:=r) (by omega)
   obtain ⟨h1,hat1⟩:=hat _ (List.mem_of_getElem? i1)
   have b0:=atT_in hin (kid0 r)
   have b1:=atT_in hin (kid1 r)
   have hd2:(r.kids.take 2).drop 2=[]:=List.drop_of_length_le (by rw [List.length_take];omega)
   simp only [hk]
   (repeat (first|refine walkS ?_|refine aw_condT rfl ?_|refine aw_condF rfl ?_))
   refine aw_loopS [2,3,4,5,23] (fun _ _=>[]) (fun _ z=>[(8,.d (iD (z.1:Nat))),(6,.d (iD z.2)),(1,.ptr 16 0)]) [] (fun _ _=>[]) [] (fun _ _=>[]) (fun z:Nat × Int=>(2≤z.1∧z.1≤r.kids.length)∧z.2=altK (minS D i) (atT (minS D i) (kid1 r)) ((r.kids.take z.1).drop 2)) (fun z=>r.kids.length - z.1) ((2,atT (minS D i) (kid1 r))) hks (fun _=>rfl) ⟨⟨Nat.le_refl _,h2k⟩,by simp only [hd2];rfl⟩ wkS ?_;intro x hx;refine headS ?_
   obtain ⟨j,n⟩:=x
   simp only at hx ⊢
   obtain ⟨⟨hx0,hx1⟩,hx2⟩:=hx
   refine walkS ?_
   refine aw_condS rfl (fun hj=>?_) (fun hj=>?_)
   ·have hjl:j<r.kids.length:=by omega
    have i2:r.kids[j]?=some r.kids[j]:=List.getElem?_eq_getElem hjl
    have hs:=altK_drop (ts:=minS D i) (a:=atT (minS D i) (kid1 r)) hx0 hjl
    obtain ⟨g1,g2⟩:=hat r.kids[j] (List.getElem_mem hjl)
    generalize r.kids[j]=kd at *
    (repeat (first|refine walkS ?_|refine cS (minSz_c n (atT (minS D i) kd)) ?_))
    refine ⟨(j+1,minF n (atT (minS D i) kd)),⟨⟨by simp only;omega,by simp only;omega⟩,by simp only;rw [hs,hx2]⟩,by simp only;omega,?_⟩
    exact wkS
   ·rw [List.take_of_length_le (by omega)] at hx2
    have b2:=altK_in hin (r.kids.drop 2) _ b1
    rw [←hx2] at b2
    (repeat (first|refine walkS ?_|refine cS (minSz_c 401 (n+atT (minS D i) (kid0 r))) ?_|refine aw_condT rfl ?_|refine aw_condF rfl ?_))
    subst hK' hx2
    dsimp only
    refine ⟨(i+1,minS D i++[minF 401 (altK (minS D i) (atT (minS D i) (kid1 r)) (r.kids.drop 2)+atT (minS D i) (kid0 r))]),⟨by simp only;omega,hn⟩,by simp only;omega,?_⟩
    exact wkS
  ·have hn:=hgo 1 (by simp [minN,hk])
   simp only [hk]
   (repeat (first|refine walkS ?_|refine aw_condT rfl ?_|refine aw_condF rfl ?_))
   (repeat (first|refine walkS ?_|refine cS (minSz_c 401 1) ?_|refine aw_condT rfl ?_|refine aw_condF rfl ?_))
   subst hK'
   dsimp only
   refine ⟨(i+1,minS D i++[minF 401 1]),⟨by simp only;omega,hn⟩,by simp only;omega,?_⟩
   exact wkS
  ·have hn:=hgo (atT (minS D i) (kid0 r)+1) (by simp [minN,hk])
   have g1:=G.k9 hk
   have i0:=kids0 (r:=r) (by omega)
   obtain ⟨h0,hat0⟩:=hat _ (List.mem_of_getElem? i0)
   have b1:=atT_in hin (kid0 r)
   simp only [hk]
   (repeat (first|refine walkS ?_|refine aw_condT rfl ?_|refine aw_condF rfl ?_))
   (repeat (first|refine walkS ?_|refine cS (minSz_c 401 (atT (minS D i) (kid0 r)+1)) ?_|refine aw_condT rfl ?_|refine aw_condF rfl ?_))
   subst hK'
   dsimp only
   refine ⟨(i+1,minS D i++[minF 401 (atT (minS D i) (kid0 r)+1)]),⟨by simp only;omega,hn⟩,by simp only;omega,?_⟩
   exact wkS
  ·have hn:=hgo 1 (by simp [minN,hk])
   simp only [hk]
   (repeat (first|refine walkS ?_|refine aw_condT rfl ?_|refine aw_condF rfl ?_))
   (repeat (first|refine walkS ?_|refine cS (minSz_c 401 1) ?_|refine aw_condT rfl ?_|refine aw_condF rfl ?_))
   subst hK'
   dsimp only
   refine ⟨(i+1,minS D i++[minF 401 1]),⟨by simp only;omega,hn⟩,by simp only;omega,?_⟩
   exact wkS
 ·obtain rfl:i=D.length:=by omega
  refine walkS ?_
  (refine rtS Tryd.results36 ?_;exact ⟨_,_,.inl (toZ_own (by simp [lk,St.mem])),by simp,rfl⟩)
end
end Go.Proofs.YtomfggmmhkpeeaaDoor.Eng
