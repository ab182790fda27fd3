/-
 Greatest sizes, the reference: the table of all rules.
-/
import Derived.Test.YtomfggmmhkpeeaaDoorKN83
import Derived.Test.YtomfggmmhkpeeaaDoorKNSZ
import Derived.Test.YtomfggmmhkpeeaaDoorKN89
set_option linter.unusedSimpArgs false
set_option linter.unusedVariables false
set_option linter.defProp false
set_option maxRecDepth 100000
set_option maxHeartbeats 4000000
namespace Go.Proofs.YtomfggmmhkpeeaaDoor.Eng
open Go Go.RowKit

theorem grS_in {D:List RuleD} (hV:descP D) (n:Nat) (hn:n≤D.length):inT (grS D n):=fun x hx=>by
 rw [grS_cut hV n hn] at hx
 unfold cutT at hx
 obtain ⟨y,hy,rfl⟩:=List.mem_map.1 hx
 have:=grI_in hV n hn y hy
 omega
theorem topK_drop {ts:List Int}{a:Int}{ks:List Int}{j:Nat} (h2:1≤j) (h:j<ks.length):topK ts a ((ks.take (j+1)).drop 1)=maxF (topK ts a ((ks.take j).drop 1)) (atT ts ks[j]):=by
 unfold topK
 rw [List.take_succ_eq_append_getElem h,List.drop_append_of_le_length (by rw [List.length_take];omega),List.map_append,List.foldl_append,maxF_eq]
 rfl
theorem topK_1 {ts:List Int} (hin:inT ts) {r:RuleD} (h:1<r.kids.length):topK ts 0 (r.kids.drop 1)=topK ts (atT ts (kid1 r)) (r.kids.drop 2):=by
 have i1:=kids1 (r:=r) h
 rw [List.getElem?_eq_getElem h] at i1
 rw [List.drop_eq_getElem_cons h,Option.some.inj i1]
 have:=(atT_in hin (kid1 r)).1
 show topK ts (max 0 (atT ts (kid1 r))) _=_
 rw [show max 0 (atT ts (kid1 r))=atT ts (kid1 r) by omega]
section
variable {D:List RuleD}{M:Nat}
private def tyF:=ai (ai (ai tg39 tg26) (ai tg28 (ai tg40 tg30))) (ai (ai tg42 tg3) (ai tg4 (ai tg5 tg9)))
theorem maxsS_t (hD:DB M D) (hM:M≤1048576) (hV:descP D) (h24:D.length≤24):AC Tryd.prog 37 [.d (encD D)] none (fun r' _=>r'=ownN (grS D D.length)):=by
 have hDl:=hD.len
 refine cbS Tryd.func37 rfl Tryd.call37 Tryd.ntmps37 fun en hsz hks hk0=>?_;refine enS ?_
 refine walkS ?_
 refine aw_loopS [1,2] (fun κ s'=>[(κ,keyOf (s'.f 3))]) (fun κ x=>[(4,.d (iD (x.1:Nat))),(3,.own κ 3 1 (x.2.map fun c=>[iD c]))]) [] (fun _ _=>[]) [32] (fun κ x=>[(κ,some (x.2.length,3,1))]) (fun x:Nat × List Int=>x.1≤D.length∧x.2=grS D x.1) (fun x=>D.length - x.1) ((0,[])) hks (fun _=>rfl) ⟨Nat.zero_le _,rfl⟩ wkS ?_;intro x hx;refine headS ?_
 obtain ⟨i,acc⟩:=x
 simp only at hx ⊢
 obtain ⟨hx1,rfl⟩:=hx
 refine walkS ?_
 refine aw_condS rfl (fun hj=>?_) (fun hj=>?_)
 ·have hx':i<D.length:=by omega
  obtain ⟨r,hr⟩:∃ r,D[i]?=some r:=⟨_,List.getElem?_eq_getElem hx'⟩
  have G:GoodR D i r:=good_of hV hr
  obtain ⟨kd1,kd2⟩:=G.kd
  have hrb:=hD.rule r (List.mem_of_getElem? hr)
  have hrD:=ruleD_get hr
  have hlk:=hrb.lk
  have hlb:=hrb.lb
  have hlen:=grS_len D i
  have hgo:∀ n,grN (grS D i) r (min 400 (limD D (kid0 r)))=n→grS D i++[minF 400 n]=grS D (i+1):=fun n hn=>by
   rw [grS,hrD,hn,minF_eq,Int.min_comm]
  have hin:=grS_in hV i (by omega)
  have hs1:r.kind=1∨r.kind=3→0≤r.size∧r.size≤64:=fun h=>by
   rcases h with h|h
   ·have:=G.k1 h;omega
   ·have:=G.k3 h;omega
  have hkin:∀ k∈r.kids,0≤k∧k<(grS D i).length:=fun k hk=>by
   obtain ⟨j,hj,rfl⟩:=List.getElem_of_mem hk
   rw [grS_len]
   exact G.kid j hj
  have hat:∀ k∈r.kids,0≤k∧(grS D i)[k.toNat]?=some (atT (grS D i) k):=fun k hk=>by
   have h1:=hkin k hk
   have:k.toNat<(grS D i).length:=by omega
   exact ⟨h1.1,by simp [this,atT,List.getD]⟩
  have k12:r.kind=1∨r.kind=2∨r.kind=3∨r.kind=4∨r.kind=5∨r.kind=6∨r.kind=7∨r.kind=8∨r.kind=9∨r.kind=10:=by omega
  refine aw_skip ?_
  dsimp only
  refine aw_hide fun K' hK'=>?_
  refine walkS ?_
  rcases k12 with hk|hk|hk|hk|hk|hk|hk|hk|hk|hk
  ·have hn:=hgo r.size (by simp [grN,hk])
   have hsz1:=hs1 (by omega)
   simp only [hk]
   (repeat (first|refine walkS ?_|refine aw_condT rfl ?_|refine aw_condF rfl ?_))
   (repeat (first|refine walkS ?_|refine cS (minSz_c 400 r.size) ?_|refine aw_condT rfl ?_|refine aw_condF rfl ?_))
   subst hK'
   dsimp only
   refine ⟨(i+1,grS D i++[minF 400 r.size]),⟨by simp only;omega,hn⟩,by simp only;omega,?_⟩
   exact wkS
  ·have hn:=hgo r.bytes.length (by simp [grN,hk])
   simp only [hk]
   (repeat (first|refine walkS ?_|refine aw_condT rfl ?_|refine aw_condF rfl ?_))
   (repeat (first|refine walkS ?_|refine cS (minSz_c 400 r.bytes.length) ?_|refine aw_condT rfl ?_|refine aw_condF rfl ?_))
   subst hK'
   dsimp only
   refine ⟨(i+1,grS D i++[minF 400 r.bytes.length]),⟨by simp only;omega,hn⟩,by simp only;omega,?_⟩
   exact wkS
  ·have hn:=hgo r.size (by simp [grN,hk])
   have hsz1:=hs1 (by omega)
   simp only [hk]
   (repeat (first|refine walkS ?_|refine aw_condT rfl ?_|refine aw_condF rfl ?_))
   (repeat (first|refine walkS ?_|refine cS (minSz_c 400 r.size) ?_|refine aw_condT rfl ?_|refine aw_condF rfl ?_))
   subst hK'
   dsimp only
   refine ⟨(i+1,grS D i++[minF 400 r.size]),⟨by simp only;omega,hn⟩,by simp only;omega,?_⟩
   exact wkS
  ·have hn:=hgo (atT (grS D i) (kid0 r)+min 400 (limD D (kid0 r))) (by simp [grN,hk])
   obtain ⟨g1,-⟩:=G.k4 hk
   have i0:=kids0 (r:=r) (by omega)
   obtain ⟨h0,hat0⟩:=hat _ (List.mem_of_getElem? i0)
   have b0:=atT_in hin (kid0 r)
   have l2:=lim_4 hV hr hk
   have hm4:=(minSz_c 400 (limD D (kid0 r))).eqv (r1:=.d (iD (min 400 (limD D (kid0 r))))) (by rw [minF_eq])
   simp only [hk]
   (repeat (first|refine walkS ?_|refine cS (limS_c hD hM (kid0 r)) ?_|refine cS (hm4) ?_|refine aw_condT rfl ?_|refine aw_condF rfl ?_))
   (repeat (first|refine walkS ?_|refine cS (limS_c hD hM (kid0 r)) ?_|refine cS (hm4) ?_|refine cS (minSz_c 400 (atT (grS D i) (kid0 r)+min 400 (limD D (kid0 r)))) ?_|refine aw_condT rfl ?_|refine aw_condF rfl ?_))
   subst hK'
   dsimp only
   refine ⟨(i+1,grS D i++[minF 400 (atT (grS D i) (kid0 r)+min 400 (limD D (kid0 r)))]),⟨by simp only;omega,hn⟩,by simp only;omega,?_⟩
   exact wkS
  ·have hn:=hgo (atT (grS D i) (kid0 r)+40*atT (grS D i) (kid1 r)) (by simp [grN,hk])
   obtain ⟨g1,-⟩:=G.k5 hk
   have i0:=kids0 (r:=r) (by omega)
   obtain ⟨h0,hat0⟩:=hat _ (List.mem_of_getElem? i0)
   have i1:=kids1 (r:=r) (by omega)
   obtain ⟨h1,hat1⟩:=hat _ (List.mem_of_getElem? i1)
   have b0:=atT_in hin (kid0 r)
   have b1:=atT_in hin (kid1 r)
   have hm5:=(minSz_c 40 (limD D (kid0 r))).eqv (r1:=.d (iD 40)) (by rw [lim_5 hV hr hk])
   simp only [hk]
   (repeat (first|refine walkS ?_|refine cS (limS_c hD hM (kid0 r)) ?_|refine cS (hm5) ?_|refine aw_condT rfl ?_|refine aw_condF rfl ?_))
   (repeat (first|refine walkS ?_|refine cS (limS_c hD hM (kid0 r)) ?_|refine cS (hm5) ?_|refine cS (minSz_c 400 (atT (grS D i) (kid0 r)+40*atT (grS D i) (kid1 r))) ?_|refine aw_condT rfl ?_|refine aw_condF rfl ?_))
   subst hK'
   dsimp only
   refine ⟨(i+1,grS D i++[minF 400 (atT (grS D i) (kid0 r)+40*atT (grS D i) (kid1 r))]),⟨by simp only;omega,hn⟩,by simp only;omega,?_⟩
   exact wkS
  ·have hn:=hgo (sumK (grS D i) r.kids) (by simp [grN,hk])
   have g6:=G.k6 hk
   simp only [hk]
   (repeat (first|refine walkS ?_|refine aw_condT rfl ?_|refine aw_condF rfl ?_))
   refine aw_loopS [2,3,4,5,23] (fun _ _=>[]) (fun _ z=>[(7,.d (iD (z.1:Nat))),(6,.d (iD z.2)),(1,.ptr 16 0)]) [] (fun _ _=>[]) [] (fun _ _=>[]) (fun z:Nat × Int=>z.1≤r.kids.length∧z.2=sumK (grS D i) (r.kids.take z.1)∧0≤z.2∧z.2≤401*z.1) (fun z=>r.kids.length - z.1) ((0,0)) hks (fun _=>rfl) ⟨Nat.zero_le _,rfl,by omega,by omega⟩ wkS ?_;intro x hx;refine headS ?_
   obtain ⟨j,n⟩:=x
   simp only at hx ⊢
   obtain ⟨hx1,hx2,hx3,hx4⟩:=hx
   refine walkS ?_
   refine aw_condS rfl (fun hj=>?_) (fun hj=>?_)
   ·have hjl:j<r.kids.length:=by omega
    have i1:r.kids[j]?=some r.kids[j]:=List.getElem?_eq_getElem hjl
    have hs:=sumK_take (ts:=grS D i) hjl
    obtain ⟨g1,g2⟩:=hat r.kids[j] (List.getElem_mem hjl)
    have b1:=atT_in hin r.kids[j]
    generalize r.kids[j]=kd at *
    refine walkS ?_
    refine ⟨(j+1,n+atT (grS D i) kd),⟨by simp only;omega,by simp only;rw [hs,hx2],by simp only;omega,by simp only;omega⟩,by simp only;omega,?_⟩
    exact wkS
   ·rw [List.take_of_length_le (by omega)] at hx2
    (repeat (first|refine walkS ?_|refine cS (minSz_c 400 n) ?_|refine aw_condT rfl ?_|refine aw_condF rfl ?_))
    subst hK' hx2
    dsimp only
    refine ⟨(i+1,grS D i++[minF 400 (sumK (grS D i) r.kids)]),⟨by simp only;omega,hn⟩,by simp only;omega,?_⟩
    exact wkS
  ·have gk:=G.k7 hk
   have h2k:=kids7 hV hr hk
   have i0:=kids0 (r:=r) (by omega)
   obtain ⟨h0,hat0⟩:=hat _ (List.mem_of_getElem? i0)
   have b0:=atT_in hin (kid0 r)
   have hn:=hgo (topK (grS D i) 0 (r.kids.drop 1)+atT (grS D i) (kid0 r)) (by rw [topK_1 hin (by omega),Int.add_comm];simp [grN,hk])
   have hd1:(r.kids.take 1).drop 1=[]:=List.drop_of_length_le (by rw [List.length_take];omega)
   simp only [hk]
   (repeat (first|refine walkS ?_|refine aw_condT rfl ?_|refine aw_condF rfl ?_))
   refine aw_loopS [2,3,4,5,23] (fun _ _=>[]) (fun _ z=>[(8,.d (iD (z.1:Nat))),(6,.d (iD z.2)),(1,.ptr 16 0)]) [] (fun _ _=>[]) [] (fun _ _=>[]) (fun z:Nat × Int=>(1≤z.1∧z.1≤r.kids.length)∧z.2=topK (grS D i) 0 ((r.kids.take z.1).drop 1)) (fun z=>r.kids.length - z.1) ((1,0)) hks (fun _=>rfl) ⟨⟨Nat.le_refl _,by omega⟩,by simp only [hd1];rfl⟩ wkS ?_;intro x hx;refine headS ?_
   obtain ⟨j,n⟩:=x
   simp only at hx ⊢
   obtain ⟨⟨hx0,hx1⟩,hx2⟩:=hx
   refine walkS ?_
   refine aw_condS rfl (fun hj=>?_) (fun hj=>?_)
   ·have hjl:j<r.kids.length:=by omega
    have i2:r.kids[j]?=some r.kids[j]:=List.getElem?_eq_getElem hjl
    have hs:=topK_drop (ts:=grS D i) (a:=0) hx0 hjl
    obtain ⟨g1,g2⟩:=hat r.kids[j] (List.getElem_mem hjl)
    generalize r.kids[j]=kd at *
    (repeat (first|refine walkS ?_|refine cS (maxS_c n (atT (grS D i) kd)) ?_))
    refine ⟨(j+1,maxF n (atT (grS D i) kd)),⟨⟨by simp only;omega,by simp only;omega⟩,by simp only;rw [hs,hx2]⟩,by simp only;omega,?_⟩
    exact wkS
   ·rw [List.take_of_length_le (by omega)] at hx2
    have b2:=topK_in hin (r.kids.drop 1) 0 (by omega)
    rw [←hx2] at b2
    (repeat (first|refine walkS ?_|refine cS (minSz_c 400 (n+atT (grS D i) (kid0 r))) ?_|refine aw_condT rfl ?_|refine aw_condF rfl ?_))
    subst hK' hx2
    dsimp only
    refine ⟨(i+1,grS D i++[minF 400 (topK (grS D i) 0 (r.kids.drop 1)+atT (grS D i) (kid0 r))]),⟨by simp only;omega,hn⟩,by simp only;omega,?_⟩
    exact wkS
  ·have hn:=hgo (1+atT (grS D i) (kid0 r)) (by rw [Int.add_comm];simp [grN,hk])
   have g1:=G.k8 hk
   have i0:=kids0 (r:=r) (by omega)
   obtain ⟨h0,hat0⟩:=hat _ (List.mem_of_getElem? i0)
   have b1:=atT_in hin (kid0 r)
   simp only [hk]
   (repeat (first|refine walkS ?_|refine aw_condT rfl ?_|refine aw_condF rfl ?_))
   (repeat (first|refine walkS ?_|refine cS (minSz_c 400 (1+atT (grS D i) (kid0 r))) ?_|refine aw_condT rfl ?_|refine aw_condF rfl ?_))
   subst hK'
   dsimp only
   refine ⟨(i+1,grS D i++[minF 400 (1+atT (grS D i) (kid0 r))]),⟨by simp only;omega,hn⟩,by simp only;omega,?_⟩
   exact wkS
  ·have hn:=hgo (1+atT (grS D i) (kid0 r)) (by rw [Int.add_comm];simp [grN,hk])
   have g1:=G.k9 hk
   have i0:=kids0 (r:=r) (by omega)
   obtain ⟨h0,hat0⟩:=hat _ (List.mem_of_getElem? i0)
   have b1:=atT_in hin (kid0 r)
   simp only [hk]
   (repeat (first|refine walkS ?_|refine aw_condT rfl ?_|refine aw_condF rfl ?_))
   (repeat (first|refine walkS ?_|refine cS (minSz_c 400 (1+atT (grS D i) (kid0 r))) ?_|refine aw_condT rfl ?_|refine aw_condF rfl ?_))
   subst hK'
   dsimp only
   refine ⟨(i+1,grS D i++[minF 400 (1+atT (grS D i) (kid0 r))]),⟨by simp only;omega,hn⟩,by simp only;omega,?_⟩
   exact wkS
  ·have hn:=hgo 400 (by simp [grN,hk])
   simp only [hk]
   (repeat (first|refine walkS ?_|refine aw_condT rfl ?_|refine aw_condF rfl ?_))
   (repeat (first|refine walkS ?_|refine cS (minSz_c 400 400) ?_|refine aw_condT rfl ?_|refine aw_condF rfl ?_))
   subst hK'
   dsimp only
   refine ⟨(i+1,grS D i++[minF 400 400]),⟨by simp only;omega,hn⟩,by simp only;omega,?_⟩
   exact wkS
 ·obtain rfl:i=D.length:=by omega
  refine walkS ?_
  (refine rtS Tryd.results37 ?_;exact ⟨_,_,.inl (toZ_own (by simp [lk,St.mem])),by simp,rfl⟩)
end
end Go.Proofs.YtomfggmmhkpeeaaDoor.Eng
