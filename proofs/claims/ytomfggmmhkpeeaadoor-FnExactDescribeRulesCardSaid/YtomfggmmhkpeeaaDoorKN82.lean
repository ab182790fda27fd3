/-
 Least sizes, the program: the table of all rules.
-/
import Derived.Test.YtomfggmmhkpeeaaDoorKE38
import Derived.Test.YtomfggmmhkpeeaaDoorKNS
import Derived.Test.YtomfggmmhkpeeaaDoorKN38A
set_option linter.unusedSimpArgs false
set_option linter.unusedVariables false
set_option linter.defProp false
set_option maxRecDepth 100000
set_option maxHeartbeats 4000000
namespace Go.Proofs.YtomfggmmhkpeeaaDoor.Eng
open Go Go.RowKit
variable {D:List RuleD}{M:Nat}

def tabT (D:List RuleD) (n:Nat):List Int:=minS D n++List.replicate (24 - n) 0
def z24:List Value:=List.replicate 24 (.int .i64 0)
theorem tzT:tyZero Tryd.prog 59=some z24:=by kernel_rfl
theorem zrowT:z24.map (fun x=>A.d (.v x))=((tabT D 0).map iD).map A.d:=by simp [z24,tabT,minS,iD]
theorem splice_mid (a b:List A) (x y:A):splice (a++x::b) [y] a.length=a++y::b:=by simp [splice]
theorem tabT_step {k:Nat} (hk:k<24) {n:Int} (hn:minN (minS D k) (ruleD D k)=n):splice (((tabT D k).map iD).map A.d) [.d (iD (minF n 401))] k=((tabT D (k+1)).map iD).map A.d:=by
 have hl:(((minS D k).map iD).map A.d).length=k:=by rw [List.length_map,List.length_map,minS_len]
 have h1:24 - k=(24 - (k+1))+1:=by omega
 have e1:((tabT D k).map iD).map A.d=((minS D k).map iD).map A.d++.d (iD 0)::((List.replicate (24 - (k+1)) 0).map iD).map A.d:=by
  unfold tabT
  rw [h1,List.replicate_succ,List.map_append,List.map_append]
  rfl
 have e2:((tabT D (k+1)).map iD).map A.d=((minS D k).map iD).map A.d++.d (iD (minF n 401))::((List.replicate (24 - (k+1)) 0).map iD).map A.d:=by
  unfold tabT
  rw [minS,hn,minF_eq,List.append_assoc,List.map_append,List.map_append]
  rfl
 rw [e1,e2]
 have:=splice_mid (((minS D k).map iD).map A.d) (((List.replicate (24 - (k+1)) 0).map iD).map A.d) (.d (iD 0)) (.d (iD (minF n 401)))
 rwa [hl] at this
theorem tabT_len {k:Nat} (hk:k≤24):(tabT D k).length=24:=by simp [tabT,minS_len];omega
theorem mkAgg_l (l:List Eng.D) (n:Nat) (h:l.length=n):mkAgg ((l.map A.d).take n)=.d (.agg l):=by
 rw [List.take_of_length_le (by rw [List.length_map];omega)]
 cases l with
 | nil=>rfl
 | cons x l=>
  have:∀ l:List Eng.D,allD (l.map A.d)=some l:=fun l=>by
   induction l with
   | nil=>rfl
   | cons x l ih=>simp only [List.map_cons,allD,ih];rfl
  show mkAgg (A.d x::l.map A.d)=_
  have h2:=this (x::l)
  simp only [List.map_cons] at h2
  simp only [mkAgg,h2]
theorem kids7 (hV:descP D) {x:Nat}{r:RuleD} (hr:D[x]?=some r) (hk:r.kind=7):2≤r.kids.length:=by
 have hn:x<D.length:=(List.getElem?_eq_some_iff.1 hr).1
 have hrn:ruleAt D x=some r:=by simp [ruleAt,hr]
 have hp:ruleP D x r:=by
  refine Classical.byContradiction fun hq=>?_
  have:=hV.2 x hn
  rw [vRule_no hrn hq] at this
  exact Bool.noConfusion this
 obtain ⟨_,_,hkid,hk'⟩:=hp
 rw [kl_7 hk] at hk'
 simp only [Bool.and_eq_true] at hk'
 obtain ⟨h1,h2,h3⟩:=tagsP_of hk'.2
 omega
theorem splice_all {a b:List A} (h:b.length=a.length):splice a b 0=b:=by
 unfold splice
 rw [List.take_zero,List.nil_append,Nat.zero_add,List.drop_of_length_le (by omega),List.append_nil]
private def tyF:=ai (ai (ai tg59 (ai tg39 tg26)) (ai tg28 (ai tg40 tg30))) (ai (ai tg42 (ai tg3 tg4)) (ai (ai tg5 tg55) (ai tg9 tzT)))
theorem leastI_c (hD:DB M D) (hM:M≤1048576) (hV:descP D) (h24:D.length≤24):AC Tryd.prog 44 [.d (encD D)] none (fun r' _=>r'=.d (.agg ((tabT D D.length).map iD))):=by
 have hDl:=hD.len
 refine cbS Tryd.func44 rfl Tryd.call44 Tryd.ntmps44 fun en hsz hks hk0=>?_;refine enS ?_
 have hz:=zrowT (D:=D)
 (repeat (first|refine ctlS ?_|(refine ol_go ?_ (fun K1 hK1=>?_);exact trS;refine evS ?_;(try simp only [hz]);refine hK1 _ _ ?_;clear hK1 K1)|(refine ow_go ?_ dsS (fun K1 hK1=>?_);exact trS;refine evS ?_;(try simp only [hz]);refine hK1 _ ?_;clear hK1 K1)|refine skipS ?_))
 refine aw_loopS [2,3,8,9] (fun _ _=>[]) (fun _ k=>[(10,.d (iD (k:Nat)))]) [48] (fun _ k=>[(48,some (((tabT D k).map iD).map A.d))]) [] (fun _ _=>[]) (fun k=>k≤D.length) (fun k=>D.length - k) (0) hks (fun _=>rfl) (Nat.zero_le _) wkS ?_;intro x hx;refine headS ?_
 refine walkS ?_
 refine aw_condS rfl (fun hj=>?_) (fun hj=>?_)
 ·have hx':x<D.length:=by omega
  obtain ⟨r,hr⟩:∃ r,D[x]?=some r:=⟨_,List.getElem?_eq_getElem hx'⟩
  have G:GoodR D x r:=good_of hV hr
  obtain ⟨kd1,kd2⟩:=G.kd
  have hrb:=hD.rule r (List.mem_of_getElem? hr)
  have hrD:=ruleD_get hr
  have hlk:=hrb.lk
  have hlb:=hrb.lb
  have hgo:∀ n,minN (minS D x) r=n→splice (((tabT D x).map iD).map A.d) [.d (iD (minF n 401))] x=((tabT D (x+1)).map iD).map A.d:=fun n hn=>tabT_step (by omega) (by rw [hrD];exact hn)
  have hin:=minS_in hV x (by omega)
  have htl:=tabT_len (D:=D) (k:=x) (by omega)
  have hL:(((tabT D x).map iD).map A.d).length=24:=by rw [List.length_map,List.length_map,htl]
  have hs1:r.kind=1∨r.kind=3→0≤r.size∧r.size≤64:=fun h=>by
   rcases h with h|h
   ·have:=G.k1 h;omega
   ·have:=G.k3 h;omega
  have hkin:∀ k∈r.kids,0≤k∧k<(minS D x).length:=fun k hk=>by
   obtain ⟨j,hj,rfl⟩:=List.getElem_of_mem hk
   rw [minS_len]
   exact G.kid j hj
  have hat:∀ k∈r.kids,(((tabT D x).map iD).map A.d)[k.toNat]?=some (.d (iD (atT (minS D x) k))):=fun k hk=>by
   have h1:=hkin k hk
   have h2:atT (tabT D x) k=atT (minS D x) k:=atT_app h1
   rw [minS_len] at h1
   rw [←h2]
   have:k.toNat<(tabT D x).length:=by omega
   simp [this,atT,List.getD]
  have k12:r.kind=1∨r.kind=2∨r.kind=3∨r.kind=4∨r.kind=5∨r.kind=6∨r.kind=7∨r.kind=8∨r.kind=9∨r.kind=10:=by omega
  have hf:∀ k∈r.kids,0≤k∧k<24:=fun k hk=>by
   have h1:=hkin k hk
   rw [minS_len] at h1
   omega
  have hf':∀ j (hj:j<r.kids.length),0≤r.kids[j]∧r.kids[j]<24:=fun j hj=>hf _ (List.getElem_mem hj)
  have hin2:inT (tabT D x):=fun y hy=>by
   unfold tabT at hy
   rcases List.mem_append.1 hy with h|h
   ·exact hin y h
   ·rw [(List.mem_replicate.1 h).2];omega
  have eS:sumT (tabT D x) r.kids=sumK (minS D x) r.kids:=by
   unfold sumT sumK
   rw [←mapT_app (zs:=List.replicate (24 - x) 0) hkin]
   rfl
  have hA:∀ k∈r.kids,atT (tabT D x) k=atT (minS D x) k:=fun k hk=>atT_app (hkin k hk)
  have eA:∀ a,altK (tabT D x) a (r.kids.drop 2)=altK (minS D x) a (r.kids.drop 2):=fun a=>by
   unfold altK
   rw [show tabT D x=minS D x++List.replicate (24 - x) 0 from rfl,mapT_app fun k hk=>hkin k (List.mem_of_mem_drop hk)]
  refine aw_skip ?_
  dsimp only
  refine aw_hide fun K' hK'=>?_
  refine walkS ?_
  rcases k12 with hk|hk|hk|hk|hk|hk|hk|hk|hk|hk
  ·have hn:=hgo r.size (by simp [minN,hk])
   have hsz1:=hs1 (by omega)
   simp only [hk]
   (repeat (first|refine walkS ?_|refine aw_condT rfl ?_|refine aw_condF rfl ?_))
   (repeat (first|refine ctlS ?_|(refine ol_go ?_ (fun K1 hK1=>?_);exact trS;refine evS ?_;(try simp only [hn]);refine hK1 _ _ ?_;clear hK1 K1)|(refine ow_go ?_ dsS (fun K1 hK1=>?_);exact trS;refine evS ?_;(try simp only [hn]);refine hK1 _ ?_;clear hK1 K1)|refine skipS ?_|refine cS (minI_c r.size 401) ?_|refine aw_condT rfl ?_|refine aw_condF rfl ?_))
   subst hK'
   dsimp only
   refine ⟨x+1,by omega,by omega,?_⟩
   exact wkS
  ·have hn:=hgo r.bytes.length (by simp [minN,hk])
   simp only [hk]
   (repeat (first|refine walkS ?_|refine aw_condT rfl ?_|refine aw_condF rfl ?_))
   (repeat (first|refine ctlS ?_|(refine ol_go ?_ (fun K1 hK1=>?_);exact trS;refine evS ?_;(try simp only [hn]);refine hK1 _ _ ?_;clear hK1 K1)|(refine ow_go ?_ dsS (fun K1 hK1=>?_);exact trS;refine evS ?_;(try simp only [hn]);refine hK1 _ ?_;clear hK1 K1)|refine skipS ?_|refine cS (minI_c r.bytes.length 401) ?_|refine aw_condT rfl ?_|refine aw_condF rfl ?_))
   subst hK'
   dsimp only
   refine ⟨x+1,by omega,by omega,?_⟩
   exact wkS
  ·have hn:=hgo r.size (by simp [minN,hk])
   have hsz1:=hs1 (by omega)
   simp only [hk]
   (repeat (first|refine walkS ?_|refine aw_condT rfl ?_|refine aw_condF rfl ?_))
   (repeat (first|refine ctlS ?_|(refine ol_go ?_ (fun K1 hK1=>?_);exact trS;refine evS ?_;(try simp only [hn]);refine hK1 _ _ ?_;clear hK1 K1)|(refine ow_go ?_ dsS (fun K1 hK1=>?_);exact trS;refine evS ?_;(try simp only [hn]);refine hK1 _ ?_;clear hK1 K1)|refine skipS ?_|refine cS (minI_c r.size 401) ?_|refine aw_condT rfl ?_|refine aw_condF rfl ?_))
   subst hK'
   dsimp only
   refine ⟨x+1,by omega,by omega,?_⟩
   exact wkS
  ·have hn:=hgo (atT (minS D x) (kid0 r)) (by simp [minN,hk])
   obtain ⟨g1,-⟩:=G.k4 hk
   have i0:=kids0 (r:=r) (by omega)
   have hm0:=List.mem_of_getElem? i0
   have h0:=hf _ hm0
   have hat0:=hat _ hm0
   simp only [hk]
   (repeat (first|refine walkS ?_|refine aw_condT rfl ?_|refine aw_condF rfl ?_))
   (repeat (first|refine ctlS ?_|(refine ol_go ?_ (fun K1 hK1=>?_);exact trS;refine evS ?_;(try simp only [partA_at hat0]);refine hK1 _ _ ?_;clear hK1 K1)|(refine ow_go ?_ dsS (fun K1 hK1=>?_);exact trS;refine evS ?_;(try simp only [partA_at hat0]);refine hK1 _ ?_;clear hK1 K1)|refine skipS ?_|refine aw_condT rfl ?_|refine aw_condF rfl ?_))
   (repeat (first|refine ctlS ?_|(refine ol_go ?_ (fun K1 hK1=>?_);exact trS;refine evS ?_;(try simp only [hn]);refine hK1 _ _ ?_;clear hK1 K1)|(refine ow_go ?_ dsS (fun K1 hK1=>?_);exact trS;refine evS ?_;(try simp only [hn]);refine hK1 _ ?_;clear hK1 K1)|refine skipS ?_|refine cS (minI_c (atT (minS D x) (kid0 r)) 401) ?_|refine aw_condT rfl ?_|refine aw_condF rfl ?_))
   subst hK'
   dsimp only
   refine ⟨x+1,by omega,by omega,?_⟩
   exact wkS
  ·have hn:=hgo (atT (minS D x) (kid0 r)) (by simp [minN,hk])
   obtain ⟨g1,-⟩:=G.k5 hk
   have i0:=kids0 (r:=r) (by omega)
   have hm0:=List.mem_of_getElem? i0
   have h0:=hf _ hm0
   have hat0:=hat _ hm0
   simp only [hk]
   (repeat (first|refine walkS ?_|refine aw_condT rfl ?_|refine aw_condF rfl ?_))
   (repeat (first|refine ctlS ?_|(refine ol_go ?_ (fun K1 hK1=>?_);exact trS;refine evS ?_;(try simp only [partA_at hat0]);refine hK1 _ _ ?_;clear hK1 K1)|(refine ow_go ?_ dsS (fun K1 hK1=>?_);exact trS;refine evS ?_;(try simp only [partA_at hat0]);refine hK1 _ ?_;clear hK1 K1)|refine skipS ?_|refine aw_condT rfl ?_|refine aw_condF rfl ?_))
   (repeat (first|refine ctlS ?_|(refine ol_go ?_ (fun K1 hK1=>?_);exact trS;refine evS ?_;(try simp only [hn]);refine hK1 _ _ ?_;clear hK1 K1)|(refine ow_go ?_ dsS (fun K1 hK1=>?_);exact trS;refine evS ?_;(try simp only [hn]);refine hK1 _ ?_;clear hK1 K1)|refine skipS ?_|refine cS (minI_c (atT (minS D x) (kid0 r)) 401) ?_|refine aw_condT rfl ?_|refine aw_condF rfl ?_))
   subst hK'
   dsimp only
   refine ⟨x+1,by omega,by omega,?_⟩
   exact wkS
  ·have hn:=hgo (sumK (minS D x) r.kids) (by simp [minN,hk])
   have HS:=sumT_c hrb hM (ts:=tabT D x) htl (fun j hj=>hin2 _ (List.getElem_mem hj)) hf'
   rw [eS] at HS
   simp only [encR,encRc,hk] at HS
   simp only [hk]
   (repeat (first|refine walkS ?_|refine aw_condT rfl ?_|refine aw_condF rfl ?_))
   (repeat (first|refine ctlS ?_|(refine ol_go ?_ (fun K1 hK1=>?_);exact trS;refine evS ?_;(try simp only [hn]);refine hK1 _ _ ?_;clear hK1 K1)|(refine ow_go ?_ dsS (fun K1 hK1=>?_);exact trS;refine evS ?_;(try simp only [hn]);refine hK1 _ ?_;clear hK1 K1)|refine skipS ?_|refine vS 48 (HS) ?_|refine cS (minI_c (sumK (minS D x) r.kids) 401) ?_|refine aw_condT rfl ?_|refine aw_condF rfl ?_))
   subst hK'
   dsimp only
   refine ⟨x+1,by omega,by omega,?_⟩
   exact wkS
  ·have hn:=hgo (atT (minS D x) (kid0 r)+altK (minS D x) (atT (minS D x) (kid1 r)) (r.kids.drop 2)) (by simp [minN,hk])
   have gk:=G.k7 hk
   have i0:=kids0 (r:=r) (by omega)
   have hm0:=List.mem_of_getElem? i0
   have h0:=hf _ hm0
   have hat0:=hat _ hm0
   have h2k:=kids7 hV hr hk
   have i1:=kids1 (r:=r) (by omega)
   have hm1:=List.mem_of_getElem? i1
   have HS:=altT_c hrb hM (ts:=tabT D x) htl hf' h2k
   rw [hA _ hm1,eA] at HS
   simp only [encR,encRc,hk] at HS
   have b1:=atT_in hin (kid0 r)
   have b2:=altK_in hin (r.kids.drop 2) _ (atT_in hin (kid1 r))
   generalize altK (minS D x) (atT (minS D x) (kid1 r)) (r.kids.drop 2)=q at *
   simp only [hk]
   (repeat (first|refine walkS ?_|refine aw_condT rfl ?_|refine aw_condF rfl ?_))
   (repeat (first|refine ctlS ?_|(refine ol_go ?_ (fun K1 hK1=>?_);exact trS;refine evS ?_;(try simp only [partA_at hat0]);refine hK1 _ _ ?_;clear hK1 K1)|(refine ow_go ?_ dsS (fun K1 hK1=>?_);exact trS;refine evS ?_;(try simp only [partA_at hat0]);refine hK1 _ ?_;clear hK1 K1)|refine skipS ?_|refine aw_condT rfl ?_|refine aw_condF rfl ?_))
   (repeat (first|refine ctlS ?_|(refine ol_go ?_ (fun K1 hK1=>?_);exact trS;refine evS ?_;(try simp only [hn]);refine hK1 _ _ ?_;clear hK1 K1)|(refine ow_go ?_ dsS (fun K1 hK1=>?_);exact trS;refine evS ?_;(try simp only [hn]);refine hK1 _ ?_;clear hK1 K1)|refine skipS ?_|refine vS 48 (HS) ?_|refine cS (minI_c (atT (minS D x) (kid0 r)+q) 401) ?_|refine aw_condT rfl ?_|refine aw_condF rfl ?_))
   subst hK'
   dsimp only
   refine ⟨x+1,by omega,by omega,?_⟩
   exact wkS
  ·have hn:=hgo 1 (by simp [minN,hk])
   simp only [hk]
   (repeat (first|refine walkS ?_|refine aw_condT rfl ?_|refine aw_condF rfl ?_))
   (repeat (first|refine ctlS ?_|(refine ol_go ?_ (fun K1 hK1=>?_);exact trS;refine evS ?_;(try simp only [hn]);refine hK1 _ _ ?_;clear hK1 K1)|(refine ow_go ?_ dsS (fun K1 hK1=>?_);exact trS;refine evS ?_;(try simp only [hn]);refine hK1 _ ?_;clear hK1 K1)|refine skipS ?_|refine cS (minI_c 1 401) ?_|refine aw_condT rfl ?_|refine aw_condF rfl ?_))
   subst hK'
   dsimp only
   refine ⟨x+1,by omega,by omega,?_⟩
   exact wkS
  ·have hn:=hgo (atT (minS D x) (kid0 r)+1) (by simp [minN,hk])
   have g1:=G.k9 hk
   have i0:=kids0 (r:=r) (by omega)
   have hm0:=List.mem_of_getElem? i0
   have h0:=hf _ hm0
   have hat0:=hat _ hm0
   have b1:=atT_in hin (kid0 r)
   simp only [hk]
   (repeat (first|refine walkS ?_|refine aw_condT rfl ?_|refine aw_condF rfl ?_))
   (repeat (first|refine ctlS ?_|(refine ol_go ?_ (fun K1 hK1=>?_);exact trS;refine evS ?_;(try simp only [partA_at hat0]);refine hK1 _ _ ?_;clear hK1 K1)|(refine ow_go ?_ dsS (fun K1 hK1=>?_);exact trS;refine evS ?_;(try simp only [partA_at hat0]);refine hK1 _ ?_;clear hK1 K1)|refine skipS ?_|refine aw_condT rfl ?_|refine aw_condF rfl ?_))
   (repeat (first|refine ctlS ?_|(refine ol_go ?_ (fun K1 hK1=>?_);exact trS;refine evS ?_;(try simp only [hn]);refine hK1 _ _ ?_;clear hK1 K1)|(refine ow_go ?_ dsS (fun K1 hK1=>?_);exact trS;refine evS ?_;(try simp only [hn]);refine hK1 _ ?_;clear hK1 K1)|refine skipS ?_|refine cS (minI_c (atT (minS D x) (kid0 r)+1) 401) ?_|refine aw_condT rfl ?_|refine aw_condF rfl ?_))
   subst hK'
   dsimp only
   refine ⟨x+1,by omega,by omega,?_⟩
   exact wkS
  ·have hn:=hgo 1 (by simp [minN,hk])
   simp only [hk]
   (repeat (first|refine walkS ?_|refine aw_condT rfl ?_|refine aw_condF rfl ?_))
   (repeat (first|refine ctlS ?_|(refine ol_go ?_ (fun K1 hK1=>?_);exact trS;refine evS ?_;(try simp only [hn]);refine hK1 _ _ ?_;clear hK1 K1)|(refine ow_go ?_ dsS (fun K1 hK1=>?_);exact trS;refine evS ?_;(try simp only [hn]);refine hK1 _ ?_;clear hK1 K1)|refine skipS ?_|refine cS (minI_c 1 401) ?_|refine aw_condT rfl ?_|refine aw_condF rfl ?_))
   subst hK'
   dsimp only
   refine ⟨x+1,by omega,by omega,?_⟩
   exact wkS
 ·have hxe:x=D.length:=by omega
  subst hxe
  have hT:=tabT_len (D:=D) (k:=D.length) (by omega)
  have hma:=mkAgg_l ((tabT D D.length).map iD) 24 (by rw [List.length_map,hT])
  refine walkS ?_
  simp only [hma]
  refine ow_go ?_ dsS (fun K1 hK1=>?_)
  ·trivial
  refine evS ?_
  have hT0:=tabT_len (D:=D) (k:=0) (by omega)
  have hsp:splice (List.map A.d (List.map iD (tabT D 0))) (List.map A.d (List.map iD (tabT D D.length))) 0=List.map A.d (List.map iD (tabT D D.length)):=splice_all (by rw [List.length_map,List.length_map,List.length_map,List.length_map,hT,hT0])
  refine ⟨by rw [hT,hT0];exact Nat.le_refl _,hK1 _ ?_⟩
  clear hK1 K1
  simp only [hsp]
  refine walkS ?_
  (refine rtS Tryd.results44 ?_)
  rw [hma]
  refine ⟨by rw [hT];exact Nat.le_refl _,_,[],.inr (.inl ⟨.agg ((tabT D D.length).map iD),rfl,rfl,?_⟩),List.nodup_nil,rfl⟩
  exact wkDS
end Go.Proofs.YtomfggmmhkpeeaaDoor.Eng
