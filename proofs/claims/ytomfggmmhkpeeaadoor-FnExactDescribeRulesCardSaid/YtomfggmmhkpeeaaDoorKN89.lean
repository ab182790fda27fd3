/-
 Greatest sizes, the program: the table of all rules.
-/
import Derived.Test.YtomfggmmhkpeeaaDoorKN88
import Derived.Test.YtomfggmmhkpeeaaDoorKN0
set_option linter.unusedSimpArgs false
set_option linter.unusedVariables false
set_option linter.defProp false
set_option maxRecDepth 100000
set_option maxHeartbeats 4000000
namespace Go.Proofs.YtomfggmmhkpeeaaDoor.Eng
open Go Go.RowKit
variable {D:List RuleD}{M:Nat}

def tabG (D:List RuleD) (n:Nat):List Int:=grI D n++List.replicate (24 - n) 0
theorem zrowG:z24.map (fun x=>A.d (.v x))=((tabG D 0).map iD).map A.d:=by simp [z24,tabG,grI,iD]
theorem tabG_step {k:Nat} (hk:k<24) {n:Int} (hn:grN (grI D k) (ruleD D k) (limD D (kid0 (ruleD D k)))=n):splice (((tabG D k).map iD).map A.d) [.d (iD (minF n 401))] k=((tabG D (k+1)).map iD).map A.d:=by
 have hl:(((grI D k).map iD).map A.d).length=k:=by rw [List.length_map,List.length_map,grI_len]
 have h1:24 - k=(24 - (k+1))+1:=by omega
 have e1:((tabG D k).map iD).map A.d=((grI D k).map iD).map A.d++.d (iD 0)::((List.replicate (24 - (k+1)) 0).map iD).map A.d:=by
  unfold tabG
  rw [h1,List.replicate_succ,List.map_append,List.map_append]
  rfl
 have e2:((tabG D (k+1)).map iD).map A.d=((grI D k).map iD).map A.d++.d (iD (minF n 401))::((List.replicate (24 - (k+1)) 0).map iD).map A.d:=by
  unfold tabG
  rw [grI,hn,minF_eq,List.append_assoc,List.map_append,List.map_append]
  rfl
 rw [e1,e2]
 have:=splice_mid (((grI D k).map iD).map A.d) (((List.replicate (24 - (k+1)) 0).map iD).map A.d) (.d (iD 0)) (.d (iD (minF n 401)))
 rwa [hl] at this
theorem tabG_len {k:Nat} (hk:k≤24):(tabG D k).length=24:=by simp [tabG,grI_len];omega
theorem lim_5 {D:List RuleD} (hV:descP D) {n:Nat}{r:RuleD} (hr:D[n]?=some r) (hk:r.kind=5):minF 40 (limD D (kid0 r))=40:=by
 obtain ⟨j,q,_,_,hq,_,hl⟩:=head_kid (good_of hV hr) (Or.inr (Or.inl hk))
 have h:=limD_ge D (kid0 r)
 have h2:(0:Int)<2 ^ (8*q.size.toNat):=Int.pow_pos (by decide)
 unfold minF
 split
 ·omega
 ·rfl
private def tyF:=ai (ai (ai tg59 (ai tg39 tg26)) (ai tg28 (ai tg40 tg30))) (ai (ai tg42 (ai tg3 tg4)) (ai (ai tg5 tg55) (ai tg9 tzT)))
theorem greatI_c (hD:DB M D) (hM:M≤1048576) (hV:descP D) (h24:D.length≤24):AC Tryd.prog 46 [.d (encD D)] none (fun r' _=>r'=.d (.agg ((tabG D D.length).map iD))):=by
 have hDl:=hD.len
 refine cbS Tryd.func46 rfl Tryd.call46 Tryd.ntmps46 fun en hsz hks hk0=>?_;refine enS ?_
 have hz:=zrowG (D:=D)
 (repeat (first|refine ctlS ?_|(refine ol_go ?_ (fun K1 hK1=>?_);exact trS;refine evS ?_;(try simp only [hz]);refine hK1 _ _ ?_;clear hK1 K1)|(refine ow_go ?_ dsS (fun K1 hK1=>?_);exact trS;refine evS ?_;(try simp only [hz]);refine hK1 _ ?_;clear hK1 K1)|refine skipS ?_))
 refine aw_loopS [1,2,3,8,9] (fun _ _=>[]) (fun _ k=>[(10,.d (iD (k:Nat)))]) [48] (fun _ k=>[(48,some (((tabG D k).map iD).map A.d))]) [] (fun _ _=>[]) (fun k=>k≤D.length) (fun k=>D.length - k) (0) hks (fun _=>rfl) (Nat.zero_le _) wkS ?_;intro x hx;refine headS ?_
 refine walkS ?_
 refine aw_condS rfl (fun hj=>?_) (fun hj=>?_)
 ·have hx':x<D.length:=by omega
  obtain ⟨r,hr⟩:∃ r,D[x]?=some r:=⟨_,List.getElem?_eq_getElem hx'⟩
  have G:GoodR D x r:=good_of hV hr
  obtain ⟨kd1,kd2⟩:=G.kd
  have hrb:=hD.rule r (List.mem_of_getElem? hr)
  have hrD:=ruleD_get hr
  have hlk:=hrb.lk
  have hlb:=hrb.lb
  have hgo:∀ n,grN (grI D x) r (limD D (kid0 r))=n→splice (((tabG D x).map iD).map A.d) [.d (iD (minF n 401))] x=((tabG D (x+1)).map iD).map A.d:=fun n hn=>tabG_step (by omega) (by rw [hrD];exact hn)
  have hin:=grI_in hV x (by omega)
  have htl:=tabG_len (D:=D) (k:=x) (by omega)
  have hL:(((tabG D x).map iD).map A.d).length=24:=by rw [List.length_map,List.length_map,htl]
  have hs1:r.kind=1∨r.kind=3→0≤r.size∧r.size≤64:=fun h=>by
   rcases h with h|h
   ·have:=G.k1 h;omega
   ·have:=G.k3 h;omega
  have hkin:∀ k∈r.kids,0≤k∧k<(grI D x).length:=fun k hk=>by
   obtain ⟨j,hj,rfl⟩:=List.getElem_of_mem hk
   rw [grI_len]
   exact G.kid j hj
  have hat:∀ k∈r.kids,(((tabG D x).map iD).map A.d)[k.toNat]?=some (.d (iD (atT (grI D x) k))):=fun k hk=>by
   have h1:=hkin k hk
   have h2:atT (tabG D x) k=atT (grI D x) k:=atT_app h1
   rw [grI_len] at h1
   rw [←h2]
   have:k.toNat<(tabG D x).length:=by omega
   simp [this,atT,List.getD]
  have k12:r.kind=1∨r.kind=2∨r.kind=3∨r.kind=4∨r.kind=5∨r.kind=6∨r.kind=7∨r.kind=8∨r.kind=9∨r.kind=10:=by omega
  have hf:∀ k∈r.kids,0≤k∧k<24:=fun k hk=>by
   have h1:=hkin k hk
   rw [grI_len] at h1
   omega
  have hf':∀ j (hj:j<r.kids.length),0≤r.kids[j]∧r.kids[j]<24:=fun j hj=>hf _ (List.getElem_mem hj)
  have hin2:inT (tabG D x):=fun y hy=>by
   unfold tabG at hy
   rcases List.mem_append.1 hy with h|h
   ·exact hin y h
   ·rw [(List.mem_replicate.1 h).2];omega
  have eS:sumT (tabG D x) r.kids=sumK (grI D x) r.kids:=by
   unfold sumT sumK
   rw [←mapT_app (zs:=List.replicate (24 - x) 0) hkin]
   rfl
  have hA:∀ k∈r.kids,atT (tabG D x) k=atT (grI D x) k:=fun k hk=>atT_app (hkin k hk)
  have eA:∀ a,topK (tabG D x) a (r.kids.drop 2)=topK (grI D x) a (r.kids.drop 2):=fun a=>by
   unfold topK
   rw [show tabG D x=grI D x++List.replicate (24 - x) 0 from rfl,mapT_app fun k hk=>hkin k (List.mem_of_mem_drop hk)]
  refine aw_skip ?_
  dsimp only
  refine aw_hide fun K' hK'=>?_
  refine walkS ?_
  rcases k12 with hk|hk|hk|hk|hk|hk|hk|hk|hk|hk
  ·have hn:=hgo r.size (by simp [grN,hk])
   have hsz1:=hs1 (by omega)
   simp only [hk]
   (repeat (first|refine walkS ?_|refine aw_condT rfl ?_|refine aw_condF rfl ?_))
   (repeat (first|refine ctlS ?_|(refine ol_go ?_ (fun K1 hK1=>?_);exact trS;refine evS ?_;(try simp only [hn]);refine hK1 _ _ ?_;clear hK1 K1)|(refine ow_go ?_ dsS (fun K1 hK1=>?_);exact trS;refine evS ?_;(try simp only [hn]);refine hK1 _ ?_;clear hK1 K1)|refine skipS ?_|refine cS (minI_c r.size 401) ?_|refine aw_condT rfl ?_|refine aw_condF rfl ?_))
   subst hK'
   dsimp only
   refine ⟨x+1,by omega,by omega,?_⟩
   exact wkS
  ·have hn:=hgo r.bytes.length (by simp [grN,hk])
   simp only [hk]
   (repeat (first|refine walkS ?_|refine aw_condT rfl ?_|refine aw_condF rfl ?_))
   (repeat (first|refine ctlS ?_|(refine ol_go ?_ (fun K1 hK1=>?_);exact trS;refine evS ?_;(try simp only [hn]);refine hK1 _ _ ?_;clear hK1 K1)|(refine ow_go ?_ dsS (fun K1 hK1=>?_);exact trS;refine evS ?_;(try simp only [hn]);refine hK1 _ ?_;clear hK1 K1)|refine skipS ?_|refine cS (minI_c r.bytes.length 401) ?_|refine aw_condT rfl ?_|refine aw_condF rfl ?_))
   subst hK'
   dsimp only
   refine ⟨x+1,by omega,by omega,?_⟩
   exact wkS
  ·have hn:=hgo r.size (by simp [grN,hk])
   have hsz1:=hs1 (by omega)
   simp only [hk]
   (repeat (first|refine walkS ?_|refine aw_condT rfl ?_|refine aw_condF rfl ?_))
   (repeat (first|refine ctlS ?_|(refine ol_go ?_ (fun K1 hK1=>?_);exact trS;refine evS ?_;(try simp only [hn]);refine hK1 _ _ ?_;clear hK1 K1)|(refine ow_go ?_ dsS (fun K1 hK1=>?_);exact trS;refine evS ?_;(try simp only [hn]);refine hK1 _ ?_;clear hK1 K1)|refine skipS ?_|refine cS (minI_c r.size 401) ?_|refine aw_condT rfl ?_|refine aw_condF rfl ?_))
   subst hK'
   dsimp only
   refine ⟨x+1,by omega,by omega,?_⟩
   exact wkS
  ·have hn:=hgo (atT (grI D x) (kid0 r)+limD D (kid0 r)) (by simp [grN,hk])
   obtain ⟨g1,-⟩:=G.k4 hk
   have i0:=kids0 (r:=r) (by omega)
   have hm0:=List.mem_of_getElem? i0
   have h0:=hf _ hm0
   have hat0:=hat _ hm0
   have b1:=atT_in hin (kid0 r)
   have l1:=limD_le D (kid0 r)
   have l2:=lim_4 hV hr hk
   simp only [hk]
   (repeat (first|refine walkS ?_|refine aw_condT rfl ?_|refine aw_condF rfl ?_))
   (repeat (first|refine ctlS ?_|(refine ol_go ?_ (fun K1 hK1=>?_);exact trS;refine evS ?_;(try simp only [partA_at hat0]);refine hK1 _ _ ?_;clear hK1 K1)|(refine ow_go ?_ dsS (fun K1 hK1=>?_);exact trS;refine evS ?_;(try simp only [partA_at hat0]);refine hK1 _ ?_;clear hK1 K1)|refine skipS ?_|refine cS (limI_c hD hM (kid0 r)) ?_|refine aw_condT rfl ?_|refine aw_condF rfl ?_))
   (repeat (first|refine ctlS ?_|(refine ol_go ?_ (fun K1 hK1=>?_);exact trS;refine evS ?_;(try simp only [hn]);refine hK1 _ _ ?_;clear hK1 K1)|(refine ow_go ?_ dsS (fun K1 hK1=>?_);exact trS;refine evS ?_;(try simp only [hn]);refine hK1 _ ?_;clear hK1 K1)|refine skipS ?_|refine cS (limI_c hD hM (kid0 r)) ?_|refine cS (minI_c (atT (grI D x) (kid0 r)+limD D (kid0 r)) 401) ?_|refine aw_condT rfl ?_|refine aw_condF rfl ?_))
   subst hK'
   dsimp only
   refine ⟨x+1,by omega,by omega,?_⟩
   exact wkS
  ·have hn:=hgo (atT (grI D x) (kid0 r)+40*atT (grI D x) (kid1 r)) (by simp [grN,hk])
   obtain ⟨g1,-⟩:=G.k5 hk
   have i0:=kids0 (r:=r) (by omega)
   have hm0:=List.mem_of_getElem? i0
   have h0:=hf _ hm0
   have hat0:=hat _ hm0
   have i1:=kids1 (r:=r) (by omega)
   have hm1:=List.mem_of_getElem? i1
   have h1:=hf _ hm1
   have hat1:=hat _ hm1
   have b0:=atT_in hin (kid0 r)
   have b1:=atT_in hin (kid1 r)
   have hL5:=(limI_c hD hM (kid0 r))
   have hm5:=(minI_c 40 (limD D (kid0 r))).eqv (r1:=.d (iD 40)) (by rw [lim_5 hV hr hk])
   simp only [hk]
   (repeat (first|refine walkS ?_|refine aw_condT rfl ?_|refine aw_condF rfl ?_))
   (repeat (first|refine ctlS ?_|(refine ol_go ?_ (fun K1 hK1=>?_);exact trS;refine evS ?_;(try simp only [partA_at hat0,partA_at hat1]);refine hK1 _ _ ?_;clear hK1 K1)|(refine ow_go ?_ dsS (fun K1 hK1=>?_);exact trS;refine evS ?_;(try simp only [partA_at hat0,partA_at hat1]);refine hK1 _ ?_;clear hK1 K1)|refine skipS ?_|refine cS (hL5) ?_|refine cS (hm5) ?_|refine aw_condT rfl ?_|refine aw_condF rfl ?_))
   (repeat (first|refine ctlS ?_|(refine ol_go ?_ (fun K1 hK1=>?_);exact trS;refine evS ?_;(try simp only [hn]);refine hK1 _ _ ?_;clear hK1 K1)|(refine ow_go ?_ dsS (fun K1 hK1=>?_);exact trS;refine evS ?_;(try simp only [hn]);refine hK1 _ ?_;clear hK1 K1)|refine skipS ?_|refine cS (minI_c (atT (grI D x) (kid0 r)+40*atT (grI D x) (kid1 r)) 401) ?_|refine aw_condT rfl ?_|refine aw_condF rfl ?_))
   subst hK'
   dsimp only
   refine ⟨x+1,by omega,by omega,?_⟩
   exact wkS
  ·have hn:=hgo (sumK (grI D x) r.kids) (by simp [grN,hk])
   have HS:=sumT_c hrb hM (ts:=tabG D x) htl (fun j hj=>hin2 _ (List.getElem_mem hj)) hf'
   rw [eS] at HS
   simp only [encR,encRc,hk] at HS
   simp only [hk]
   (repeat (first|refine walkS ?_|refine aw_condT rfl ?_|refine aw_condF rfl ?_))
   (repeat (first|refine ctlS ?_|(refine ol_go ?_ (fun K1 hK1=>?_);exact trS;refine evS ?_;(try simp only [hn]);refine hK1 _ _ ?_;clear hK1 K1)|(refine ow_go ?_ dsS (fun K1 hK1=>?_);exact trS;refine evS ?_;(try simp only [hn]);refine hK1 _ ?_;clear hK1 K1)|refine skipS ?_|refine vS 48 (HS) ?_|refine cS (minI_c (sumK (grI D x) r.kids) 401) ?_|refine aw_condT rfl ?_|refine aw_condF rfl ?_))
   subst hK'
   dsimp only
   refine ⟨x+1,by omega,by omega,?_⟩
   exact wkS
  ·have hn:=hgo (atT (grI D x) (kid0 r)+topK (grI D x) (atT (grI D x) (kid1 r)) (r.kids.drop 2)) (by simp [grN,hk])
   have gk:=G.k7 hk
   have i0:=kids0 (r:=r) (by omega)
   have hm0:=List.mem_of_getElem? i0
   have h0:=hf _ hm0
   have hat0:=hat _ hm0
   have h2k:=kids7 hV hr hk
   have i1:=kids1 (r:=r) (by omega)
   have hm1:=List.mem_of_getElem? i1
   have HS:=altX_c hrb hM (ts:=tabG D x) htl hf' h2k
   rw [hA _ hm1,eA] at HS
   simp only [encR,encRc,hk] at HS
   have b1:=atT_in hin (kid0 r)
   have b2:=topK_in hin (r.kids.drop 2) _ (atT_in hin (kid1 r))
   generalize topK (grI D x) (atT (grI D x) (kid1 r)) (r.kids.drop 2)=q at *
   simp only [hk]
   (repeat (first|refine walkS ?_|refine aw_condT rfl ?_|refine aw_condF rfl ?_))
   (repeat (first|refine ctlS ?_|(refine ol_go ?_ (fun K1 hK1=>?_);exact trS;refine evS ?_;(try simp only [partA_at hat0]);refine hK1 _ _ ?_;clear hK1 K1)|(refine ow_go ?_ dsS (fun K1 hK1=>?_);exact trS;refine evS ?_;(try simp only [partA_at hat0]);refine hK1 _ ?_;clear hK1 K1)|refine skipS ?_|refine aw_condT rfl ?_|refine aw_condF rfl ?_))
   (repeat (first|refine ctlS ?_|(refine ol_go ?_ (fun K1 hK1=>?_);exact trS;refine evS ?_;(try simp only [hn]);refine hK1 _ _ ?_;clear hK1 K1)|(refine ow_go ?_ dsS (fun K1 hK1=>?_);exact trS;refine evS ?_;(try simp only [hn]);refine hK1 _ ?_;clear hK1 K1)|refine skipS ?_|refine vS 48 (HS) ?_|refine cS (minI_c (atT (grI D x) (kid0 r)+q) 401) ?_|refine aw_condT rfl ?_|refine aw_condF rfl ?_))
   subst hK'
   dsimp only
   refine ⟨x+1,by omega,by omega,?_⟩
   exact wkS
  ·have hn:=hgo (atT (grI D x) (kid0 r)+1) (by simp [grN,hk])
   have g1:=G.k8 hk
   have i0:=kids0 (r:=r) (by omega)
   have hm0:=List.mem_of_getElem? i0
   have h0:=hf _ hm0
   have hat0:=hat _ hm0
   have b1:=atT_in hin (kid0 r)
   simp only [hk]
   (repeat (first|refine walkS ?_|refine aw_condT rfl ?_|refine aw_condF rfl ?_))
   (repeat (first|refine ctlS ?_|(refine ol_go ?_ (fun K1 hK1=>?_);exact trS;refine evS ?_;(try simp only [partA_at hat0]);refine hK1 _ _ ?_;clear hK1 K1)|(refine ow_go ?_ dsS (fun K1 hK1=>?_);exact trS;refine evS ?_;(try simp only [partA_at hat0]);refine hK1 _ ?_;clear hK1 K1)|refine skipS ?_|refine aw_condT rfl ?_|refine aw_condF rfl ?_))
   (repeat (first|refine ctlS ?_|(refine ol_go ?_ (fun K1 hK1=>?_);exact trS;refine evS ?_;(try simp only [hn]);refine hK1 _ _ ?_;clear hK1 K1)|(refine ow_go ?_ dsS (fun K1 hK1=>?_);exact trS;refine evS ?_;(try simp only [hn]);refine hK1 _ ?_;clear hK1 K1)|refine skipS ?_|refine cS (minI_c (atT (grI D x) (kid0 r)+1) 401) ?_|refine aw_condT rfl ?_|refine aw_condF rfl ?_))
   subst hK'
   dsimp only
   refine ⟨x+1,by omega,by omega,?_⟩
   exact wkS
  ·have hn:=hgo (atT (grI D x) (kid0 r)+1) (by simp [grN,hk])
   have g1:=G.k9 hk
   have i0:=kids0 (r:=r) (by omega)
   have hm0:=List.mem_of_getElem? i0
   have h0:=hf _ hm0
   have hat0:=hat _ hm0
   have b1:=atT_in hin (kid0 r)
   simp only [hk]
   (repeat (first|refine walkS ?_|refine aw_condT rfl ?_|refine aw_condF rfl ?_))
   (repeat (first|refine ctlS ?_|(refine ol_go ?_ (fun K1 hK1=>?_);exact trS;refine evS ?_;(try simp only [partA_at hat0]);refine hK1 _ _ ?_;clear hK1 K1)|(refine ow_go ?_ dsS (fun K1 hK1=>?_);exact trS;refine evS ?_;(try simp only [partA_at hat0]);refine hK1 _ ?_;clear hK1 K1)|refine skipS ?_|refine aw_condT rfl ?_|refine aw_condF rfl ?_))
   (repeat (first|refine ctlS ?_|(refine ol_go ?_ (fun K1 hK1=>?_);exact trS;refine evS ?_;(try simp only [hn]);refine hK1 _ _ ?_;clear hK1 K1)|(refine ow_go ?_ dsS (fun K1 hK1=>?_);exact trS;refine evS ?_;(try simp only [hn]);refine hK1 _ ?_;clear hK1 K1)|refine skipS ?_|refine cS (minI_c (atT (grI D x) (kid0 r)+1) 401) ?_|refine aw_condT rfl ?_|refine aw_condF rfl ?_))
   subst hK'
   dsimp only
   refine ⟨x+1,by omega,by omega,?_⟩
   exact wkS
  ·have hn:=hgo 400 (by simp [grN,hk])
   simp only [hk]
   (repeat (first|refine walkS ?_|refine aw_condT rfl ?_|refine aw_condF rfl ?_))
   (repeat (first|refine ctlS ?_|(refine ol_go ?_ (fun K1 hK1=>?_);exact trS;refine evS ?_;(try simp only [hn]);refine hK1 _ _ ?_;clear hK1 K1)|(refine ow_go ?_ dsS (fun K1 hK1=>?_);exact trS;refine evS ?_;(try simp only [hn]);refine hK1 _ ?_;clear hK1 K1)|refine skipS ?_|refine cS (minI_c 400 401) ?_|refine aw_condT rfl ?_|refine aw_condF rfl ?_))
   subst hK'
   dsimp only
   refine ⟨x+1,by omega,by omega,?_⟩
   exact wkS
 ·have hxe:x=D.length:=by omega
  subst hxe
  have hT:=tabG_len (D:=D) (k:=D.length) (by omega)
  have hma:=mkAgg_l ((tabG D D.length).map iD) 24 (by rw [List.length_map,hT])
  refine walkS ?_
  simp only [hma]
  refine ow_go ?_ dsS (fun K1 hK1=>?_)
  ·trivial
  refine evS ?_
  have hT0:=tabG_len (D:=D) (k:=0) (by omega)
  have hsp:splice (List.map A.d (List.map iD (tabG D 0))) (List.map A.d (List.map iD (tabG D D.length))) 0=List.map A.d (List.map iD (tabG D D.length)):=splice_all (by rw [List.length_map,List.length_map,List.length_map,List.length_map,hT,hT0])
  refine ⟨by rw [hT,hT0];exact Nat.le_refl _,hK1 _ ?_⟩
  clear hK1 K1
  simp only [hsp]
  refine walkS ?_
  (refine rtS Tryd.results46 ?_)
  rw [hma]
  refine ⟨by rw [hT];exact Nat.le_refl _,_,[],.inr (.inl ⟨.agg ((tabG D D.length).map iD),rfl,rfl,?_⟩),List.nodup_nil,rfl⟩
  exact wkDS
end Go.Proofs.YtomfggmmhkpeeaaDoor.Eng
