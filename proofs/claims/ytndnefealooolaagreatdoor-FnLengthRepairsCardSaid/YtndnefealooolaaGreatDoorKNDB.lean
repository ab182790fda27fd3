/-
 Draws: values.

 Draws: values of rules.
-/
import Derived.Test.YtndnefealooolaaGreatDoorKNDA
import Derived.Test.YtndnefealooolaaGreatDoorKPure14
import Derived.Test.YtndnefealooolaaGreatDoorKNR1
import Derived.Test.YtndnefealooolaaGreatDoorKPure17
set_option linter.unusedSimpArgs false
set_option linter.unusedVariables false
set_option linter.defProp false
set_option maxRecDepth 100000
set_option maxHeartbeats 4000000
namespace Go.Proofs.YtndnefealooolaaGreatDoor.Eng
open Go Go.RowKit

section
variable {p:Nat→Prop}

end
end Go.Proofs.YtndnefealooolaaGreatDoor.Eng
namespace Go.Proofs.YtndnefealooolaaGreatDoor.Eng
open Go Go.RowKit

section
variable {D:List RuleD}
def VmOK (D:List RuleD) (f:Nat):Prop:=∀ (p:Nat→Prop) (i:Nat) (m:Int) (c:Cur),i<D.length→i<f→0≤m→m≤1048576→c.b.length≤1048576→AC Tryz.prog 55 [.ptr 0 0,.d (encD D),.d (iD i),.d (iD m)] (some ((curP p c).map .d)) (drwQ p (encV (vMk D f i m c).1) (vMk D f i m c).2)
theorem minF_min (a b:Int):minF a b=min b a:=by
 unfold minF
 split<;>omega
section
variable {r:RuleD}{f i:Nat}{m:Int}{c:Cur}
theorem vMk_1 (hr:ruleD D i=r) (h:r.kind=1):vMk D (f+1) i m c=(.mk (bel c (min (2 ^ (8*r.size.toNat)) 70000)).1 [] [],(bel c (min (2 ^ (8*r.size.toNat)) 70000)).2):=by
 rw [vMk];simp only [hr,if_pos h]
theorem vMk_3 (hr:ruleD D i=r) (h:r.kind=3):vMk D (f+1) i m c=(.mk 0 (bysC r.size.toNat c).1 [],(bysC r.size.toNat c).2):=by
 rw [vMk];simp only [hr];rw [if_neg (by omega),if_pos h]
theorem vMk_4 (hr:ruleD D i=r) (h:r.kind=4∨r.kind=10):vMk D (f+1) i m c=(.mk 0 (vBy r m c).1 [],(vBy r m c).2):=by
 rw [vMk];simp only [hr];rw [if_neg (by omega),if_neg (by omega),if_pos h]
theorem vMk_5 (hr:ruleD D i=r) (h:r.kind=5):vMk D (f+1) i m c=(.mk 0 [] (mkIt (fun k c=>vMk D f k (m.tdiv 2) c) (List.replicate (bel c (min m 3+1)).1.toNat (kid1 r).toNat) (bel c (min m 3+1)).2).1,(mkIt (fun k c=>vMk D f k (m.tdiv 2) c) (List.replicate (bel c (min m 3+1)).1.toNat (kid1 r).toNat) (bel c (min m 3+1)).2).2):=by
 rw [vMk];simp only [hr];rw [if_neg (by omega),if_neg (by omega),if_neg (by omega),if_pos h]
theorem vMk_6 (hr:ruleD D i=r) (h:r.kind=6):vMk D (f+1) i m c=(.mk 0 [] (mkIt (fun k c=>vMk D f k (m.tdiv 2) c) (r.kids.map Int.toNat) c).1,(mkIt (fun k c=>vMk D f k (m.tdiv 2) c) (r.kids.map Int.toNat) c).2):=by
 rw [vMk];simp only [hr];rw [if_neg (by omega),if_neg (by omega),if_neg (by omega),if_neg (by omega),if_pos h]
theorem vMk_7 (hr:ruleD D i=r) (h:r.kind=7):vMk D (f+1) i m c=(.mk (r.tags.getD (bel c r.tags.length).1.toNat 0) [] [(vMk D f (r.kids.getD ((bel c r.tags.length).1.toNat+1) 0).toNat (m.tdiv 2) (bel c r.tags.length).2).1],(vMk D f (r.kids.getD ((bel c r.tags.length).1.toNat+1) 0).toNat (m.tdiv 2) (bel c r.tags.length).2).2):=by
 rw [vMk];simp only [hr];rw [if_neg (by omega),if_neg (by omega),if_neg (by omega),if_neg (by omega),if_neg (by omega),if_pos h]
theorem vMk_8t (hr:ruleD D i=r) (h:r.kind=8) (h2:(once c 2).1=true):vMk D (f+1) i m c=(.mk 0 [] [(vMk D f (kid0 r).toNat (m.tdiv 2) (once c 2).2).1],(vMk D f (kid0 r).toNat (m.tdiv 2) (once c 2).2).2):=by
 rw [vMk];simp only [hr];rw [if_neg (by omega),if_neg (by omega),if_neg (by omega),if_neg (by omega),if_neg (by omega),if_neg (by omega),if_pos h,if_pos h2]
theorem vMk_8f (hr:ruleD D i=r) (h:r.kind=8) (h2:(once c 2).1=false):vMk D (f+1) i m c=(.mk 0 [] [],(once c 2).2):=by
 rw [vMk];simp only [hr];rw [if_neg (by omega),if_neg (by omega),if_neg (by omega),if_neg (by omega),if_neg (by omega),if_neg (by omega),if_pos h,if_neg (by rw [h2];decide)]
theorem vMk_9 (hr:ruleD D i=r) (h:r.kind=9):vMk D (f+1) i m c=(.mk 0 [] [(vMk D f (kid0 r).toNat (m.tdiv 2) c).1],(vMk D f (kid0 r).toNat (m.tdiv 2) c).2):=by
 rw [vMk];simp only [hr];rw [if_neg (by omega),if_neg (by omega),if_neg (by omega),if_neg (by omega),if_neg (by omega),if_neg (by omega),if_neg (by omega),if_pos h]
theorem vMk_o (hr:ruleD D i=r) (h:r.kind≠1∧r.kind≠3∧r.kind≠4∧r.kind≠5∧r.kind≠6∧r.kind≠7∧r.kind≠8∧r.kind≠9∧r.kind≠10):vMk D (f+1) i m c=(V0,c):=by
 rw [vMk];simp only [hr];rw [if_neg (by omega),if_neg (by omega),if_neg (by omega),if_neg (by omega),if_neg (by omega),if_neg (by omega),if_neg (by omega),if_neg (by omega)]
end
private def tyF:=ai (ai (ai tg22 (ai tg24 tg37)) (ai tg57 (ai tg65 tg26))) (ai (ai tg39 (ai tg97 tg3)) (ai (ai tg4 tg5) (ai tg59 tg9)))
theorem vMk_step (hD:DB 1048576 D) (hV:descP D) {f:Nat} (H:VmOK D f):VmOK D (f+1):=fun p i m c hi hf hm hm2 hb=>by
 obtain ⟨r,hr⟩:∃ r,D[i]?=some r:=⟨_,List.getElem?_eq_getElem hi⟩
 have G:GoodR D i r:=good_of hV hr
 have hrb:=hD.rule r (List.mem_of_getElem? hr)
 have hrD:=ruleD_get hr
 have hlk:=hrb.lk
 have hlt:=hrb.lt
 have hwb:(vMk D (f+1) i m c).2.b=c.b:=vMk_b D _ _ _ _
 have hm3:0≤m.tdiv 2∧m.tdiv 2≤1048576:=by rw [Int.tdiv_eq_ediv_of_nonneg hm];omega
 have hmw:IntKind.i64.wrap (m.tdiv 2)=m.tdiv 2:=wrap_small (by omega) (by omega)
 have HK:∀ (q:Nat→Prop) (c':Cur),c'.b.length≤1048576→∀ j (hj:j<r.kids.length),AC Tryz.prog 55 [.ptr 0 0,.d (encD D),.d (iD r.kids[j]),.d (iD (m.tdiv 2))] (some ((curP q c').map .d)) (drwQ q (encV (vMk D f (r.kids[j]).toNat (m.tdiv 2) c').1) (vMk D f (r.kids[j]).toNat (m.tdiv 2) c').2):=fun q c' hc j hj=>by
  have hk:=G.kid j hj
  have:=H q (r.kids[j]).toNat (m.tdiv 2) c' (by omega) (by omega) hm3.1 hm3.2 hc
  rwa [Int.toNat_of_nonneg hk.1] at this
 have K0:∀ (q:Nat→Prop) (c':Cur),c'.b.length≤1048576→0<r.kids.length→AC Tryz.prog 55 [.ptr 0 0,.d (encD D),.d (iD (kid0 r)),.d (iD (m.tdiv 2))] (some ((curP q c').map .d)) (drwQ q (encV (vMk D f (kid0 r).toNat (m.tdiv 2) c').1) (vMk D f (kid0 r).toNat (m.tdiv 2) c').2):=fun q c' hc h=>by
  have k:=kids0 h
  have:=HK q c' hc 0 h
  rwa [show r.kids[0]=kid0 r by rw [List.getElem?_eq_getElem h] at k;exact Option.some.inj k] at this
 have K1:∀ (q:Nat→Prop) (c':Cur),c'.b.length≤1048576→1<r.kids.length→AC Tryz.prog 55 [.ptr 0 0,.d (encD D),.d (iD (kid1 r)),.d (iD (m.tdiv 2))] (some ((curP q c').map .d)) (drwQ q (encV (vMk D f (kid1 r).toNat (m.tdiv 2) c').1) (vMk D f (kid1 r).toNat (m.tdiv 2) c').2):=fun q c' hc h=>by
  have k:=kids1 h
  have:=HK q c' hc 1 h
  rwa [show r.kids[1]=kid1 r by rw [List.getElem?_eq_getElem h] at k;exact Option.some.inj k] at this
 have hgoal:AC Tryz.prog 55 [.ptr 0 0,.d (encD D),.d (iD i),.d (iD m)] (some ((Eng.D.iv p (encB c.b)::[iD c.i,iD c.h]).map .d)) (fun r' b=>r'=.d (encV (vMk D (f+1) i m c).1)∧b=some ((Eng.D.iv p (encB c.b)::[iD (vMk D (f+1) i m c).2.i,iD (vMk D (f+1) i m c).2.h]).map .d)):=by
  refine calls_bodyC Tryz.func55 rfl Tryz.call55 Tryz.ntmps55 (by simp) (by simp [ArgsOk]) fun en q hsz hcok hX hks0 hks hq=>?_;refine enS ?_
  refine walkS ?_
  refine aw_condS rfl (fun h1=>?_) (fun h1=>?_)
  ·have hs:=G.k1 h1
   have p1:=powerS_c (s:=r.size) (by omega)
   have p2:=minS_c (2 ^ (8*r.size.toNat)) 70000
   rw [minF_min,Int.min_comm] at p2
   have b1:=bel_c (p:=q) c hb (min (2 ^ (8*r.size.toNat)) 70000)
   rw [vMk_1 hrD h1] at hwb ⊢
   dsimp only at hwb
   (repeat (first|refine walkS ?_|refine vS 0 (b1) ?_|refine cS (p1) ?_|refine cS (p2) ?_))
   (refine rtS Tryz.results55 ?_;refine ⟨_,[],.inr (.inl ⟨.agg [iD (bel c (min (2 ^ (8*r.size.toNat)) 70000)).1,.sl 1 [],.sl 3 []],rfl,rfl,?_⟩),_,(curP q (bel c (min (2 ^ (8*r.size.toNat)) 70000)).2:List Eng.D).map .d,[],rfl,toZL_d _ (curP q (bel c (min (2 ^ (8*r.size.toNat)) 70000)).2),by simp,⟨rfl,by simp only [curP,hwb];rfl⟩⟩;exact wkDS3)
  refine walkS ?_
  refine aw_condS rfl (fun h3=>?_) (fun h3=>?_)
  ·have hs:=G.k3 h3
   have b1:=bysC_c (p:=q) c hb (n:=r.size.toNat) (by omega)
   rw [Int.toNat_of_nonneg (by omega)] at b1
   rw [vMk_3 hrD h3] at hwb ⊢
   dsimp only at hwb
   (repeat (first|refine walkS ?_|refine vS 0 (b1) ?_))
   (refine rtS Tryz.results55 ?_;refine ⟨_,[],.inr (.inl ⟨.agg [iD 0,encB (bysC r.size.toNat c).1,.sl 3 []],rfl,rfl,?_⟩),_,(curP q (bysC r.size.toNat c).2:List Eng.D).map .d,[],rfl,toZL_d _ (curP q (bysC r.size.toNat c).2),by simp,⟨rfl,by simp only [curP,hwb];rfl⟩⟩;exact wkDS3)
  have hmn:minF m 6=min m 6:=by rw [minF_min,Int.min_comm]
  have n6:=minS_c m 6
  rw [hmn] at n6
  have b6:=bel_c (p:=q) c hb (min m 6+1)
  have g6:=bel_in c (n:=min m 6+1) (by omega)
  obtain ⟨n,hn⟩:∃ n:Nat,(bel c (min m 6+1)).1=(n:Int):=⟨_,(Int.toNat_of_nonneg g6.1).symm⟩
  have hn6:n≤6:=by omega
  have e6:IntKind.i64.wrap (min m 6+1)=min m 6+1:=wrap_small (by omega) (by omega)
  have hb6:(bel c (min m 6+1)).2.b.length≤1048576:=by rw [bel_b];exact hb
  have y1:=bysC_c (p:=q) (bel c (min m 6+1)).2 hb6 (n:=n) (by omega)
  have y2:=bysC_o (p:=q) (bel c (min m 6+1)).2 hb6 (n:=n) (by omega)
  rw [←hn] at y1 y2
  have hv0:r.kind≠10→vBy r m c=bysC n (bel c (min m 6+1)).2:=fun h=>by
   unfold vBy
   simp only [hn,Int.toNat_natCast]
   rw [if_neg (by omega)]
  refine walkS ?_
  refine aw_condS rfl (fun h4=>?_) (fun h4=>?_)
  ·rw [vMk_4 hrD (.inl h4),hv0 (by omega)] at hwb ⊢
   dsimp only at hwb
   have d1:(r.kind==10)=false:=by simp;omega
   refine walkS ?_
   refine aw_condS rfl (fun hc=>?_) (fun hc=>?_)
   ·(repeat (first|refine ctlS ?_|(refine ol_go ?_ (fun K1 hK1=>?_);exact trS;refine evS ?_;(try simp only [e6,hn,d1]);refine hK1 _ _ ?_;clear hK1 K1)|(refine ow_go ?_ dsS (fun K1 hK1=>?_);exact trS;refine evS ?_;(try simp only [e6,hn,d1]);refine hK1 _ ?_;clear hK1 K1)|refine skipS ?_|refine vS 0 (b6) ?_|refine vS 0 (y1) ?_|refine cS (n6) ?_))
    refine aw_condS rfl (fun hc=>?_) (fun hc=>?_)
    ·(first|exact absurd trivial hc|exact absurd rfl hc|(cases hc;done)|omega|exact absurd hc (by decide)|(simp at hc;done))
    refine walkS ?_
    (refine rtS Tryz.results55 ?_;refine ⟨_,[],.inr (.inl ⟨.agg [iD 0,encB (bysC n (bel c (min m 6+1)).2).1,.sl 3 []],rfl,rfl,?_⟩),_,(curP q (bysC n (bel c (min m 6+1)).2).2:List Eng.D).map .d,[],rfl,toZL_d _ (curP q (bysC n (bel c (min m 6+1)).2).2),by simp,⟨rfl,by simp only [curP,hwb];rfl⟩⟩;exact wkDS3)
   ·(first|exact absurd trivial hc|exact absurd rfl hc|(cases hc;done)|omega|exact absurd hc (by decide)|(simp at hc;done))
  refine walkS ?_
  refine aw_condS rfl (fun h10=>?_) (fun h10=>?_)
  ·have hbl:=G.k10 h10
   have i10:r.bytes[0]?=some (r.bytes.headD 0):=by cases hq:r.bytes with|nil=>rw [hq] at hbl;simp at hbl|cons x l=>rfl
   have d1:(r.kind==10)=true:=by simp;omega
   obtain ⟨y,hy⟩:∃ y,y=(bysC n (bel c (min m 6+1)).2).1:=⟨_,rfl⟩
   obtain ⟨c2,hc2⟩:∃ c2,c2=(bysC n (bel c (min m 6+1)).2).2:=⟨_,rfl⟩
   have hyl:y.length=n:=by rw [hy];exact bysC_len _ _
   have hcb:c2.b=c.b:=by rw [hc2,bysC_b,bel_b]
   have hb2:c2.b.length≤1048576:=by rw [hcb];exact hb
   rw [←hy,←hc2] at y2
   have o2:=once_c (p:=q) c2 hb2 2
   have hvb:vBy r m c=if 0<y.length then (if (once c2 2).1=true then (y.set 0 (UInt8.ofNat (pickI (once c2 2).2 [((r.bytes.headD 0).toNat:Int),92]).1.toNat),(pickI (once c2 2).2 [((r.bytes.headD 0).toNat:Int),92]).2) else (y,(once c2 2).2)) else (y,c2):=by
    unfold vBy
    simp only [hn,Int.toNat_natCast,←hy,←hc2,h10,true_and]
    split
    ·rfl
    ·exact Prod.ext hy.symm hc2.symm
   rw [vMk_4 hrD (.inr h10)] at hwb ⊢
   (repeat (first|refine ctlS ?_|(refine ol_go ?_ (fun K1 hK1=>?_);exact trS;refine evS ?_;(try simp only [e6,hn]);refine hK1 _ _ ?_;clear hK1 K1)|(refine ow_go ?_ dsS (fun K1 hK1=>?_);exact trS;refine evS ?_;(try simp only [e6,hn]);refine hK1 _ ?_;clear hK1 K1)|refine skipS ?_|refine vS 0 (b6) ?_|refine cS (n6) ?_))
   (refine ow_call1o (k:=0) ?_ dsS rfl (y2) rfl rfl ?_;exact trS;simp only [St.set,List.map_cons,List.map_nil,List.length_map,Nat.reduceAdd])
   by_cases hl0:0<y.length
   ·have d2:decide ((0:Int)<(y.length:Int))=true:=by simp;omega
    have hb3:(once c2 2).2.b.length≤1048576:=by unfold once;rw [bel_b];exact hb2
    have q1:=pickI_c (p:=q) (once c2 2).2 hb3 (l:=[((r.bytes.headD 0).toNat:Int),92]) (by simp) (by simp)
    rw [if_pos hl0] at hvb
    cases ho:(once c2 2).1 with
    | false=>
     rw [hvb,if_neg (by rw [ho];decide)] at hwb ⊢
     dsimp only at hwb
     rw [ho] at o2
     (repeat (first|refine ctlS ?_|(refine ol_go ?_ (fun K1 hK1=>?_);exact trS;refine evS ?_;(try simp only [d1,d2,List.length_map]);refine hK1 _ _ ?_;clear hK1 K1)|(refine ow_go ?_ dsS (fun K1 hK1=>?_);exact trS;refine evS ?_;(try simp only [d1,d2,List.length_map]);refine hK1 _ ?_;clear hK1 K1)|refine skipS ?_|refine vS 0 (o2) ?_))
     refine aw_condS rfl (fun hc=>?_) (fun hc=>?_)
     ·(first|exact absurd trivial hc|exact absurd rfl hc|(cases hc;done)|omega|exact absurd hc (by decide)|(simp at hc;done))
     refine walkS ?_
     (refine rtS Tryz.results55 ?_;refine ⟨_,[],.inr (.inl ⟨.agg [iD 0,encB y,.sl 3 []],rfl,rfl,?_⟩),_,(curP q (once c2 2).2:List Eng.D).map .d,[],rfl,toZL_d _ (curP q (once c2 2).2),by simp,⟨rfl,by simp only [curP,hwb];rfl⟩⟩;exact wkDS3)
    | true=>
     rw [hvb,if_pos ho] at hwb ⊢
     dsimp only at hwb
     rw [ho] at o2
     (repeat (first|refine ctlS ?_|(refine ol_go ?_ (fun K1 hK1=>?_);exact trS;refine evS ?_;(try simp only [d1,d2,List.length_map]);refine hK1 _ _ ?_;clear hK1 K1)|(refine ow_go ?_ dsS (fun K1 hK1=>?_);exact trS;refine evS ?_;(try simp only [d1,d2,List.length_map]);refine hK1 _ ?_;clear hK1 K1)|refine skipS ?_|refine vS 0 (o2) ?_))
     refine aw_condS rfl (fun hc=>?_) (fun hc=>?_)
     ·have q2:=pickI_mem (once c2 2).2 (l:=[((r.bytes.headD 0).toNat:Int),92]) (by simp)
      have hbt:=(r.bytes.headD 0).toNat_lt
      have q3:=u8_draw (n:=(pickI (once c2 2).2 [((r.bytes.headD 0).toNat:Int),92]).1) (by simp only [List.mem_cons,List.not_mem_nil,or_false] at q2;omega)
      refine aw_anyL (by kernel_rfl) (by kernel_rfl) rfl rfl (by kernel_rfl) (by simp only [hsz];kernel_rfl) ?_
      refine walkLS ?_
      (first|refine vS 0 (q1) ?_)
      (iterate 1 (first|refine aw_seq ?_|refine aw_region ?_|refine aw_block ?_|(refine aw_exit ?_;(try simp (decide:=true) only [reduceIte]))|(refine aw_skip ?_;try dsimp only)|(refine aw_any (by kernel_rfl) (by kernel_rfl) (by simp only [hsz];kernel_rfl) ?_)|(refine ow_nil ?_;try dsimp only)|(refine ol_go ?_ (fun K1 hK1=>?_);exact trS;refine evS ?_;refine hK1 _ _ ?_;clear hK1 K1)|(refine ol_skip rfl rfl ?_ ?_;(focus (intro hne;cases hne;done));simp only [St.set])|(refine ol_nil ⟨by kernel_rfl,?_⟩;try dsimp only)|(refine ow_go ?_ dsS (fun K1 hK1=>?_);exact trS;refine evS ?_;refine hK1 _ ?_;clear hK1 K1)|(refine ow_skip rfl rfl ?_ dsS ?_;(focus (intro hne;cases hne;done));simp only [St.set])))
      refine ol_iaddrO ?_ rfl te22 tk5 rfl rfl (by rw [rowB_len];omega) ?_
      ·exact trivial
      simp only [St.set,Nat.zero_mul]
      refine ol_nil ⟨by kernel_rfl,?_⟩
      (try dsimp only)
      refine ow_storeO (t0:=63) (j:=0) (B:=y) (c:=UInt8.ofNat (pickI (once c2 2).2 [((r.bytes.headD 0).toNat:Int),92]).1.toNat) [0,8,10] [] [(0,some _),(80,some _),(48,some _)] ?_ rfl rfl rfl (congrArg (fun n=>A.d (.v (.int .u8 n))) q3) tk5 ?_ rfl (by omega) (by decide) ⟨hcok,hX,hks0,rfl⟩ ⟨Safe.ptr,Safe.ptr,Safe.ptr,trivial⟩ (fun t ht=>by cases ht) ⟨⟨_,_,rfl,rfl,UpL.keep (Safe.iv (fun b h1 h2=>by have:=hq b h1;omega)) (UpL.keep Safe.v (UpL.keep Safe.v UpL.nil))⟩,⟨_,_,rfl,rfl,UpL.keep Safe.v (UpL.row (by rw [rowB_len,rowB_len,List.length_set]) (UpL.keep Safe.v UpL.nil))⟩,⟨_,_,rfl,rfl,UpL.keep Safe.v (UpL.keep Safe.v (UpL.keep Safe.v UpL.nil))⟩,trivial⟩ ?_
      ·exact trivial
      ·simp [lk]
      simp (decide:=true) only [St.keepO,St.f,lk,St.set,reduceIte,List.map_cons,List.map_nil,List.cons_append,List.nil_append,List.length_set]
      refine walkS ?_
      (refine rtS Tryz.results55 ?_;refine ⟨_,[],.inr (.inl ⟨.agg [iD 0,encB (y.set 0 (UInt8.ofNat (pickI (once c2 2).2 [((r.bytes.headD 0).toNat:Int),92]).1.toNat)),.sl 3 []],rfl,rfl,?_⟩),_,(curP q (pickI (once c2 2).2 [((r.bytes.headD 0).toNat:Int),92]).2:List Eng.D).map .d,[],rfl,toZL_d _ (curP q (pickI (once c2 2).2 [((r.bytes.headD 0).toNat:Int),92]).2),by simp,⟨rfl,by simp only [curP,hwb];rfl⟩⟩;exact wkDS3)
     ·(first|exact absurd trivial hc|exact absurd rfl hc|(cases hc;done)|omega|exact absurd hc (by decide)|(simp at hc;done))
   ·have d2:decide ((0:Int)<(y.length:Int))=false:=decide_eq_false (by omega)
    rw [hvb,if_neg hl0] at hwb ⊢
    dsimp only at hwb
    (repeat (first|refine ctlS ?_|(refine ol_go ?_ (fun K1 hK1=>?_);exact trS;refine evS ?_;(try simp only [d1,d2,List.length_map]);refine hK1 _ _ ?_;clear hK1 K1)|(refine ow_go ?_ dsS (fun K1 hK1=>?_);exact trS;refine evS ?_;(try simp only [d1,d2,List.length_map]);refine hK1 _ ?_;clear hK1 K1)|refine skipS ?_))
    refine aw_condS rfl (fun hc=>?_) (fun hc=>?_)
    ·(first|exact absurd trivial hc|exact absurd rfl hc|(cases hc;done)|omega|exact absurd hc (by decide)|(simp at hc;done))
    refine walkS ?_
    (refine rtS Tryz.results55 ?_;refine ⟨_,[],.inr (.inl ⟨.agg [iD 0,encB y,.sl 3 []],rfl,rfl,?_⟩),_,(curP q c2:List Eng.D).map .d,[],rfl,toZL_d _ (curP q c2),by simp,⟨rfl,by simp only [curP,hwb];rfl⟩⟩;exact wkDS3)
  have hm5:minF m 3=min m 3:=by rw [minF_min,Int.min_comm]
  have n5:=minS_c m 3
  rw [hm5] at n5
  have b5:=bel_c (p:=q) c hb (min m 3+1)
  have g5:=bel_in c (n:=min m 3+1) (by omega)
  have e5:IntKind.i64.wrap (min m 3+1)=min m 3+1:=wrap_small (by omega) (by omega)
  refine walkS ?_
  refine aw_condS rfl (fun h5=>?_) (fun h5=>?_)
  ·obtain ⟨k,hk⟩:∃ k:Nat,(bel c (min m 3+1)).1=(k:Int):=⟨_,(Int.toNat_of_nonneg g5.1).symm⟩
   have hkl:=(G.k5 h5).1
   have i1:=kids1 (r:=r) (by omega)
   have hc5:(bel c (min m 3+1)).2.b.length≤1048576:=by rw [bel_b];exact hb
   rw [vMk_5 hrD h5,hk,Int.toNat_natCast] at hwb ⊢
   dsimp only at hwb
   obtain ⟨g,hg⟩:∃ g:Nat→Cur→V × Cur,g=fun k c=>vMk D f k (m.tdiv 2) c:=⟨_,rfl⟩
   have hgb:∀ k c,(g k c).2.b=c.b:=fun k c=>by rw [hg];exact vMk_b _ _ _ _ _
   rw [←hg] at hwb ⊢
   (repeat (first|refine ctlS ?_|(refine ol_go ?_ (fun K1 hK1=>?_);exact trS;refine evS ?_;(try simp only [e5,hk]);refine hK1 _ _ ?_;clear hK1 K1)|(refine ow_go ?_ dsS (fun K1 hK1=>?_);exact trS;refine evS ?_;(try simp only [e5,hk]);refine hK1 _ ?_;clear hK1 K1)|refine skipS ?_|refine vS 0 (b5) ?_|refine cS (n5) ?_))
   refine aw_loopS [0,3,5,8,9,10,21] (fun κ s'=>[(κ,keyB s' 80 2)]) (fun _ x=>[(11,.d (iD (x.1:Nat)))]) [0,80] (fun κ x=>[(0,some ((curP q x.2.2).map .d)),(80,some [.d (iD 0),.d (.v (.slice none 0 0)),.own κ 39 3 (encVs x.2.1)])]) [] (fun κ x=>[(κ,some (x.2.1.length,39,3))]) (fun x:Nat × List V × Cur=>x.1≤k∧(x.2.1,x.2.2)=mkIt g (List.replicate (k - x.1) (kid1 r).toNat) (bel c (min m 3+1)).2) (fun x=>x.1) ((k,[],(bel c (min m 3+1)).2)) hks (fun _=>rfl) ⟨Nat.le_refl _,by simp [mkIt]⟩ wkS ?_;intro x hx;refine headS ?_
   obtain ⟨x,vs,c'⟩:=x
   simp only at hx ⊢
   obtain ⟨hx1,hx2⟩:=hx
   have hcb:c'.b=c.b:=by
    have:=congrArg (fun z=>z.2.b) hx2
    simp only at this
    rw [this,mkIt_b hgb,bel_b]
   have hcb':c'.b.length≤1048576:=by rw [hcb];exact hb
   have hvl:vs.length=k - x:=by
    have:=congrArg (fun z=>z.1.length) hx2
    simp only at this
    rw [this,mkIt_len,List.length_replicate]
   refine walkS ?_
   refine aw_condS rfl (fun hc=>?_) (fun hc=>?_)
   ·obtain ⟨x,rfl⟩:∃ j,x=j+1:=⟨x - 1,by omega⟩
    have HH:=K1 q c' hcb' (by omega)
    have e1:IntKind.i64.wrap (((x+1:Nat):Int) - 1)=(x:Int):=by rw [wrap_small (by omega) (by omega)];omega
    (repeat (first|refine ctlS ?_|(refine ol_go ?_ (fun K1 hK1=>?_);exact trS;refine evS ?_;(try simp only [hmw,e1]);refine hK1 _ _ ?_;clear hK1 K1)|(refine ow_go ?_ dsS (fun K1 hK1=>?_);exact trS;refine evS ?_;(try simp only [hmw,e1]);refine hK1 _ ?_;clear hK1 K1)|refine skipS ?_|refine vS 0 (HH) ?_))
    refine ⟨(x,vs++[(g (kid1 r).toNat c').1],(g (kid1 r).toNat c').2),⟨by simp only;omega,by
     simp only
     rw [show k - x=(k - (x+1))+1 by omega,List.replicate_succ',mkIt_snoc,←hx2]⟩,by simp only;omega,?_⟩
    rw [hg]
    exact wkS
   ·obtain rfl:x=0:=by omega
    rw [Nat.sub_zero] at hx2
    rw [←hx2] at hwb ⊢
    dsimp only at hwb
    refine walkS ?_
    (refine rtS Tryz.results55 ?_;refine ⟨_,[],.inr (.inl ⟨.agg [iD 0,.sl 1 [],.sl 3 (encVs vs)],rfl,rfl,?_⟩),_,(curP q c':List Eng.D).map .d,[],rfl,toZL_d _ (curP q c'),by simp,⟨rfl,by simp only [curP,hwb];rfl⟩⟩;exact wkDS3)
  refine walkS ?_
  refine aw_condS rfl (fun h6=>?_) (fun h6=>?_)
  ·obtain ⟨g,hg⟩:∃ g:Nat→Cur→V × Cur,g=fun k c=>vMk D f k (m.tdiv 2) c:=⟨_,rfl⟩
   have hgb:∀ k c,(g k c).2.b=c.b:=fun k c=>by rw [hg];exact vMk_b _ _ _ _ _
   rw [vMk_6 hrD h6,←hg] at hwb ⊢
   dsimp only at hwb
   refine walkS ?_
   refine aw_loopS [0,3,5,8,9,10,21] (fun κ s'=>[(κ,keyB s' 80 2)]) (fun _ x=>[(12,.d (iD (x.1:Nat)))]) [0,80] (fun κ x=>[(0,some ((curP q x.2.2).map .d)),(80,some [.d (iD 0),.d (.v (.slice none 0 0)),.own κ 39 3 (encVs x.2.1)])]) [] (fun κ x=>[(κ,some (x.2.1.length,39,3))]) (fun x:Nat × List V × Cur=>x.1≤r.kids.length∧(x.2.1,x.2.2)=mkIt g ((r.kids.map Int.toNat).take x.1) c) (fun x=>r.kids.length - x.1) ((0,[],c)) hks (fun _=>rfl) ⟨Nat.zero_le _,by simp [mkIt]⟩ wkS ?_;intro x hx;refine headS ?_
   obtain ⟨x,vs,c'⟩:=x
   simp only at hx ⊢
   obtain ⟨hx1,hx2⟩:=hx
   have hcb:c'.b=c.b:=by
    have:=congrArg (fun z=>z.2.b) hx2
    simp only at this
    rw [this,mkIt_b hgb]
   have hcb':c'.b.length≤1048576:=by rw [hcb];exact hb
   have hvl:vs.length=x:=by
    have:=congrArg (fun z=>z.1.length) hx2
    simp only at this
    rw [this,mkIt_len,List.length_take,List.length_map]
    omega
   refine walkS ?_
   refine aw_condS rfl (fun hc=>?_) (fun hc=>?_)
   ·have hxl:x<r.kids.length:=by omega
    have i1:r.kids[x]?=some (r.kids[x]):=List.getElem?_eq_getElem hxl
    have HH:=HK q c' hcb' x hxl
    have hts:(r.kids.map Int.toNat).take (x+1)=(r.kids.map Int.toNat).take x++[(r.kids[x]).toNat]:=by
     rw [List.take_succ_eq_append_getElem (by simpa using hxl),List.getElem_map]
    (repeat (first|refine ctlS ?_|(refine ol_go ?_ (fun K1 hK1=>?_);exact trS;refine evS ?_;(try simp only [hmw]);refine hK1 _ _ ?_;clear hK1 K1)|(refine ow_go ?_ dsS (fun K1 hK1=>?_);exact trS;refine evS ?_;(try simp only [hmw]);refine hK1 _ ?_;clear hK1 K1)|refine skipS ?_|refine vS 0 (HH) ?_))
    refine ⟨(x+1,vs++[(g (r.kids[x]).toNat c').1],(g (r.kids[x]).toNat c').2),⟨by simp only;omega,by
     simp only
     rw [hts,mkIt_snoc,←hx2]⟩,by simp only;omega,?_⟩
    rw [hg]
    exact wkS
   ·rw [List.take_of_length_le (by simp;omega)] at hx2
    rw [←hx2] at hwb ⊢
    dsimp only at hwb
    refine walkS ?_
    (refine rtS Tryz.results55 ?_;refine ⟨_,[],.inr (.inl ⟨.agg [iD 0,.sl 1 [],.sl 3 (encVs vs)],rfl,rfl,?_⟩),_,(curP q c':List Eng.D).map .d,[],rfl,toZL_d _ (curP q c'),by simp,⟨rfl,by simp only [curP,hwb];rfl⟩⟩;exact wkDS3)
  have b7:=bel_c (p:=q) c hb r.tags.length
  have hb7:(bel c r.tags.length).2.b.length≤1048576:=by rw [bel_b];exact hb
  refine walkS ?_
  refine aw_condS rfl (fun h7=>?_) (fun h7=>?_)
  ·have hk7:=G.k7 h7
   have htg:=tags_ge hV hr h7
   have g7:=bel_in c (n:=r.tags.length) (by omega)
   obtain ⟨k,hk⟩:∃ k:Nat,(bel c r.tags.length).1=(k:Int):=⟨_,(Int.toNat_of_nonneg g7.1).symm⟩
   have hkt:k<r.tags.length:=by omega
   have hkk:k+1<r.kids.length:=by omega
   have t1:r.tags[k]?=some (r.tags.getD k 0):=by simp [List.getD,hkt]
   have t2:r.kids[k+1]?=some (r.kids.getD (k+1) 0):=by simp [List.getD,hkk]
   have e1:IntKind.i64.wrap ((k:Int)+1)=((k+1:Nat):Int):=by rw [wrap_small (by omega) (by omega)];omega
   have HH:=HK q (bel c r.tags.length).2 hb7 (k+1) hkk
   rw [show r.kids[k+1]=r.kids.getD (k+1) 0 by simp [List.getD,hkk]] at HH
   rw [vMk_7 hrD h7,hk,Int.toNat_natCast] at hwb ⊢
   dsimp only at hwb
   (repeat (first|refine ctlS ?_|(refine ol_go ?_ (fun K1 hK1=>?_);exact trS;refine evS ?_;(try simp only [hk,e1,hmw]);refine hK1 _ _ ?_;clear hK1 K1)|(refine ow_go ?_ dsS (fun K1 hK1=>?_);exact trS;refine evS ?_;(try simp only [hk,e1,hmw]);refine hK1 _ ?_;clear hK1 K1)|refine skipS ?_|refine vS 0 (b7) ?_|refine vS 0 (HH) ?_))
   (refine rtS Tryz.results55 ?_;refine ⟨_,[],.inr (.inl ⟨.agg [iD (r.tags.getD k 0),.sl 1 [],.sl 3 [encVc (vMk D f (r.kids.getD (k+1) 0).toNat (m.tdiv 2) (bel c r.tags.length).2).1]],rfl,rfl,?_⟩),_,(curP q (vMk D f (r.kids.getD (k+1) 0).toNat (m.tdiv 2) (bel c r.tags.length).2).2:List Eng.D).map .d,[],rfl,toZL_d _ (curP q (vMk D f (r.kids.getD (k+1) 0).toNat (m.tdiv 2) (bel c r.tags.length).2).2),by simp,⟨rfl,by simp only [curP,hwb];rfl⟩⟩;exact wkDS3)
  have o8:=once_c (p:=q) c hb 2
  have hb8:(once c 2).2.b.length≤1048576:=by unfold once;rw [bel_b];exact hb
  refine walkS ?_
  refine aw_condS rfl (fun h8=>?_) (fun h8=>?_)
  ·have hk8:=G.k8 h8
   have i0:=kids0 (r:=r) (by omega)
   have HH:=K0 q (once c 2).2 hb8 (by omega)
   cases ho:(once c 2).1 with
   | true=>
    rw [vMk_8t hrD h8 ho] at hwb ⊢
    dsimp only at hwb
    rw [ho] at o8
    (repeat (first|refine walkS ?_|refine vS 0 (o8) ?_))
    refine aw_condS rfl (fun hc=>?_) (fun hc=>?_)
    ·(repeat (first|refine ctlS ?_|(refine ol_go ?_ (fun K1 hK1=>?_);exact trS;refine evS ?_;(try simp only [hmw]);refine hK1 _ _ ?_;clear hK1 K1)|(refine ow_go ?_ dsS (fun K1 hK1=>?_);exact trS;refine evS ?_;(try simp only [hmw]);refine hK1 _ ?_;clear hK1 K1)|refine skipS ?_|refine vS 0 (HH) ?_))
     (refine rtS Tryz.results55 ?_;refine ⟨_,[],.inr (.inl ⟨.agg [iD 0,.sl 1 [],.sl 3 [encVc (vMk D f (kid0 r).toNat (m.tdiv 2) (once c 2).2).1]],rfl,rfl,?_⟩),_,(curP q (vMk D f (kid0 r).toNat (m.tdiv 2) (once c 2).2).2:List Eng.D).map .d,[],rfl,toZL_d _ (curP q (vMk D f (kid0 r).toNat (m.tdiv 2) (once c 2).2).2),by simp,⟨rfl,by simp only [curP,hwb];rfl⟩⟩;exact wkDS3)
    ·(first|exact absurd trivial hc|exact absurd rfl hc|(cases hc;done)|omega|exact absurd hc (by decide)|(simp at hc;done))
   | false=>
    rw [vMk_8f hrD h8 ho] at hwb ⊢
    dsimp only at hwb
    rw [ho] at o8
    (repeat (first|refine walkS ?_|refine vS 0 (o8) ?_))
    refine aw_condS rfl (fun hc=>?_) (fun hc=>?_)
    ·(first|exact absurd trivial hc|exact absurd rfl hc|(cases hc;done)|omega|exact absurd hc (by decide)|(simp at hc;done))
    refine walkS ?_
    (refine rtS Tryz.results55 ?_;refine ⟨_,[],.inr (.inl ⟨.agg [iD 0,.sl 1 [],.sl 3 []],rfl,rfl,?_⟩),_,(curP q (once c 2).2:List Eng.D).map .d,[],rfl,toZL_d _ (curP q (once c 2).2),by simp,⟨rfl,by simp only [curP,hwb];rfl⟩⟩;exact wkDS3)
  refine walkS ?_
  refine aw_condS rfl (fun h9=>?_) (fun h9=>?_)
  ·have hk9:=G.k9 h9
   have i0:=kids0 (r:=r) (by omega)
   have HH:=K0 q c hb (by omega)
   rw [vMk_9 hrD h9] at hwb ⊢
   dsimp only at hwb
   (repeat (first|refine ctlS ?_|(refine ol_go ?_ (fun K1 hK1=>?_);exact trS;refine evS ?_;(try simp only [hmw]);refine hK1 _ _ ?_;clear hK1 K1)|(refine ow_go ?_ dsS (fun K1 hK1=>?_);exact trS;refine evS ?_;(try simp only [hmw]);refine hK1 _ ?_;clear hK1 K1)|refine skipS ?_|refine vS 0 (HH) ?_))
   (refine rtS Tryz.results55 ?_;refine ⟨_,[],.inr (.inl ⟨.agg [iD 0,.sl 1 [],.sl 3 [encVc (vMk D f (kid0 r).toNat (m.tdiv 2) c).1]],rfl,rfl,?_⟩),_,(curP q (vMk D f (kid0 r).toNat (m.tdiv 2) c).2:List Eng.D).map .d,[],rfl,toZL_d _ (curP q (vMk D f (kid0 r).toNat (m.tdiv 2) c).2),by simp,⟨rfl,by simp only [curP,hwb];rfl⟩⟩;exact wkDS3)
  ·rw [vMk_o hrD ⟨h1,h3,h4,h5,h6,h7,h8,h9,h10⟩]
   refine walkS ?_
   (refine rtS Tryz.results55 ?_;refine ⟨_,[],.inr (.inl ⟨.agg [iD 0,.sl 1 [],.sl 3 []],rfl,rfl,?_⟩),_,(curP q c:List Eng.D).map .d,[],rfl,toZL_d _ (curP q c),by simp,⟨rfl,rfl⟩⟩;exact wkDS3)
 exact hgoal.mono fun r' b ⟨e1,e2⟩=>⟨e1,by rw [e2];simp only [curP,hwb]⟩
theorem vMk_all (hD:DB 1048576 D) (hV:descP D):∀ f,VmOK D f
 | 0=>fun p i m c _ h=>by omega
 | f+1=>vMk_step hD hV (vMk_all hD hV f)
end
end Go.Proofs.YtndnefealooolaaGreatDoor.Eng
