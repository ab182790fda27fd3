/-
 The program's reader: items, in blocks of their own.
-/
import Derived.Test.YtomfggmmhkpeeaaGreatDoorKLSX
set_option linter.unusedSimpArgs false
set_option linter.unusedVariables false
set_option linter.defProp false
set_option maxRecDepth 100000
set_option maxHeartbeats 4000000
namespace Go.Proofs.YtomfggmmhkpeeaaGreatDoor.Eng
open Go Go.RowKit

section
variable {M:Nat}{D:List RuleD}{b:List UInt8}
def RdOKW (D:List RuleD) (b:List UInt8) (f:Nat):Prop:=∀ n p:Nat,n<f→n<D.length→p≤b.length→∃ m:Nat,((rd D b f n p).2.2=0→m=(rd D b f n p).2.1)∧ACN Tryz.prog 34 [.d (frD D b),.d (iD n),.d (iD p)] (rdW m (rd D b f n p))

theorem elemsN_own1 (k z:Nat) (e:TypeId) (es:List (List Eng.D)):elemsN z (.own k e z es)=some es:=by simp [elemsN]
theorem dv3 {k z:Nat}{e:TypeId}{es:List (List Eng.D)}{p:Nat→Prop} (x y:A):dvL [x,y,.sow k e z es p] [x,y,.d (.iv p (.sp z es))]:=by
 unfold dvL
 refine ⟨_,_,rfl,.inl rfl,?_⟩
 unfold dvL
 refine ⟨_,_,rfl,.inl rfl,?_⟩
 unfold dvL
 exact ⟨_,_,rfl,.inr (.inr ⟨_,_,_,_,_,rfl,rfl⟩),by unfold dvL;rfl⟩
private def tyF:=ai (ai (ai tg25 tg27) (ai tg87 (ai tg29 tg3))) (ai (ai tg5 (ai tg57 tg61)) (ai encWi_len (ai mkAgg_W cells1_W)))
theorem itemsW_c {f:Nat} (H:RdOKW D b f) (n:Int) (ks:List Nat) (hkl:ks.length≤1048576) (hkr:∀ i (hi:i<ks.length),ks[i]<f∧ks[i]<D.length) (p:Nat) (hp:p≤b.length):ACN Tryz.prog 68 [.d (frD D b),.d (V0d n),.d (encI (ks.map fun k:Nat=>(k:Int))),.d (iD p)] (rdW (atItems (rd D b f) ks p) (mkItems n (rdItems (rd D b f) ks p))):=by
 have hl:(ks.map fun k:Nat=>(k:Int)).length=ks.length:=List.length_map _
 refine calls_bodyI Tryz.func68 rfl Tryz.call68 Tryz.ntmps68 (by simp) (by simp [ArgsOk]) fun en hsz hcok hX hks=>?_;refine enS ?_
 refine walkS ?_
 refine aw_loopS [0,5,8,9,10,16,17] (fun κ s'=>[(κ,keyB s' 16 2)]) (fun κ x=>[(18,.d (iD (x.1:Nat))),(3,.d (iD (x.2.1:Nat)))]) [16] (fun κ x=>[(16,some [.d (iD n),.d (.v (.slice none 0 0)),.sow κ 29 3 (encWs x.2.2) (fun b=>en.w.heap.size≤b)])]) [] (fun κ x=>[(κ,some (x.2.2.length,29,3))]) (fun x:Nat × Nat × List V=>x.1≤ks.length∧x.2.1≤b.length∧x.2.2.length=x.1∧rdItems (rd D b f) ks p=joinItems x.2.2 (rdItems (rd D b f) (ks.drop x.1) x.2.1)∧atItems (rd D b f) ks p=atItems (rd D b f) (ks.drop x.1) x.2.1) (fun x=>ks.length - x.1) ((0,p,[])) hks (fun _=>rfl) ⟨Nat.zero_le _,hp,rfl,joinItems_start _ _ _,rfl⟩ wkSW ?_;intro x hx;refine headS ?_
 obtain ⟨k,q,vs⟩:=x
 simp only at hx ⊢
 obtain ⟨hx1,hx2,hx3,hx4,hx5⟩:=hx
 refine walkS ?_
 refine aw_condS rfl (fun hk=>?_) (fun hk=>?_)
 ·obtain ⟨hk2,hk3⟩:=hkr k (by omega)
  have hi:(ks.map fun k:Nat=>(k:Int))[k]?=some ((ks[k]:Nat):Int):=by rw [List.getElem?_map,List.getElem?_eq_getElem (by omega)];rfl
  have hin:=rd_in D b f ks[k] q hx2
  obtain ⟨m,hm,HV⟩:=H _ q hk2 hk3 hx2
  have hdk:ks.drop k=ks[k]::ks.drop (k+1):=List.drop_eq_getElem_cons (by omega)
  have hbad:=joinItems_bad (f:=rd D b f) (vs:=vs) (k:=ks[k]) (ks:=ks.drop (k+1)) (q:=q)
  have hok:=joinItems_ok (f:=rd D b f) (vs:=vs) (k:=ks[k]) (ks:=ks.drop (k+1)) (q:=q)
  have hab:=atItems_bad (f:=rd D b f) (k:=ks[k]) (ks:=ks.drop (k+1)) (p:=q)
  have hao:=atItems_ok (f:=rd D b f) (k:=ks[k]) (ks:=ks.drop (k+1)) (p:=q)
  rw [hdk] at hx4 hx5
  generalize rd D b f ks[k] q=res at *
  obtain ⟨v,q2,c⟩:=res
  obtain ⟨hin1,hin2⟩:=hin
  simp only at hin1 hin2 hm hbad hok hab hao
  by_cases hc0:c=0
  ·subst hc0
   obtain rfl:=hm rfl
   rw [hok rfl] at hx4
   rw [hao rfl] at hx5
   have HV':ACD Tryz.prog 34 [.d (frD D b),.d (iD ks[k]),.d (iD q)] (fun n0=>.tup [.agg (encWi (fun b=>n0≤b) v),iD m,nilE]):=HV.acd
   refine walkS ?_
   (refine ow_callS 16 ?_ dsS rfl rfl HV' (fun n1 hn1=>?_);exact trS;simp only [St.set,boundS,List.map_cons,List.map_nil])
   refine walkS ?_
   refine aw_condS rfl (fun hc=>?_) (fun hc=>?_)
   ·(first|exact absurd trivial hc|exact absurd rfl hc|(cases hc;done)|omega|exact absurd hc (by decide)|(simp at hc;done))
   ·refine walkS ?_
    (refine ow_appS (fun b=>n1≤b) ?_ dsS rfl te27 tr29 rfl (congrArg (fun n=>some (n,29,3)) (encWs_len vs).symm) (elemsN_own1 _ _ _ _) (encWi_len _ _) (encWi_on _ v) (by rw [encWs_len];omega) (fun b h=>h.1) (fun b h=>by omega) (fun b h1 h2=>by omega) ?_;exact trS;simp only [St.set])
    refine walkS ?_
    refine ⟨(k+1,m,vs++[v]),⟨by simp only;omega,hin2,by simp [hx3],hx4,hx5⟩,by simp only;omega,?_⟩
    exact wkSW
  ·rw [hbad hc0] at hx4
   rw [hab hc0] at hx5
   have HV':ACN Tryz.prog 34 [.d (frD D b),.d (iD ks[k]),.d (iD q)] (fun n0=>.tup [.agg (encWi (fun b=>n0≤b) v),iD m,erD q2 c]):=by
    rw [rdW_p hc0] at HV
    exact HV
   have hanti:=rdW_anti v (iD m) (erD q2 c)
   (repeat (first|refine walkS ?_|(refine ow_callFA ?_ dsS rfl (HV') ?_;exact trS;simp only [St.set,List.map_cons,List.map_nil])|(refine ol_callN ?_ rfl (HV') ?_;exact trS;simp only [St.set,List.map_cons,List.map_nil])))
   refine aw_condS rfl (fun hc=>?_) (fun hc=>?_)
   ·refine walkS ?_
    (refine rtS Tryz.results68 ?_;refine ⟨_,[],.inr (.inr ⟨.tup [.agg [iD 0,.iv (fun b=>en.w.heap.size≤b) (encB []),.iv (fun b=>en.w.heap.size≤b) (.sp 3 [])],iD (q:Nat),erD q2 c],_,rfl,rfl,rfl,?_⟩),List.nodup_nil,by rw [hx4,hx5];simp only [mkItems,if_neg hc0,rdW,eD_p hc0];rfl⟩;exact semS)
   ·(first|exact absurd trivial hc|exact absurd rfl hc|(cases hc;done)|omega|exact absurd hc (by decide)|(simp at hc;done))
 ·refine aw_boxD (k:=16) rfl (dv3 _ _) ?_
  refine walkS ?_
  (refine rtS Tryz.results68 ?_;refine ⟨_,[],.inr (.inr ⟨.tup [.agg [iD n,.iv (fun b=>en.w.heap.size≤b) (encB []),.iv (fun b=>en.w.heap.size≤b) (.sp 3 (encWs vs))],iD (q:Nat),nilE],_,rfl,rfl,rfl,?_⟩),List.nodup_nil,by rw [hx4,hx5,List.drop_eq_nil_of_le (by omega),joinItems_end];rfl⟩;exact semS)
end
end Go.Proofs.YtomfggmmhkpeeaaGreatDoor.Eng
