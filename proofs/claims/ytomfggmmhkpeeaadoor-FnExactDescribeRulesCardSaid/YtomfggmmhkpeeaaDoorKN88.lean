/-
 Greatest sizes, the program: the best of a choice's alternatives.
-/
import Derived.Test.YtomfggmmhkpeeaaDoorKNSZ
import Derived.Test.YtomfggmmhkpeeaaDoorKPure22
set_option linter.unusedSimpArgs false
set_option linter.unusedVariables false
set_option linter.defProp false
set_option maxRecDepth 100000
set_option maxHeartbeats 4000000
namespace Go.Proofs.YtomfggmmhkpeeaaDoor.Eng
open Go Go.RowKit

theorem maxF_eq (a b:Int):maxF a b=max a b:=by unfold maxF;omega
theorem topK_take {ts:List Int}{a:Int}{ks:List Int}{j:Nat} (h:j<ks.length):topK ts a (ks.take (j+1))=maxF (topK ts a (ks.take j)) (atT ts ks[j]):=by
 unfold topK
 rw [List.take_succ_eq_append_getElem h,List.map_append,List.foldl_append,maxF_eq]
 rfl
private def tyF:=ai (ai (ai tg59 tg39) (ai tg26 tg40)) (ai (ai tg42 tg3) (ai tg4 (ai tg5 tg9)))
theorem altX_c {M:Nat}{r:RuleD} (hr:RB M r) (hM:M≤1048576) {ts:List Int} (h24:ts.length=24) (hk:∀ j (hj:j<r.kids.length),0≤r.kids[j]∧r.kids[j]<24) (h2:2≤r.kids.length) :
  AC Tryd.prog 66 [.ptr 0 0,.d (encR r),.d (.v (.func (.func 47) #[] #[]))] (some ((ts.map iD).map .d)) (fun r' b=>r'=.d (iD (topK ts (atT ts (kid1 r)) (r.kids.drop 2)))∧b=some ((ts.map iD).map .d)):=by
 have hlk:=hr.lk
 have hd2:(r.kids.drop 2).length=r.kids.length - 2:=List.length_drop ..
 have i1:=kids1 (r:=r) (by omega)
 obtain ⟨g1,g2⟩:0≤kid1 r∧kid1 r<24:=by
  obtain ⟨hl,he⟩:=List.getElem?_eq_some_iff.1 i1
  have:=hk 1 hl
  rw [he] at this
  exact this
 generalize hkd:kid1 r=kd at *
 have hkt:kd.toNat<ts.length:=by omega
 have hat:(List.map A.d (List.map iD ts))[kd.toNat]?=some (.d (iD (atT ts kd))):=by simp [hkt,atT,List.getD]
 refine calls_body Tryd.func66 rfl Tryd.call66 Tryd.ntmps66 (by simp) (by simp [ArgsOk]) (by intro zs hz;have:=Option.some.inj hz;subst this;rw [nkL_map];decide) fun en hsz hks hk0=>?_
 simp only [St.init,frOf,addSL_map,toAL_map,List.zipIdx_cons,List.zipIdx_nil,List.map_cons,List.map_nil,Nat.zero_add,Nat.reduceAdd]
 have hkl:∀ k∈r.kids.drop 2,0≤k∧k<24:=fun k hm=>by
  obtain ⟨j,hj,rfl⟩:=List.getElem_of_mem (List.mem_of_mem_drop hm)
  exact hk j hj
 have hsl:List.take (r.kids.length - 2) (List.drop 2 r.kids)=r.kids.drop 2:=List.take_of_length_le (by omega)
 generalize hL:r.kids.drop 2=L at *
 (repeat (first|refine ctlS ?_|(refine ol_go ?_ (fun K1 hK1=>?_);exact trS;refine evS ?_;(try simp only [partA_at hat,hL,hsl]);refine hK1 _ _ ?_;clear hK1 K1)|(refine ow_go ?_ dsS (fun K1 hK1=>?_);exact trS;refine evS ?_;(try simp only [partA_at hat,hL,hsl]);refine hK1 _ ?_;clear hK1 K1)|refine skipS ?_))
 refine aw_loopS [0,2,6,20,21] (fun _ _=>[]) (fun _ z=>[(22,.d (iD (z.1:Nat))),(7,.d (iD z.2))]) [] (fun _ _=>[]) [] (fun _ _=>[]) (fun z:Nat × Int=>z.1≤L.length∧z.2=topK ts (atT ts kd) (L.take z.1)) (fun z=>L.length - z.1) ((0,atT ts kd)) hks (fun _=>rfl) ⟨Nat.zero_le _,rfl⟩ wkS ?_;intro x hx;refine headS ?_
 obtain ⟨j,n⟩:=x
 simp only at hx ⊢
 obtain ⟨hx1,hx2⟩:=hx
 refine walkS ?_
 refine aw_condS rfl (fun hj=>?_) (fun hj=>?_)
 ·have hjl:j<L.length:=by omega
  have i2:L[j]?=some L[j]:=List.getElem?_eq_getElem hjl
  have hs:=topK_take (ts:=ts) (a:=atT ts kd) hjl
  obtain ⟨g3,g4⟩:=hkl L[j] (List.getElem_mem hjl)
  generalize L[j]=ke at *
  have hke:ke.toNat<ts.length:=by omega
  have hat2:(List.map A.d (List.map iD ts))[ke.toNat]?=some (.d (iD (atT ts ke))):=by simp [hke,atT,List.getD]
  (repeat (first|refine ctlS ?_|(refine ol_go ?_ (fun K1 hK1=>?_);exact trS;refine evS ?_;(try simp only [partA_at hat2]);refine hK1 _ _ ?_;clear hK1 K1)|(refine ow_go ?_ dsS (fun K1 hK1=>?_);exact trS;refine evS ?_;(try simp only [partA_at hat2]);refine hK1 _ ?_;clear hK1 K1)|refine skipS ?_|refine cS (maxI_c n (atT ts ke)) ?_|(refine callPreV ?_;(first|refine callN_funS rfl (maxI_c n (atT ts ke)) ?_))))
  refine ⟨(j+1,maxF n (atT ts ke)),⟨by simp only;omega,by simp only;rw [hs,hx2]⟩,by simp only;omega,?_⟩
  exact wkS
 ·rw [List.take_of_length_le (by omega)] at hx2
  refine walkS ?_
  (refine rtS Tryd.results66 ?_;exact ⟨_,[],.inl ⟨rfl,rfl⟩,_,(ts.map iD:List Eng.D).map .d,[],rfl,toZL_d _ (ts.map iD),by simp,⟨by rw [hx2],rfl⟩⟩)
end Go.Proofs.YtomfggmmhkpeeaaDoor.Eng
