/-
 Least sizes, the program: what a table of sizes adds up.

 Least sizes, the program: the best of a choice's alternatives.
-/
import Derived.Test.YtomfggmmhkpeeaaDoorKTy
import Derived.Test.YtomfggmmhkpeeaaDoorKN0
import Derived.Test.YtomfggmmhkpeeaaDoorKE4
import Derived.Test.YtomfggmmhkpeeaaDoorKN38A
import Derived.Test.YtomfggmmhkpeeaaDoorKPure21
set_option linter.unusedSimpArgs false
set_option linter.unusedVariables false
set_option linter.defProp false
set_option maxRecDepth 100000
set_option maxHeartbeats 4000000
namespace Go.Proofs.YtomfggmmhkpeeaaDoor.Eng
open Go Go.RowKit

theorem toAL_map:∀ (l:List D) (κ:Nat),Rz.toAL (l.map Rz.d) κ=l.map A.d
 | [],_=>rfl
 | x::l,κ=>by
  simp only [List.map_cons]
  unfold Rz.toAL
  rw [toAL_map l]
  rfl
theorem addSL_map:∀ (l:List D) (κ:Nat) (s:St),Rz.addSL (l.map Rz.d) κ s=s
 | [],_,_=>rfl
 | x::l,κ,s=>by
  simp only [List.map_cons]
  unfold Rz.addSL
  rw [addSL_map l]
  rfl
theorem nkL_map:∀ (l:List D),Rz.nkL (l.map Rz.d)=0
 | []=>rfl
 | x::l=>by
  simp only [List.map_cons]
  unfold Rz.nkL
  rw [nkL_map l]
  rfl
def sumT (ts:List Int) (ks:List Int):Int:=(ks.map fun k=>ts.getD k.toNat 0).foldl (·+·) 0
theorem sumT_take {ts ks:List Int}{j:Nat} (h:j<ks.length):sumT ts (ks.take (j+1))=sumT ts (ks.take j)+ts.getD (ks[j]).toNat 0:=by
 unfold sumT
 rw [List.take_succ_eq_append_getElem h,List.map_append,List.foldl_append]
 rfl
private def tyF:=ai (ai (ai tg59 tg39) (ai tg26 tg40)) (ai (ai tg42 tg3) (ai tg4 (ai tg5 tg9)))
theorem sumT_c {M:Nat}{r:RuleD} (hr:RB M r) (hM:M≤1048576) {ts:List Int} (h24:ts.length=24) (hb:∀ j (hj:j<ts.length),0≤ts[j]∧ts[j]≤401) (hk:∀ j (hj:j<r.kids.length),0≤r.kids[j]∧r.kids[j]<24) :
  AC Tryd.prog 65 [.ptr 0 0,.d (encR r)] (some ((ts.map iD).map .d)) (fun r' b=>r'=.d (iD (sumT ts r.kids))∧b=some ((ts.map iD).map .d)):=by
 have hlk:=hr.lk
 refine calls_body Tryd.func65 rfl Tryd.call65 Tryd.ntmps65 (by simp) (by simp [ArgsOk]) (by intro zs hz;have:=Option.some.inj hz;subst this;rw [nkL_map];decide) fun en hsz hks hk0=>?_
 simp only [St.init,frOf,addSL_map,toAL_map,List.zipIdx_cons,List.zipIdx_nil,List.map_cons,List.map_nil,Nat.zero_add,Nat.reduceAdd]
 refine walkS ?_
 refine aw_loopS [0,4,9,10] (fun _ _=>[]) (fun _ z=>[(11,.d (iD (z.1:Nat))),(5,.d (iD z.2))]) [] (fun _ _=>[]) [] (fun _ _=>[]) (fun z:Nat × Int=>z.1≤r.kids.length∧z.2=sumT ts (r.kids.take z.1)∧0≤z.2∧z.2≤401*z.1) (fun z=>r.kids.length - z.1) ((0,0)) hks (fun _=>rfl) ⟨Nat.zero_le _,rfl,by omega,by omega⟩ wkS ?_;intro x hx;refine headS ?_
 obtain ⟨j,n⟩:=x
 simp only at hx ⊢
 obtain ⟨hx1,hx2,hx3,hx4⟩:=hx
 refine walkS ?_
 refine aw_condS rfl (fun hj=>?_) (fun hj=>?_)
 ·have hjl:j<r.kids.length:=by omega
  have i1:r.kids[j]?=some r.kids[j]:=List.getElem?_eq_getElem hjl
  have hs:=sumT_take (ts:=ts) hjl
  obtain ⟨g1,g2⟩:=hk j hjl
  generalize r.kids[j]=kd at *
  have hkt:kd.toNat<ts.length:=by omega
  have hat:(List.map A.d (List.map iD ts))[kd.toNat]?=some (.d (iD ts[kd.toNat])):=by simp [hkt]
  have hbt:=hb kd.toNat hkt
  rw [show ts.getD kd.toNat 0=ts[kd.toNat] by simp [List.getD,hkt]] at hs
  (repeat (first|refine ctlS ?_|(refine ol_go ?_ (fun K1 hK1=>?_);exact trS;refine evS ?_;(try simp only [partA_at hat]);refine hK1 _ _ ?_;clear hK1 K1)|(refine ow_go ?_ dsS (fun K1 hK1=>?_);exact trS;refine evS ?_;(try simp only [partA_at hat]);refine hK1 _ ?_;clear hK1 K1)|refine skipS ?_))
  refine ⟨(j+1,n+ts[kd.toNat]),⟨by simp only;omega,by simp only;rw [hs,hx2],by simp only;omega,by simp only;omega⟩,by simp only;omega,?_⟩
  exact wkS
 ·rw [List.take_of_length_le (by omega)] at hx2
  refine walkS ?_
  (refine rtS Tryd.results65 ?_;exact ⟨_,[],.inl ⟨rfl,rfl⟩,_,(ts.map iD:List Eng.D).map .d,[],rfl,toZL_d _ (ts.map iD),by simp,⟨by rw [hx2],rfl⟩⟩)
end Go.Proofs.YtomfggmmhkpeeaaDoor.Eng
namespace Go.Proofs.YtomfggmmhkpeeaaDoor.Eng
open Go Go.RowKit

theorem minF_eq (a b:Int):minF a b=min a b:=by unfold minF;omega
theorem altK_take {ts:List Int}{a:Int}{ks:List Int}{j:Nat} (h:j<ks.length):altK ts a (ks.take (j+1))=minF (altK ts a (ks.take j)) (atT ts ks[j]):=by
 unfold altK
 rw [List.take_succ_eq_append_getElem h,List.map_append,List.foldl_append,minF_eq]
 rfl
theorem altT_c {M:Nat}{r:RuleD} (hr:RB M r) (hM:M≤1048576) {ts:List Int} (h24:ts.length=24) (hk:∀ j (hj:j<r.kids.length),0≤r.kids[j]∧r.kids[j]<24) (h2:2≤r.kids.length) :
  AC Tryd.prog 66 [.ptr 0 0,.d (encR r),.d (.v (.func (.func 45) #[] #[]))] (some ((ts.map iD).map .d)) (fun r' b=>r'=.d (iD (altK ts (atT ts (kid1 r)) (r.kids.drop 2)))∧b=some ((ts.map iD).map .d)):=by
 have hlk:=hr.lk
 have hd2:(r.kids.drop 2).length=r.kids.length - 2:=List.length_drop ..
 have i1:=kids1 (r:=r) (by omega)
 obtain ⟨g1,g2⟩:0≤kid1 r∧kid1 r<24:=by
  obtain ⟨hl,he⟩:=List.getElem?_eq_some_iff.1 i1
  have:=hk 1 hl
  rw [he] at this
  exact this
 generalize hkd:kid1 r=kd at *
 have hkt:kd.toNat<ts.length:=by omega
 have hat:(List.map A.d (List.map iD ts))[kd.toNat]?=some (.d (iD (atT ts kd))):=by simp [hkt,atT,List.getD]
 refine calls_body Tryd.func66 rfl Tryd.call66 Tryd.ntmps66 (by simp) (by simp [ArgsOk]) (by intro zs hz;have:=Option.some.inj hz;subst this;rw [nkL_map];decide) fun en hsz hks hk0=>?_
 simp only [St.init,frOf,addSL_map,toAL_map,List.zipIdx_cons,List.zipIdx_nil,List.map_cons,List.map_nil,Nat.zero_add,Nat.reduceAdd]
 have hkl:∀ k∈r.kids.drop 2,0≤k∧k<24:=fun k hm=>by
  obtain ⟨j,hj,rfl⟩:=List.getElem_of_mem (List.mem_of_mem_drop hm)
  exact hk j hj
 have hsl:List.take (r.kids.length - 2) (List.drop 2 r.kids)=r.kids.drop 2:=List.take_of_length_le (by omega)
 generalize hL:r.kids.drop 2=L at *
 (repeat (first|refine ctlS ?_|(refine ol_go ?_ (fun K1 hK1=>?_);exact trS;refine evS ?_;(try simp only [partA_at hat,hL,hsl]);refine hK1 _ _ ?_;clear hK1 K1)|(refine ow_go ?_ dsS (fun K1 hK1=>?_);exact trS;refine evS ?_;(try simp only [partA_at hat,hL,hsl]);refine hK1 _ ?_;clear hK1 K1)|refine skipS ?_))
 refine aw_loopS [0,2,6,20,21] (fun _ _=>[]) (fun _ z=>[(22,.d (iD (z.1:Nat))),(7,.d (iD z.2))]) [] (fun _ _=>[]) [] (fun _ _=>[]) (fun z:Nat × Int=>z.1≤L.length∧z.2=altK ts (atT ts kd) (L.take z.1)) (fun z=>L.length - z.1) ((0,atT ts kd)) hks (fun _=>rfl) ⟨Nat.zero_le _,rfl⟩ wkS ?_;intro x hx;refine headS ?_
 obtain ⟨j,n⟩:=x
 simp only at hx ⊢
 obtain ⟨hx1,hx2⟩:=hx
 refine walkS ?_
 refine aw_condS rfl (fun hj=>?_) (fun hj=>?_)
 ·have hjl:j<L.length:=by omega
  have i2:L[j]?=some L[j]:=List.getElem?_eq_getElem hjl
  have hs:=altK_take (ts:=ts) (a:=atT ts kd) hjl
  obtain ⟨g3,g4⟩:=hkl L[j] (List.getElem_mem hjl)
  generalize L[j]=ke at *
  have hke:ke.toNat<ts.length:=by omega
  have hat2:(List.map A.d (List.map iD ts))[ke.toNat]?=some (.d (iD (atT ts ke))):=by simp [hke,atT,List.getD]
  (repeat (first|refine ctlS ?_|(refine ol_go ?_ (fun K1 hK1=>?_);exact trS;refine evS ?_;(try simp only [partA_at hat2]);refine hK1 _ _ ?_;clear hK1 K1)|(refine ow_go ?_ dsS (fun K1 hK1=>?_);exact trS;refine evS ?_;(try simp only [partA_at hat2]);refine hK1 _ ?_;clear hK1 K1)|refine skipS ?_|refine cS (minI_c n (atT ts ke)) ?_|(refine callPreV ?_;(first|refine callN_funS rfl (minI_c n (atT ts ke)) ?_))))
  refine ⟨(j+1,minF n (atT ts ke)),⟨by simp only;omega,by simp only;rw [hs,hx2]⟩,by simp only;omega,?_⟩
  exact wkS
 ·rw [List.take_of_length_le (by omega)] at hx2
  refine walkS ?_
  (refine rtS Tryd.results66 ?_;exact ⟨_,[],.inl ⟨rfl,rfl⟩,_,(ts.map iD:List Eng.D).map .d,[],rfl,toZL_d _ (ts.map iD),by simp,⟨by rw [hx2],rfl⟩⟩)
end Go.Proofs.YtomfggmmhkpeeaaDoor.Eng
