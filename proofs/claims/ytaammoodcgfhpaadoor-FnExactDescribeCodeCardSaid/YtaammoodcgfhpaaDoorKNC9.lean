/-
 The last rule.

 The code of a description, the reference.
-/
import Derived.Test.YtaammoodcgfhpaaDoorKTy
import Derived.Test.YtaammoodcgfhpaaDoorKN0
import Derived.Test.YtaammoodcgfhpaaDoorKE3
import Derived.Test.YtaammoodcgfhpaaDoorKE51
import Derived.Test.YtaammoodcgfhpaaDoorKNC8
set_option linter.unusedSimpArgs false
set_option linter.unusedVariables false
set_option linter.defProp false
set_option maxRecDepth 100000
set_option maxHeartbeats 4000000
namespace Go.Proofs.YtaammoodcgfhpaaDoor.Eng
open Go Go.RowKit

section
variable {M:Nat}{D:List RuleD}
private def tyF:=ai (ai (ai tg54 (ai tg26 tg28)) (ai tg38 (ai tg39 tg30))) (ai (ai tg41 (ai tg46 tg61)) (ai (ai tg3 tg4) (ai tg5 tg9)))
theorem rootI_c (hD:DB M D) (hM:M≤1048576):AC Tryd.prog 34 [.d (encD D)] none (fun r' _=>r'=.d (iD ((D.length:Int) - 1))):=by
 have hl:=hD.len
 refine cbS Tryd.func34 rfl Tryd.call34 Tryd.ntmps34 fun en hsz hks hk0=>?_;refine enS ?_
 refine walkS ?_
 (refine rtS Tryd.results34 ?_;exact ⟨_,_,.inl ⟨rfl,rfl⟩,List.nodup_nil,rfl⟩)

end
end Go.Proofs.YtaammoodcgfhpaaDoor.Eng
namespace Go.Proofs.YtaammoodcgfhpaaDoor.Eng
open Go Go.RowKit

section
variable {D:List RuleD}
abbrev codeE (cs:List Ins):Eng.D:=.sl 3 (cs.map insC)
theorem wkD_ownX (k:Nat) (e:TypeId) (z:Nat) (es:List (List Eng.D)):wkD (.sl z es) (.own k e z es):=by
 unfold wkD
 exact .inr ⟨_,_,_,rfl,dleLL_refl _⟩
abbrev prgE (cs:List Ins) (es:List Int):Eng.D:=.agg [codeE cs,encI es]
theorem cmpD_head (D:List RuleD):∀ n,(cmpD D n).1=(9,0,0)::(cmpD D n).1.drop 1
 | 0=>rfl
 | n+1=>by
  have:=cmpD_head D n
  rw [cmpD]
  generalize (cmpD D n).1=c at *
  rw [this]
  rfl
theorem cmpD_step (D:List RuleD) (n:Nat):cmpD D (n+1)=((cmpD D n).1++cmpR (ruleD D n) (cmpD D n).1.length (cmpD D n).2,(cmpD D n).2++[((cmpD D n).1.length:Int)]):=rfl
def insV (cs:List Ins):List Value:=cs.flatMap fun x=>[Value.int .i64 x.1,Value.int .i64 x.2.1,Value.int .i64 x.2.2]
theorem insV_flat:∀ cs:List Ins,(cs.map insC).flatten=(insV cs).map .v
 | []=>rfl
 | x::cs=>by
  have:=insV_flat cs
  unfold insV at this ⊢
  simp only [List.map_cons,List.flatten_cons,this,List.flatMap_cons,List.map_append]
  rfl
theorem ents_flat (es:List Int):flatEs (es.map fun n=>[iD n]):=flat_map (fun n:Int=>Value.int .i64 n) es
theorem insC_len (cs:List Ins):∀ e∈cs.map insC,e.length=3:=fun e he=>by
 obtain ⟨x,_,rfl⟩:=List.mem_map.1 he
 rfl
theorem cmpDS_n (hD:DB 1048576 D) (hv:vDesc D=true):ACN Tryd.prog 14 [.d (encD D)] (fun _=>prgE (cmpP D) (cmpD D D.length).2):=by
 have hV:descP D:=descP_of hv
 have h24:D.length≤24:=hV.1.2
 have h1D:1≤D.length:=hV.1.1
 have HV:=(validS_c hD (Nat.le_refl _)).eqv (r1:=.d (bD true)) (by rw [hv])
 have O1:=opS_c 9 0 0
 have O2:=opS_c 17 0 0
 refine calls_bodyI Tryd.func14 rfl Tryd.call14 Tryd.ntmps14 (by simp) (by simp [ArgsOk]) fun en hsz hcok hX hks=>?_;refine enS ?_
 (repeat (first|refine walkS ?_|refine cS (HV) ?_))
 refine aw_condS rfl (fun h0=>?_) (fun h0=>?_)
 ·(first|exact absurd trivial h0|exact absurd rfl h0|(cases h0;done)|omega|exact absurd h0 (by decide)|(simp at h0;done))
 (repeat (first|refine walkS ?_|refine cS (O1) ?_|refine cS (O2) ?_))
 rw [show ([[iD 9,iD 0,iD 0],[iD 17,iD 0,iD 0]]:List (List Eng.D))=([(9,0,0),(17,0,0)]:List Ins).map insC from rfl]
 refine aw_loopS [1,2,3] (fun κ s'=>[(κ,keyB s' 112 0),(κ+1,keyB s' 112 1)]) (fun κ x=>[(4,.d (iD (x.1:Nat)))]) [112] (fun κ x=>[(112,some [.own κ 46 3 (x.2.1.map insC),.own (κ+1) 3 1 (x.2.2.map fun n=>[iD n])])]) [96] (fun κ x=>[(κ,some (x.2.1.length,46,3)),(κ+1,some (x.2.2.length,3,1))]) (fun x:Nat × List Ins × List Int=>x.1≤D.length∧(x.2.1,x.2.2)=cmpD D x.1) (fun x=>D.length - x.1) ((0,[(9,0,0),(17,0,0)],[])) hks (fun _=>rfl) ⟨Nat.zero_le _,rfl⟩ wkS ?_;intro x hx;refine headS ?_
 obtain ⟨x,cs,es⟩:=x
 simp only at hx ⊢
 obtain ⟨hx,hce⟩:=hx
 have hcl:=cmpD_le hD h24 hx
 have hel:=cmpD_len D x
 have hst:=cmpD_step D x
 rw [←hce] at hcl hel hst
 dsimp only at hcl hel hst
 refine walkS ?_
 refine aw_condS rfl (fun h1=>?_) (fun h1=>?_)
 ·have hxl:x<D.length:=by omega
  obtain ⟨r,hr⟩:∃ r,D[x]?=some r:=⟨_,List.getElem?_eq_getElem hxl⟩
  rw [ruleD_get hr] at hst
  have HC:=compRS_c (st:=(cs.length:Int)) hD hV hr hel ⟨by omega,by omega⟩
  have hB:=cmpB_len (hD.rule r (List.mem_of_getElem? hr)) (cs.length:Int) es
  have hRl:(cmpR r cs.length es).length≤6+4*1048576+1:=by rw [cmpR,List.length_append,List.length_singleton];omega
  generalize cmpR r cs.length es=R at *
  (repeat (first|refine walkS ?_|refine cS (HC) ?_))
  refine ⟨(x+1,cs++R,es++[(cs.length:Int)]),⟨by simp only;omega,hst.symm⟩,by simp only;omega,?_⟩
  exact wkS
 ·obtain rfl:x=D.length:=by omega
  have hg:=cmpD_ge D D.length
  rw [←hce] at hg
  dsimp only at hg
  (repeat (first|refine aw_seq ?_|refine aw_region ?_|refine aw_block ?_|(refine aw_exit ?_;(try simp (decide:=true) only [reduceIte]))|(refine aw_skip ?_;try dsimp only)|(refine ow_nil ?_;try dsimp only)|(refine ol_go ?_ (fun K1 hK1=>?_);exact trS;refine evS ?_;refine hK1 _ _ ?_;clear hK1 K1)|(refine ol_skip rfl rfl ?_ ?_;(focus (intro hne;cases hne;done));simp only [St.set])|(refine ol_nil ⟨by kernel_rfl,?_⟩;try dsimp only)|(refine ow_go ?_ dsS (fun K1 hK1=>?_);exact trS;refine evS ?_;refine hK1 _ ?_;clear hK1 K1)|(refine ow_skip rfl rfl ?_ dsS ?_;(focus (intro hne;cases hne;done));simp only [St.set])))
  refine aw_anyL (by kernel_rfl) (by kernel_rfl) rfl rfl (by kernel_rfl) (by simp only [hsz];kernel_rfl) ?_
  (iterate 10 (first|refine aw_seq ?_|refine aw_region ?_|refine aw_block ?_|(refine aw_exit ?_;(try simp (decide:=true) only [reduceIte]))|(refine aw_skip ?_;try dsimp only)|(refine aw_any (by kernel_rfl) (by kernel_rfl) (by simp only [hsz];kernel_rfl) ?_)|(refine ow_nil ?_;try dsimp only)|(refine ol_go ?_ (fun K1 hK1=>?_);exact trS;refine evS ?_;refine hK1 _ _ ?_;clear hK1 K1)|(refine ol_skip rfl rfl ?_ ?_;(focus (intro hne;cases hne;done));simp only [St.set])|(refine ol_nil ⟨by kernel_rfl,?_⟩;try dsimp only)|(refine ow_go ?_ dsS (fun K1 hK1=>?_);exact trS;refine evS ?_;refine hK1 _ ?_;clear hK1 K1)|(refine ow_skip rfl rfl ?_ dsS ?_;(focus (intro hne;cases hne;done));simp only [St.set])))
  refine ol_iaddrO (n:=0) (es:=cs.map insC) ?_ rfl te38 tk46 rfl rfl (by rw [List.length_map];omega) ?_
  ·exact trivial
  simp only [St.set,Nat.zero_mul]
  (iterate 1 (first|refine aw_seq ?_|refine aw_region ?_|refine aw_block ?_|(refine aw_exit ?_;(try simp (decide:=true) only [reduceIte]))|(refine aw_skip ?_;try dsimp only)|(refine aw_any (by kernel_rfl) (by kernel_rfl) (by simp only [hsz];kernel_rfl) ?_)|(refine ow_nil ?_;try dsimp only)|(refine ol_go ?_ (fun K1 hK1=>?_);exact trS;refine evS ?_;refine hK1 _ _ ?_;clear hK1 K1)|(refine ol_skip rfl rfl ?_ ?_;(focus (intro hne;cases hne;done));simp only [St.set])|(refine ol_nil ⟨by kernel_rfl,?_⟩;try dsimp only)|(refine ow_go ?_ dsS (fun K1 hK1=>?_);exact trS;refine evS ?_;refine hK1 _ ?_;clear hK1 K1)|(refine ow_skip rfl rfl ?_ dsS ?_;(focus (intro hne;cases hne;done));simp only [St.set])))
  refine ol_nil ⟨by kernel_rfl,?_⟩
  (try dsimp only)
  obtain ⟨tl,htl⟩:∃ tl,cs=(9,0,0)::tl:=⟨cs.drop 1,by
   have:=cmpD_head D D.length
   rw [←hce] at this
   exact this⟩
  obtain ⟨y,hy⟩:∃ y,y=atT es ((D.length:Int) - 1):=⟨_,rfl⟩
  have hP:cmpP D=(9,y,0)::tl:=by
   unfold cmpP
   rw [←hce,hy]
   dsimp only
   rw [htl]
   rfl
  have hxe:es[((es.length:Int) - 1).toNat]'(by omega)=y:=by
   have hi:((es.length:Int) - 1).toNat<es.length:=by omega
   rw [hy]
   unfold atT
   rw [List.getD_eq_getElem?_getD,←hel,List.getElem?_eq_getElem hi]
   rfl
  have hen:(cmpD D D.length).2=es:=by rw [←hce]
  rw [hP,hen]
  refine ow_storeZ (t0:=41) (κ:=128) (j:=1) (z:=3) (es:=cs.map insC) (es':=((9,y,0)::tl).map insC) (vs:=insV cs) (c:=.int .i64 y) [2,3] [] [(112,some [.own 128 46 3 (((9,y,0)::tl).map insC),.own 129 3 1 (es.map fun n=>[iD n])]),(32,some [.d (.v (.slice none 0 0)),.d (.v (.slice none 0 0))])] [(129,some (es.length,3,1))] ?_ rfl rfl rfl ?_ rfl rfl tk3 ?_ rfl (by rw [List.length_map];omega) ⟨hcok,hX⟩ (insV_flat cs) ?_ (by rw [htl];simp) (insC_len _) ⟨Safe.ptr,Safe.ptr,trivial⟩ (fun t ht=>by cases ht) ⟨⟨_,_,rfl,rfl,UpZL.row (by rw [htl];simp) (UpZL.other (by decide) ?_ (ents_flat es) UpZL.nil)⟩,⟨_,_,rfl,rfl,UpZL.keep Safe.v (UpZL.keep Safe.v UpZL.nil)⟩,trivial⟩ ⟨⟨by decide,?_⟩,trivial⟩ ?_
  ·exact trivial
  ·rw [←hxe]
   rfl
  ·simp [lk]
  ·rw [insV_flat,htl]
   rfl
  ·simp [lk]
  ·simp [lk]
  simp (decide:=true) only [St.keepZ,St.f,lk,St.set,reduceIte,List.map_cons,List.map_nil,List.cons_append,List.nil_append,List.length_set]
  refine walkS ?_

  refine aw_ret ?_
  simp only [Fin,Tryd.results14]
  refine finS ?_
  refine ⟨_,[],.inr (.inl ⟨.agg [.sl 3 (insC (9,y,0)::tl.map insC),.sl 1 (es.map fun n=>[iD n])],rfl,rfl,?_⟩),List.nodup_nil,rfl⟩
  simp only [wkD_agg,wkDL_cons,wkDL_nil,and_true]
  exact ⟨wkD_ownX _ _ _ _,wkD_ownX _ _ _ _⟩
theorem cmpDS_c (hD:DB 1048576 D) (hv:vDesc D=true):AC Tryd.prog 14 [.d (encD D)] none (fun r' _=>r'=.d (prgE (cmpP D) (cmpD D D.length).2)):=ACN.sem (cmpDS_n hD hv) fun _ _ _ h=>h
theorem cmpDS_no (hD:DB 1048576 D) (hv:vDesc D=false):AC Tryd.prog 14 [.d (encD D)] none (fun r' _=>r'=.d (.agg [.v (.slice none 0 0),.v (.slice none 0 0)])):=by
 have HV:=(validS_c hD (Nat.le_refl _)).eqv (r1:=.d (bD false)) (by rw [hv])
 refine cbS Tryd.func14 rfl Tryd.call14 Tryd.ntmps14 fun en hsz hks hk0=>?_;refine enS ?_
 (repeat (first|refine walkS ?_|refine cS (HV) ?_))
 refine aw_condS rfl (fun h0=>?_) (fun h0=>?_)
 ·refine walkS ?_
  (refine rtS Tryd.results14 ?_;exact ⟨_,_,.inl ⟨rfl,rfl⟩,List.nodup_nil,rfl⟩)
 ·(first|exact absurd trivial h0|exact absurd rfl h0|(cases h0;done)|omega|exact absurd h0 (by decide)|(simp at h0;done))
end
end Go.Proofs.YtaammoodcgfhpaaDoor.Eng
