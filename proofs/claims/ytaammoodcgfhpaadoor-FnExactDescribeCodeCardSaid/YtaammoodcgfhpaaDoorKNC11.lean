/-
 The code of a description, the program.

 Lines that tell of code; the reference.
-/
import Derived.Test.YtaammoodcgfhpaaDoorKNC9
import Derived.Test.YtaammoodcgfhpaaDoorKNC2B
set_option linter.unusedSimpArgs false
set_option linter.unusedVariables false
set_option linter.defProp false
set_option maxRecDepth 100000
set_option maxHeartbeats 4000000
namespace Go.Proofs.YtaammoodcgfhpaaDoor.Eng
open Go Go.RowKit

section
variable {D:List RuleD}
private def tyF:=ai (ai (ai tg54 (ai tg26 tg28)) (ai tg38 (ai tg39 tg30))) (ai (ai tg41 (ai tg46 tg61)) (ai (ai tg3 tg4) (ai tg5 tg9)))
theorem cmpDI_n (hD:DB 1048576 D) (hv:vDesc D=true):ACN Tryd.prog 20 [.d (encD D)] (fun _=>prgE (cmpP D) (cmpD D D.length).2):=by
 have hV:descP D:=descP_of hv
 have h24:D.length≤24:=hV.1.2
 have h1D:1≤D.length:=hV.1.1
 have HV:=(validI_c hD (Nat.le_refl _)).eqv (r1:=.d (bD true)) (by rw [hv])
 have HR:=rootI_c hD (Nat.le_refl _)
 refine calls_bodyI Tryd.func20 rfl Tryd.call20 Tryd.ntmps20 (by simp) (by simp [ArgsOk]) fun en hsz hcok hX hks=>?_;refine enS ?_
 (repeat (first|refine walkS ?_|refine cS (HV) ?_))
 refine aw_condS rfl (fun h0=>?_) (fun h0=>?_)
 ·(first|exact absurd trivial h0|exact absurd rfl h0|(cases h0;done)|omega|exact absurd h0 (by decide)|(simp at h0;done))
 refine walkS ?_
 rw [show ([[iD 9,iD 0,iD 0],[iD 17,iD 0,iD 0]]:List (List Eng.D))=([(9,0,0),(17,0,0)]:List Ins).map insC from rfl]
 refine aw_loopS [1,2,3,16] (fun κ s'=>[(κ,keyB s' 80 0),(κ+1,keyB s' 80 1)]) (fun κ x=>[(17,.d (iD (x.1:Nat)))]) [80] (fun κ x=>[(80,some [.own κ 46 3 (x.2.1.map insC),.own (κ+1) 3 1 (x.2.2.map fun n=>[iD n])])]) [64] (fun κ x=>[(κ,some (x.2.1.length,46,3)),(κ+1,some (x.2.2.length,3,1))]) (fun x:Nat × List Ins × List Int=>x.1≤D.length∧(x.2.1,x.2.2)=cmpD D x.1) (fun x=>D.length - x.1) ((0,[(9,0,0),(17,0,0)],[])) hks (fun _=>rfl) ⟨Nat.zero_le _,rfl⟩ wkS ?_;intro x hx;refine headS ?_
 obtain ⟨x,cs,es⟩:=x
 simp only at hx ⊢
 obtain ⟨hx,hce⟩:=hx
 have hcl:=cmpD_le hD h24 hx
 have hel:=cmpD_len D x
 have hst:=cmpD_step D x
 rw [←hce] at hcl hel hst
 dsimp only at hcl hel hst
 refine walkS ?_
 refine aw_condS rfl (fun h1=>?_) (fun h1=>?_)
 ·have hxl:x<D.length:=by omega
  obtain ⟨r,hr⟩:∃ r,D[x]?=some r:=⟨_,List.getElem?_eq_getElem hxl⟩
  rw [ruleD_get hr] at hst
  have HC:=compRI_c (st:=(cs.length:Int)) hD hV hr hel ⟨by omega,by omega⟩
  have hB:=cmpB_len (hD.rule r (List.mem_of_getElem? hr)) (cs.length:Int) es
  have hRl:(cmpR r cs.length es).length≤6+4*1048576+1:=by rw [cmpR,List.length_append,List.length_singleton];omega
  generalize cmpR r cs.length es=R at *
  (repeat (first|refine walkS ?_|refine cS (HC) ?_))
  refine ⟨(x+1,cs++R,es++[(cs.length:Int)]),⟨by simp only;omega,hst.symm⟩,by simp only;omega,?_⟩
  exact wkS
 ·obtain rfl:x=D.length:=by omega
  have hg:=cmpD_ge D D.length
  rw [←hce] at hg
  dsimp only at hg
  (repeat (first|refine aw_seq ?_|refine aw_region ?_|refine aw_block ?_|(refine aw_exit ?_;(try simp (decide:=true) only [reduceIte]))|(refine aw_skip ?_;try dsimp only)|(refine ow_nil ?_;try dsimp only)|(refine ol_go ?_ (fun K1 hK1=>?_);exact trS;refine evS ?_;refine hK1 _ _ ?_;clear hK1 K1)|(refine ol_skip rfl rfl ?_ ?_;(focus (intro hne;cases hne;done));simp only [St.set])|(refine ol_nil ⟨by kernel_rfl,?_⟩;try dsimp only)|(refine ow_go ?_ dsS (fun K1 hK1=>?_);exact trS;refine evS ?_;refine hK1 _ ?_;clear hK1 K1)|(refine ow_skip rfl rfl ?_ dsS ?_;(focus (intro hne;cases hne;done));simp only [St.set])))
  refine aw_anyL (by kernel_rfl) (by kernel_rfl) rfl rfl (by kernel_rfl) (by simp only [hsz];kernel_rfl) ?_
  (iterate 5 (first|refine aw_seq ?_|refine aw_region ?_|refine aw_block ?_|(refine aw_exit ?_;(try simp (decide:=true) only [reduceIte]))|(refine aw_skip ?_;try dsimp only)|(refine aw_any (by kernel_rfl) (by kernel_rfl) (by simp only [hsz];kernel_rfl) ?_)|(refine ow_nil ?_;try dsimp only)|(refine ol_go ?_ (fun K1 hK1=>?_);exact trS;refine evS ?_;refine hK1 _ _ ?_;clear hK1 K1)|(refine ol_skip rfl rfl ?_ ?_;(focus (intro hne;cases hne;done));simp only [St.set])|(refine ol_nil ⟨by kernel_rfl,?_⟩;try dsimp only)|(refine ow_go ?_ dsS (fun K1 hK1=>?_);exact trS;refine evS ?_;refine hK1 _ ?_;clear hK1 K1)|(refine ow_skip rfl rfl ?_ dsS ?_;(focus (intro hne;cases hne;done));simp only [St.set])))
  (first|refine cS (HR) ?_)
  (iterate 2 (first|refine aw_seq ?_|refine aw_region ?_|refine aw_block ?_|(refine aw_exit ?_;(try simp (decide:=true) only [reduceIte]))|(refine aw_skip ?_;try dsimp only)|(refine aw_any (by kernel_rfl) (by kernel_rfl) (by simp only [hsz];kernel_rfl) ?_)|(refine ow_nil ?_;try dsimp only)|(refine ol_go ?_ (fun K1 hK1=>?_);exact trS;refine evS ?_;refine hK1 _ _ ?_;clear hK1 K1)|(refine ol_skip rfl rfl ?_ ?_;(focus (intro hne;cases hne;done));simp only [St.set])|(refine ol_nil ⟨by kernel_rfl,?_⟩;try dsimp only)|(refine ow_go ?_ dsS (fun K1 hK1=>?_);exact trS;refine evS ?_;refine hK1 _ ?_;clear hK1 K1)|(refine ow_skip rfl rfl ?_ dsS ?_;(focus (intro hne;cases hne;done));simp only [St.set])))
  refine ol_iaddrO (n:=0) (es:=cs.map insC) ?_ rfl te38 tk46 rfl rfl (by rw [List.length_map];omega) ?_
  ·exact trivial
  simp only [St.set,Nat.zero_mul]
  (iterate 1 (first|refine aw_seq ?_|refine aw_region ?_|refine aw_block ?_|(refine aw_exit ?_;(try simp (decide:=true) only [reduceIte]))|(refine aw_skip ?_;try dsimp only)|(refine aw_any (by kernel_rfl) (by kernel_rfl) (by simp only [hsz];kernel_rfl) ?_)|(refine ow_nil ?_;try dsimp only)|(refine ol_go ?_ (fun K1 hK1=>?_);exact trS;refine evS ?_;refine hK1 _ _ ?_;clear hK1 K1)|(refine ol_skip rfl rfl ?_ ?_;(focus (intro hne;cases hne;done));simp only [St.set])|(refine ol_nil ⟨by kernel_rfl,?_⟩;try dsimp only)|(refine ow_go ?_ dsS (fun K1 hK1=>?_);exact trS;refine evS ?_;refine hK1 _ ?_;clear hK1 K1)|(refine ow_skip rfl rfl ?_ dsS ?_;(focus (intro hne;cases hne;done));simp only [St.set])))
  refine ol_nil ⟨by kernel_rfl,?_⟩
  (try dsimp only)
  obtain ⟨tl,htl⟩:∃ tl,cs=(9,0,0)::tl:=⟨cs.drop 1,by
   have:=cmpD_head D D.length
   rw [←hce] at this
   exact this⟩
  obtain ⟨y,hy⟩:∃ y,y=atT es ((D.length:Int) - 1):=⟨_,rfl⟩
  have hP:cmpP D=(9,y,0)::tl:=by
   unfold cmpP
   rw [←hce,hy]
   dsimp only
   rw [htl]
   rfl
  have hxe:es[((D.length:Int) - 1).toNat]'(by omega)=y:=by
   have hi:((D.length:Int) - 1).toNat<es.length:=by omega
   rw [hy]
   unfold atT
   rw [List.getD_eq_getElem?_getD,List.getElem?_eq_getElem hi]
   rfl
  have hen:(cmpD D D.length).2=es:=by rw [←hce]
  rw [hP,hen]
  refine ow_storeZ (t0:=41) (κ:=96) (j:=1) (z:=3) (es:=cs.map insC) (es':=((9,y,0)::tl).map insC) (vs:=insV cs) (c:=.int .i64 y) [2,3] [] [(80,some [.own 96 46 3 (((9,y,0)::tl).map insC),.own 97 3 1 (es.map fun n=>[iD n])]),(32,some [.d (.v (.slice none 0 0)),.d (.v (.slice none 0 0))])] [(97,some (es.length,3,1))] ?_ rfl rfl rfl ?_ rfl rfl tk3 ?_ rfl (by rw [List.length_map];omega) ⟨hcok,hX⟩ (insV_flat cs) ?_ (by rw [htl];simp) (insC_len _) ⟨Safe.ptr,Safe.ptr,trivial⟩ (fun t ht=>by cases ht) ⟨⟨_,_,rfl,rfl,UpZL.row (by rw [htl];simp) (UpZL.other (by decide) ?_ (ents_flat es) UpZL.nil)⟩,⟨_,_,rfl,rfl,UpZL.keep Safe.v (UpZL.keep Safe.v UpZL.nil)⟩,trivial⟩ ⟨⟨by decide,?_⟩,trivial⟩ ?_
  ·exact trivial
  ·rw [←hxe]
   rfl
  ·simp [lk]
  ·rw [insV_flat,htl]
   rfl
  ·simp [lk]
  ·simp [lk]
  simp (decide:=true) only [St.keepZ,St.f,lk,St.set,reduceIte,List.map_cons,List.map_nil,List.cons_append,List.nil_append,List.length_set]
  refine walkS ?_

  refine aw_ret ?_
  simp only [Fin,Tryd.results20]
  refine finS ?_
  refine ⟨_,[],.inr (.inl ⟨.agg [.sl 3 (insC (9,y,0)::tl.map insC),.sl 1 (es.map fun n=>[iD n])],rfl,rfl,?_⟩),List.nodup_nil,rfl⟩
  simp only [wkD_agg,wkDL_cons,wkDL_nil,and_true]
  exact ⟨wkD_ownX _ _ _ _,wkD_ownX _ _ _ _⟩
theorem cmpDI_c (hD:DB 1048576 D) (hv:vDesc D=true):AC Tryd.prog 20 [.d (encD D)] none (fun r' _=>r'=.d (prgE (cmpP D) (cmpD D D.length).2)):=ACN.sem (cmpDI_n hD hv) fun _ _ _ h=>h
theorem cmpDI_no (hD:DB 1048576 D) (hv:vDesc D=false):AC Tryd.prog 20 [.d (encD D)] none (fun r' _=>r'=.d (prgE [] [])):=by
 have HV:=(validI_c hD (Nat.le_refl _)).eqv (r1:=.d (bD false)) (by rw [hv])
 refine cbS Tryd.func20 rfl Tryd.call20 Tryd.ntmps20 fun en hsz hks hk0=>?_;refine enS ?_
 (repeat (first|refine walkS ?_|refine cS (HV) ?_))
 refine aw_condS rfl (fun h0=>?_) (fun h0=>?_)
 ·refine walkS ?_
  (refine rtS Tryd.results20 ?_;refine ⟨_,[],.inr (.inl ⟨.agg [.sl 3 [],.sl 1 []],rfl,rfl,?_⟩),List.nodup_nil,rfl⟩;exact wkDS)
 ·(first|exact absurd trivial h0|exact absurd rfl h0|(cases h0;done)|omega|exact absurd h0 (by decide)|(simp at h0;done))
end
end Go.Proofs.YtaammoodcgfhpaaDoor.Eng
namespace Go.Proofs.YtaammoodcgfhpaaDoor.Eng
open Go Go.RowKit

section
variable {D:List RuleD}
noncomputable def lineC (cs:List Ins) (k:Nat):ByteArray:=itoB (k:Nat)++⟨#[58,32]⟩++insT (cs.getD k (0,0,0))
noncomputable def lnC (cs:List Ins) (k:Nat):List ByteArray:=(List.range k).map (lineC cs)
theorem lnC_len (cs:List Ins) (k:Nat):(lnC cs k).length=k:=by simp [lnC]
theorem range_lnC (cs:List Ins) (k:Nat):lnC cs k++[lineC cs k]=lnC cs (k+1):=by
 unfold lnC
 rw [List.range_succ,List.map_append]
 rfl
theorem lnC_pre (cs:List Ins) {k n:Nat} (h:k≤n):lnC cs k <+: lnC cs n:=by
 have e:lnC cs k=(lnC cs n).take k:=by
  unfold lnC
  rw [←List.map_take,List.take_range,Nat.min_eq_left h]
 rw [e]
 exact List.take_prefix _ _
noncomputable def codeT (D:List RuleD):List ByteArray:=if vDesc D=true then lnC (cmpP D) (cmpP D).length else []
theorem insT_size {x:Ins} (h:insOK x):(insT x).size≤100:=by
 obtain ⟨k,a,b⟩:=x
 obtain ⟨hk,ha,hb⟩:=h
 simp only at hk ha hb
 have h1:=itoJ_size ha
 have h2:=itoJ_size hb
 have h3:=opName_size hk
 have y2:ByteArray.size ⟨#[32]⟩=1:=rfl
 unfold insT
 rw [if_pos hk]
 simp only
 split
 ·simp only [ByteArray.size_append,y2];omega
 ·split
  ·simp only [ByteArray.size_append,y2];omega
  ·omega
theorem code_sizes {s1 s2:ByteArray} (h1:s1.size≤20) (h2:s2.size≤100):(s1.size+ByteArray.size ⟨#[58,32]⟩≤9223372036854775807)∧((s1++⟨#[58,32]⟩).size+s2.size≤9223372036854775807):=by
 have y2:ByteArray.size ⟨#[58,32]⟩=2:=rfl
 simp only [ByteArray.size_append,y2]
 omega
theorem code_nth {D:List RuleD} (hD:DB 1048576 D) (hV:descP D) {y:Nat} (hy:y<(cmpP D).length):∃ x,(cmpP D)[y]?=some x∧insOK x∧(cmpP D).getD y (0,0,0)=x:=
 ⟨(cmpP D)[y],List.getElem?_eq_getElem hy,cmpP_nth hV hD (List.getElem?_eq_getElem hy),by simp [List.getD,hy]⟩
abbrev ownT' (l:List ByteArray):Rz:=.own 9 1 (l.map fun t=>[sD t])
theorem codeS_y (hD:DB 1048576 D) (hv:vDesc D=true):AC Tryd.prog 5 [.d (encD D)] none (fun r' _=>r'=ownT' (codeT D)):=by
 have hV:descP D:=descP_of hv
 have HP:=cmpDS_c hD hv
 have hlen:=(cmpP_len hD hV.1.2).1
 have hnth:=fun y=>@code_nth D hD hV y
 rw [show codeT D=lnC (cmpP D) (cmpP D).length from if_pos hv]
 generalize cmpP D=cs at *
 generalize (cmpD D D.length).2=es at *
 refine cbS Tryd.func5 rfl Tryd.call5 Tryd.ntmps5 fun en hsz hks hk0=>?_;refine enS ?_
 (repeat (first|refine walkS ?_|refine cS (HP) ?_))
 refine aw_loopS [2,4] (fun κ s'=>[(κ,keyOf (s'.f 3))]) (fun κ x=>[(5,.d (iD (x.1:Nat))),(3,.own κ 9 1 (x.2.map fun c=>[sD c]))]) [] (fun _ _=>[]) [32] (fun κ x=>[(κ,some (x.2.length,9,1))]) (fun x:Nat × List ByteArray=>x.1≤cs.length∧x.2=lnC cs x.1) (fun x=>cs.length - x.1) ((0,[])) hks (fun _=>rfl) ⟨Nat.zero_le _,rfl⟩ wkS ?_;intro x hx;refine headS ?_
 obtain ⟨y,acc⟩:=x
 simp only at hx ⊢
 obtain ⟨hx1,rfl⟩:=hx
 have hll:=lnC_len cs y
 refine walkS ?_
 refine aw_condS rfl (fun hg=>?_) (fun hg=>?_)
 ·have hg':y<cs.length:=by simpa using hg
  obtain ⟨x,hx,hok,hgd⟩:=hnth y hg'
  have f1:=fmtS_j (n:=(y:Nat)) (by unfold numOK;omega)
  have f2:=insS_c hok
  have z1:=itoJ_size (n:=(y:Nat)) (by unfold numOK;omega)
  have z2:=insT_size hok
  have hl:itoB (y:Nat)++⟨#[58,32]⟩++insT x=lineC cs y:=by unfold lineC;rw [hgd]
  generalize itoB (y:Nat)=s1 at *
  generalize insT x=s2 at *
  obtain ⟨a1,a2⟩:=code_sizes z1 z2
  (repeat (first|refine ctlS ?_|(refine ol_go ?_ (fun K1 hK1=>?_);exact trS;refine evS ?_;(first|refine ⟨_,hx,?_⟩|skip);refine hK1 _ _ ?_;clear hK1 K1)|(refine ow_go ?_ dsS (fun K1 hK1=>?_);exact trS;refine evS ?_;(first|refine ⟨_,hx,?_⟩|skip);refine hK1 _ ?_;clear hK1 K1)|refine skipS ?_|refine cS (f1) ?_|refine cS (f2) ?_))
  refine ⟨(y+1,lnC cs y++[lineC cs y]),⟨by simp only;omega,range_lnC cs y⟩,by simp only;omega,?_⟩
  rw [←hl]
  exact wkS
 ·have hg':¬y<cs.length:=by simpa using hg
  obtain rfl:y=cs.length:=by omega
  refine walkS ?_
  (refine rtS Tryd.results5 ?_;exact ⟨_,_,.inl (toZ_own (by simp [lk,St.mem])),by simp,rfl⟩)
theorem codeS_no (hD:DB 1048576 D) (hv:vDesc D=false):AC Tryd.prog 5 [.d (encD D)] none (fun r' _=>r'=ownT' (codeT D)):=by
 have HP:=cmpDS_no hD hv
 rw [show codeT D=[] from if_neg (by rw [hv];decide)]
 refine cbS Tryd.func5 rfl Tryd.call5 Tryd.ntmps5 fun en hsz hks hk0=>?_;refine enS ?_
 (repeat (first|refine walkS ?_|refine cS (HP) ?_))
 refine aw_loopS [2,4] (fun κ s'=>[(κ,keyOf (s'.f 3))]) (fun κ x=>[(5,.d (iD (x.1:Nat))),(3,.own κ 9 1 (x.2.map fun c=>[sD c]))]) [] (fun _ _=>[]) [32] (fun κ x=>[(κ,some (x.2.length,9,1))]) (fun x:Nat × List ByteArray=>x.1=0∧x.2=[]) (fun x=>1 - x.1) ((0,[])) hks (fun _=>rfl) ⟨rfl,rfl⟩ wkS ?_;intro x hx;refine headS ?_
 obtain ⟨y,acc⟩:=x
 simp only at hx ⊢
 obtain ⟨rfl,rfl⟩:=hx
 refine walkS ?_
 refine aw_condS rfl (fun hg=>?_) (fun hg=>?_)
 ·(first|exact absurd trivial hg|exact absurd rfl hg|(cases hg;done)|omega|exact absurd hg (by decide)|(simp at hg;done))
 ·refine walkS ?_
  (refine rtS Tryd.results5 ?_;exact ⟨_,_,.inl (toZ_own (by simp [lk,St.mem])),by simp,rfl⟩)
theorem codeS_c (hD:DB 1048576 D):AC Tryd.prog 5 [.d (encD D)] none (fun r' _=>r'=ownT' (codeT D)):=by
 cases hv:vDesc D with
 | true=>exact codeS_y hD hv
 | false=>exact codeS_no hD hv
end
end Go.Proofs.YtaammoodcgfhpaaDoor.Eng
