/-
 The reference's compiler: instructions, choices.
-/
import Derived.Test.YtaammoodcgfhpaaDoorKNC5
set_option linter.unusedSimpArgs false
set_option linter.unusedVariables false
set_option linter.defProp false
set_option maxRecDepth 100000
set_option maxHeartbeats 4000000
namespace Go.Proofs.YtaammoodcgfhpaaDoor.Eng
open Go Go.RowKit

section
variable {D:List RuleD}{st:Int}{es:List Int}{r:RuleD}
abbrev ownC (cs:List Ins):Rz:=.own 46 3 (cs.map insC)
private def tyF:=ai (ai (ai tg54 tg26) (ai tg38 (ai tg39 tg46))) (ai (ai tg61 tg3) (ai tg4 (ai tg5 tg9)))
theorem opS_c (o a b:Int):AC Tryd.prog 28 [.d (iD o),.d (iD a),.d (iD b)] none (fun r' _=>r'=.d (.agg [iD o,iD a,iD b])):=by
 refine cbS Tryd.func28 rfl Tryd.call28 Tryd.ntmps28 fun en hsz hks hk0=>?_;refine enS ?_
 refine walkS ?_
 (refine rtS Tryd.results28 ?_;exact ⟨_,_,.inl ⟨rfl,rfl⟩,List.nodup_nil,rfl⟩)
theorem callS_c {k:Nat} (hk:k<es.length):AC Tryd.prog 47 [.d (encI es),.d (iD (k:Nat))] none (fun r' _=>r'=.d (.agg [iD 9,iD (atT es k),iD 0])):=by
 have i1:es[k]?=some (atT es k):=by simp [atT,List.getD,hk]
 have HO:=opS_c 9 (atT es k) 0
 refine cbS Tryd.func47 rfl Tryd.call47 Tryd.ntmps47 fun en hsz hks hk0=>?_;refine enS ?_
 (repeat (first|refine ctlS ?_|(refine ol_go ?_ (fun K1 hK1=>?_);exact trS;refine evS ?_;(first|refine ⟨_,i1,?_⟩|skip);refine hK1 _ _ ?_;clear hK1 K1)|(refine ow_go ?_ dsS (fun K1 hK1=>?_);exact trS;refine evS ?_;(first|refine ⟨_,i1,?_⟩|skip);refine hK1 _ ?_;clear hK1 K1)|refine skipS ?_|refine cS (HO) ?_))
 (refine rtS Tryd.results47 ?_;exact ⟨_,_,.inl ⟨rfl,rfl⟩,List.nodup_nil,rfl⟩)
theorem littleS_c (r:RuleD):AC Tryd.prog 46 [.d (encR r)] none (fun r' _=>r'=.d (iD (if r.little then 1 else 0))):=by
 refine cbS Tryd.func46 rfl Tryd.call46 Tryd.ntmps46 fun en hsz hks hk0=>?_;refine enS ?_
 refine walkS ?_
 refine aw_condS rfl (fun h=>?_) (fun h=>?_)
 ·rw [h]
  refine walkS ?_
  (refine rtS Tryd.results46 ?_;exact ⟨_,_,.inl ⟨rfl,rfl⟩,List.nodup_nil,rfl⟩)
 ·rw [show r.little=false by simpa using h]
  refine walkS ?_
  (refine rtS Tryd.results46 ?_;exact ⟨_,_,.inl ⟨rfl,rfl⟩,List.nodup_nil,rfl⟩)
theorem choiceS_c (hkl:r.kids.length=r.tags.length+1) (hkk:∀ j (hj:j<r.kids.length),∃ k:Nat,r.kids[j]=k∧k<es.length) (hb:r.kids.length≤1048576) (hs:0≤st∧st≤200000000):AC Tryd.prog 48 [.d (encR r),.d (iD st),.d (encI es)] none (fun r' _=>r'=ownC (insCall es (kid0 r)::cmpTags r.tags (st+r.tags.length+2)++[(12,3,0)]++cmpAlts es (r.kids.drop 1))):=by
 obtain ⟨k,hk1,hke⟩:=hkk 0 (by omega)
 have i0:r.kids[0]?=some (k:Int):=by rw [List.getElem?_eq_getElem (by omega),hk1]
 have h0:kid0 r=k:=by unfold kid0;cases hq:r.kids with|nil=>rw [hq] at i0;simp at i0|cons a b=>rw [hq] at i0;simpa using i0
 obtain ⟨n,hn⟩:∃ n,r.tags.length=n:=⟨_,rfl⟩
 rw [h0,hn]
 obtain ⟨W,hW⟩:∃ W,W=insCall es k::cmpTags r.tags (st+n+2)++[((12:Int),(3:Int),(0:Int))]++cmpAlts es (r.kids.drop 1):=⟨_,rfl⟩
 rw [←hW]
 have H1:=callS_c hke
 refine cbS Tryd.func48 rfl Tryd.call48 Tryd.ntmps48 fun en hsz hks hk0=>?_;refine enS ?_
 (repeat (first|refine ctlS ?_|(refine ol_go ?_ (fun K1 hK1=>?_);exact trS;refine evS ?_;(try simp only [hn]);refine hK1 _ _ ?_;clear hK1 K1)|(refine ow_go ?_ dsS (fun K1 hK1=>?_);exact trS;refine evS ?_;(try simp only [hn]);refine hK1 _ ?_;clear hK1 K1)|refine skipS ?_|refine cS (H1) ?_))
 rw [show ([[iD 9,iD (atT es k),iD 0]]:List (List Eng.D))=[insC (insCall es k)] from rfl]
 refine aw_loopS [1,2,3,6,7] (fun κ s'=>[(κ,keyOf (s'.f 8))]) (fun κ x=>[(9,.d (iD (x.1:Nat))),(8,.own κ 46 3 (x.2.map insC))]) [] (fun _ _=>[]) [48] (fun κ x=>[(κ,some (x.2.length,46,3))]) (fun x:Nat × List Ins=>x.1≤n∧x.2=insCall es k::cmpTags (r.tags.take x.1) (st+n+2)) (fun x=>n - x.1) ((0,[insCall es k])) hks (fun _=>rfl) ⟨Nat.zero_le _,rfl⟩ wkS ?_;intro x hx;refine headS ?_
 obtain ⟨y,acc⟩:=x
 simp only at hx ⊢
 obtain ⟨hx1,hx2⟩:=hx
 have hl:acc.length=y+1:=by rw [hx2,List.length_cons,cmpTags_len,List.length_take];omega
 refine walkS ?_
 refine aw_condS rfl (fun h=>?_) (fun h=>?_)
 ·have hy:y<r.tags.length:=by omega
  have i1:r.tags[y]?=some (r.tags[y]):=List.getElem?_eq_getElem hy
  have HA:=opS_c 11 (r.tags[y]) (st+n+2+2*(y:Nat))
  (repeat (first|refine ctlS ?_|(refine ol_go ?_ (fun K1 hK1=>?_);exact trS;refine evS ?_;(first|refine ⟨_,i1,?_⟩|skip);refine hK1 _ _ ?_;clear hK1 K1)|(refine ow_go ?_ dsS (fun K1 hK1=>?_);exact trS;refine evS ?_;(first|refine ⟨_,i1,?_⟩|skip);refine hK1 _ ?_;clear hK1 K1)|refine skipS ?_|refine cS (HA) ?_))
  refine ⟨(y+1,acc++[(11,r.tags[y],st+n+2+2*((y:Nat):Int))]),⟨by simp only;omega,by simp only;rw [List.take_succ_eq_append_getElem hy,cmpTags_snoc,hx2,List.length_take,Nat.min_eq_left (by omega)];rfl⟩,by simp only;omega,?_⟩
  exact wkS
 ·obtain rfl:y=n:=by omega
  rw [←hn,List.take_length,hn] at hx2
  obtain ⟨base,hbase⟩:∃ b,b=acc++[((12:Int),(3:Int),(0:Int))]:=⟨_,rfl⟩
  have hbl:base.length≤1048600:=by rw [hbase,List.length_append,List.length_singleton];omega
  have HF:=opS_c 12 3 0
  (repeat (first|refine walkS ?_|refine cS (HF) ?_))
  rw [show ([[iD 12,iD 3,iD 0]]:List (List Eng.D))=[insC (12,3,0)] from rfl]
  refine aw_loopS [2,3,6,7] (fun κ s'=>[(κ,keyOf (s'.f 8))]) (fun κ x=>[(10,.d (iD (x.1:Nat))),(8,.own κ 46 3 (x.2.map insC))]) [] (fun _ _=>[]) [112,96] (fun κ x=>[(κ,some (x.2.length,46,3))]) (fun x:Nat × List Ins=>x.1≤y∧x.2=base++(if x.1=y then cmpAlts es ((r.kids.drop 1).take x.1) else if x.1=0 then [] else cmpAlts es ((r.kids.drop 1).take x.1)++[(10,0,0)])) (fun x=>y - x.1) ((0,acc++[(12,3,0)])) hks (fun _=>rfl) ⟨Nat.zero_le _,by rw [hbase];split<;>simp [cmpAlts]⟩ wkS ?_;intro x hx;refine headS ?_
  obtain ⟨z,acc2⟩:=x
  simp only at hx ⊢
  obtain ⟨hz1,hz2⟩:=hx
  have hl2:acc2.length≤base.length+2*z+1:=by
   have:=cmpAlts_len es ((r.kids.drop 1).take z)
   rw [List.length_take,List.length_drop] at this
   rw [hz2,List.length_append]
   split
   ·omega
   ·split
    ·simp only [List.length_nil];omega
    ·rw [List.length_append,List.length_singleton];omega
  refine walkS ?_
  refine aw_condS rfl (fun h2=>?_) (fun h2=>?_)
  ·have hzk:z<(r.kids.drop 1).length:=by rw [List.length_drop];omega
   obtain ⟨kk,hkk1,hkk2⟩:=hkk (z+1) (by omega)
   have i1:r.kids[z+1]?=some (kk:Int):=by rw [List.getElem?_eq_getElem (by omega),hkk1]
   have e3:IntKind.i64.wrap ((z:Int)+1)=((z+1:Nat):Int):=by rw [wrap_small (by omega) (by omega)];omega
   have hsn:(r.kids.drop 1).take (z+1)=(r.kids.drop 1).take z++[(kk:Int)]:=by
    rw [List.take_succ_eq_append_getElem hzk,List.getElem_drop]
    simp only [Nat.add_comm 1 z,hkk1]
   have hz3:acc2++[insCall es kk]=base++cmpAlts es ((r.kids.drop 1).take (z+1)):=by
    rw [hz2,if_neg (by omega),hsn]
    by_cases hz0:z=0
    ·subst hz0
     rw [if_pos rfl,List.take_zero,List.nil_append,cmpAlts_one,List.append_nil]
    ·rw [if_neg hz0,cmpAlts_snoc es kk _ (by intro e;have:=congrArg List.length e;rw [List.length_take] at this;simp at this;omega)]
     simp
   have HC0:=callS_c hkk2
   have HR:=opS_c 10 0 0
   (repeat (first|refine ctlS ?_|(refine ol_go ?_ (fun K1 hK1=>?_);exact trS;refine evS ?_;(first|refine ⟨_,i1,?_⟩|skip);(try simp only [e3]);refine hK1 _ _ ?_;clear hK1 K1)|(refine ow_go ?_ dsS (fun K1 hK1=>?_);exact trS;refine evS ?_;(first|refine ⟨_,i1,?_⟩|skip);(try simp only [e3]);refine hK1 _ ?_;clear hK1 K1)|refine skipS ?_|refine cS (HC0) ?_))
   refine aw_condS rfl (fun h3=>?_) (fun h3=>?_)
   ·have hz0:z+1≠y:=by omega
    (repeat (first|refine walkS ?_|refine cS (HR) ?_))
    rw [show ([[iD 9,iD (atT es kk),iD 0]]:List (List Eng.D))=[insC (insCall es kk)] from rfl,show ([[iD 10,iD 0,iD 0]]:List (List Eng.D))=[insC (10,0,0)] from rfl]
    refine ⟨(z+1,acc2++[insCall es kk]++[(10,0,0)]),⟨by simp only;omega,by
     simp only
     rw [if_neg hz0,if_neg (by omega),hz3,List.append_assoc]⟩,by simp only;omega,?_⟩
    exact wkS
   ·have hz0:z+1=y:=by omega
    refine walkS ?_
    rw [show ([[iD 9,iD (atT es kk),iD 0]]:List (List Eng.D))=[insC (insCall es kk)] from rfl]
    refine ⟨(z+1,acc2++[insCall es kk]),⟨by simp only;omega,by
     simp only
     rw [if_pos hz0,hz3]⟩,by simp only;omega,?_⟩
    exact wkS
  ·obtain rfl:z=y:=by omega
   rw [if_pos rfl,List.take_of_length_le (by rw [List.length_drop];omega),hbase,hx2] at hz2
   rw [hW,←hz2]
   refine walkS ?_
   (refine rtS Tryd.results48 ?_;exact ⟨_,_,.inl (toZ_own (by simp [lk,St.mem])),by simp,rfl⟩)
end
end Go.Proofs.YtaammoodcgfhpaaDoor.Eng
