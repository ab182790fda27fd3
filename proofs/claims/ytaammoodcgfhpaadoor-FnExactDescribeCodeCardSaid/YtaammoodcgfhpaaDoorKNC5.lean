/-
 The program's compiler: rules with rows of instructions.
-/
import Derived.Test.YtaammoodcgfhpaaDoorKNC4
set_option linter.unusedSimpArgs false
set_option linter.unusedVariables false
set_option linter.defProp false
set_option maxRecDepth 100000
set_option maxHeartbeats 4000000
namespace Go.Proofs.YtaammoodcgfhpaaDoor.Eng
open Go Go.RowKit

section
variable {D:List RuleD}{st:Int}{es:List Int}{r:RuleD}
theorem cmpTags_snoc (t:Int):∀ (l:List Int) (f:Int),cmpTags (l++[t]) f=cmpTags l f++[(11,t,f+2*(l.length:Nat))]
 | [],f=>by simp [cmpTags]
 | a::l,f=>by
  rw [List.cons_append,cmpTags,cmpTags_snoc t l,cmpTags,List.cons_append]
  simp only [List.length_cons]
  rw [show f+2+2*((l.length:Nat):Int)=f+2*((l.length+1:Nat):Int) by omega]
theorem cmpAlts_one (es:List Int) (k:Int):cmpAlts es [k]=[insCall es k]:=by rw [cmpAlts]
theorem cmpAlts_two (es:List Int) (a b:Int) (l:List Int):cmpAlts es (a::b::l)=insCall es a::(10,0,0)::cmpAlts es (b::l):=by
 rw [cmpAlts]
 simp
theorem cmpAlts_snoc (es:List Int) (k:Int):∀ l:List Int,l≠[]→cmpAlts es (l++[k])=cmpAlts es l++[(10,0,0)]++[insCall es k]
 | [],h=>absurd rfl h
 | [a],_=>by
  rw [List.cons_append,List.nil_append,cmpAlts_two,cmpAlts_one,cmpAlts_one]
  rfl
 | a::b::l,_=>by
  have:=cmpAlts_snoc es k (b::l) (by simp)
  rw [List.cons_append,List.cons_append,cmpAlts_two,cmpAlts_two,←List.cons_append,this]
  simp
private def tyF:=ai (ai (ai tg54 tg26) (ai tg39 tg61)) (ai (ai tg3 tg4) (ai tg5 (ai tg78 tg9)))
theorem constant_m (hk:r.kind=2) (hb:r.bytes.length≤1048576):MthOK D st es 55 r:=by
 have hw:cmpB r st es=r.bytes.map fun x=>(2,(x.toNat:Int),0):=by
  unfold cmpB
  rw [if_neg (by omega),if_pos hk]
 unfold MthOK
 rw [hw]
 refine cbS Tryd.func55 rfl Tryd.call55 Tryd.ntmps55 fun en hsz hks hk0=>?_;refine enS ?_
 refine walkS ?_
 refine aw_loopS [0,7,8] (fun κ s'=>[(κ,keyB s' 0 3)]) (fun κ x=>[(9,.d (iD (x.1:Nat)))]) [0] (fun κ x=>[(0,some [.d (encDs D),.d (iD st),.d (encI es),.own κ 46 3 (x.2.map insC)])]) [16] (fun κ x=>[(κ,some (x.2.length,46,3))]) (fun x:Nat × List Ins=>x.1≤r.bytes.length∧x.2=(r.bytes.take x.1).map fun x=>(2,(x.toNat:Int),0)) (fun x=>r.bytes.length - x.1) ((0,[])) hks (fun _=>rfl) ⟨Nat.zero_le _,rfl⟩ wkS ?_;intro x hx;refine headS ?_
 obtain ⟨y,acc⟩:=x
 simp only at hx ⊢
 obtain ⟨hx1,hx2⟩:=hx
 have hl:acc.length=y:=by rw [hx2,List.length_map,List.length_take];omega
 refine walkS ?_
 refine aw_condS rfl (fun h=>?_) (fun h=>?_)
 ·have hy:y<r.bytes.length:=by omega
  have i1:r.bytes[y]?=some (r.bytes[y]):=List.getElem?_eq_getElem hy
  have e0:=u8_w3 (r.bytes[y])
  have HA:=add_c (D:=D) (st:=st) (es:=es) (cs:=acc) 2 (((r.bytes[y]).toNat:Nat):Int) 0 (by omega)
  (repeat (first|refine ctlS ?_|(refine ol_go ?_ (fun K1 hK1=>?_);exact trS;refine evS ?_;(first|refine ⟨_,i1,?_⟩|skip);(try simp only [e0]);refine hK1 _ _ ?_;clear hK1 K1)|(refine ow_go ?_ dsS (fun K1 hK1=>?_);exact trS;refine evS ?_;(first|refine ⟨_,i1,?_⟩|skip);(try simp only [e0]);refine hK1 _ ?_;clear hK1 K1)|refine skipS ?_|(refine ow_call1q (k:=0) ?_ dsS rfl rfl (HA) rfl rfl (by first|rfl|(simp only [List.length_map,List.length_append]<;>rfl)) (by decide) ?_;exact trS;simp only [St.set,List.map_cons,List.map_nil,List.length_map,List.length_append,Nat.reduceAdd])|(refine ol_call1q (k:=0) ?_ rfl rfl (HA) rfl rfl (by first|rfl|(simp only [List.length_map,List.length_append]<;>rfl)) (by decide) ⟨0,List.mem_cons_self⟩ ?_;exact trS;simp only [St.set,List.map_cons,List.map_nil,List.length_map,List.length_append,Nat.reduceAdd])|(refine ow_call1qn (k:=0) ?_ dsS rfl rfl rfl (HA) rfl rfl ?_;exact trS;simp only [St.set,List.map_cons,List.map_nil,List.length_map,List.length_append,Nat.reduceAdd])))
  refine ⟨(y+1,acc++[(2,((r.bytes[y]).toNat:Int),0)]),⟨by simp only;omega,by simp only;rw [List.take_succ_eq_append_getElem hy,List.map_append,←hx2];rfl⟩,by simp only;omega,?_⟩
  exact wkS
 ·obtain rfl:y=r.bytes.length:=by omega
  rw [List.take_length] at hx2
  rw [←hx2]
  refine walkS ?_
  ((try refine aw_ret ?_);(simp only [Fin,Tryd.results55];refine finS ?_);exact ⟨_,[],.inl ⟨rfl,rfl⟩,_,(cmpC D st es acc),[_],rfl,toZL_q (by simp only [List.length_append,List.length_map]<;>rfl),by simp,⟨rfl,rfl⟩⟩)
theorem sequence_m (hk:r.kind=6) (hkk:∀ j (hj:j<r.kids.length),∃ k:Nat,r.kids[j]=k∧k<es.length) (hb:r.kids.length≤1048576):MthOK D st es 59 r:=by
 have hw:cmpB r st es=r.kids.map (insCall es):=by
  unfold cmpB
  rw [if_neg (by omega),if_neg (by omega),if_neg (by omega),if_neg (by omega),if_neg (by omega),if_pos hk]
 unfold MthOK
 rw [hw]
 refine cbS Tryd.func59 rfl Tryd.call59 Tryd.ntmps59 fun en hsz hks hk0=>?_;refine enS ?_
 refine walkS ?_
 refine aw_loopS [0,7,8] (fun κ s'=>[(κ,keyB s' 0 3)]) (fun κ x=>[(9,.d (iD (x.1:Nat)))]) [0] (fun κ x=>[(0,some [.d (encDs D),.d (iD st),.d (encI es),.own κ 46 3 (x.2.map insC)])]) [16] (fun κ x=>[(κ,some (x.2.length,46,3))]) (fun x:Nat × List Ins=>x.1≤r.kids.length∧x.2=(r.kids.take x.1).map (insCall es)) (fun x=>r.kids.length - x.1) ((0,[])) hks (fun _=>rfl) ⟨Nat.zero_le _,rfl⟩ wkS ?_;intro x hx;refine headS ?_
 obtain ⟨y,acc⟩:=x
 simp only at hx ⊢
 obtain ⟨hx1,hx2⟩:=hx
 have hl:acc.length=y:=by rw [hx2,List.length_map,List.length_take];omega
 refine walkS ?_
 refine aw_condS rfl (fun h=>?_) (fun h=>?_)
 ·have hy:y<r.kids.length:=by omega
  obtain ⟨k,hk1,hk2⟩:=hkk y hy
  have i1:r.kids[y]?=some (k:Int):=by rw [List.getElem?_eq_getElem hy,hk1]
  have HA:=call_c (D:=D) (st:=st) (es:=es) (cs:=acc) hk2 (by omega)
  (repeat (first|refine ctlS ?_|(refine ol_go ?_ (fun K1 hK1=>?_);exact trS;refine evS ?_;(first|refine ⟨_,i1,?_⟩|skip);refine hK1 _ _ ?_;clear hK1 K1)|(refine ow_go ?_ dsS (fun K1 hK1=>?_);exact trS;refine evS ?_;(first|refine ⟨_,i1,?_⟩|skip);refine hK1 _ ?_;clear hK1 K1)|refine skipS ?_|(refine ow_call1q (k:=0) ?_ dsS rfl rfl (HA) rfl rfl (by first|rfl|(simp only [List.length_map,List.length_append]<;>rfl)) (by decide) ?_;exact trS;simp only [St.set,List.map_cons,List.map_nil,List.length_map,List.length_append,Nat.reduceAdd])|(refine ol_call1q (k:=0) ?_ rfl rfl (HA) rfl rfl (by first|rfl|(simp only [List.length_map,List.length_append]<;>rfl)) (by decide) ⟨0,List.mem_cons_self⟩ ?_;exact trS;simp only [St.set,List.map_cons,List.map_nil,List.length_map,List.length_append,Nat.reduceAdd])|(refine ow_call1qn (k:=0) ?_ dsS rfl rfl rfl (HA) rfl rfl ?_;exact trS;simp only [St.set,List.map_cons,List.map_nil,List.length_map,List.length_append,Nat.reduceAdd])))
  refine ⟨(y+1,acc++[insCall es k]),⟨by simp only;omega,by simp only;rw [List.take_succ_eq_append_getElem hy,List.map_append,←hx2,hk1];rfl⟩,by simp only;omega,?_⟩
  exact wkS
 ·obtain rfl:y=r.kids.length:=by omega
  rw [List.take_length] at hx2
  rw [←hx2]
  refine walkS ?_
  ((try refine aw_ret ?_);(simp only [Fin,Tryd.results59];refine finS ?_);exact ⟨_,[],.inl ⟨rfl,rfl⟩,_,(cmpC D st es acc),[_],rfl,toZL_q (by simp only [List.length_append,List.length_map]<;>rfl),by simp,⟨rfl,rfl⟩⟩)
theorem array_m (hk:r.kind=5) {k k1:Nat} (hkl:r.kids[0]?=some (k:Int)) (hke:k<es.length) (hkl1:r.kids[1]?=some (k1:Int)) (hke1:k1<es.length) (hs:0≤st∧st≤200000000):MthOK D st es 58 r:=by
 have h0:kid0 r=k:=by unfold kid0;cases hq:r.kids with|nil=>rw [hq] at hkl;simp at hkl|cons a b=>rw [hq] at hkl;simpa using hkl
 have h1:kid1 r=k1:=by
  have:=kids1 (r:=r) (List.getElem?_eq_some_iff.1 hkl1).1
  rw [hkl1] at this
  exact (Option.some.inj this).symm
 have hw:cmpB r st es=[insCall es k,(5,40,0),(6,0,0),(7,st+6,0),insCall es k1,(8,st+3,0)]:=by
  unfold cmpB
  rw [if_neg (by omega),if_neg (by omega),if_neg (by omega),if_neg (by omega),if_pos hk,h0,h1]
 unfold MthOK
 rw [hw]
 have H1:=call_c (D:=D) (st:=st) (es:=es) (cs:=[]) hke (by simp)
 have H2:=add_c (D:=D) (st:=st) (es:=es) (cs:=[]++[insCall es k]) 5 40 0 (by simp)
 have H3:=add_c (D:=D) (st:=st) (es:=es) (cs:=[]++[insCall es k]++[(5,40,0)]) 6 0 0 (by simp)
 have H4:=here_c (D:=D) (st:=st) (es:=es) (cs:=[]++[insCall es k]++[(5,40,0)]++[(6,0,0)]) hs (by simp)
 have hh:st+((([]++[insCall es k]++[(5,40,0)]++[(6,0,0)]:List Ins).length:Nat):Int)=st+3:=by simp
 rw [hh] at H4
 have e1:st+3+3=st+6:=by omega
 have H5:=add_c (D:=D) (st:=st) (es:=es) (cs:=[]++[insCall es k]++[(5,40,0)]++[(6,0,0)]) 7 (st+6) 0 (by simp)
 have H6:=call_c (D:=D) (st:=st) (es:=es) (cs:=[]++[insCall es k]++[(5,40,0)]++[(6,0,0)]++[(7,st+6,0)]) hke1 (by simp)
 have H7:=add_c (D:=D) (st:=st) (es:=es) (cs:=[]++[insCall es k]++[(5,40,0)]++[(6,0,0)]++[(7,st+6,0)]++[insCall es k1]) 8 (st+3) 0 (by simp)
 refine cbS Tryd.func58 rfl Tryd.call58 Tryd.ntmps58 fun en hsz hks hk0=>?_;refine enS ?_
 (repeat (first|refine ctlS ?_|(refine ol_go ?_ (fun K1 hK1=>?_);exact trS;refine evS ?_;(try simp only [e1]);refine hK1 _ _ ?_;clear hK1 K1)|(refine ow_go ?_ dsS (fun K1 hK1=>?_);exact trS;refine evS ?_;(try simp only [e1]);refine hK1 _ ?_;clear hK1 K1)|refine skipS ?_|(refine ow_call1q (k:=0) ?_ dsS rfl rfl (H1) rfl rfl (by first|rfl|(simp only [List.length_map,List.length_append]<;>rfl)) (by decide) ?_;exact trS;simp only [St.set,List.map_cons,List.map_nil,List.length_map,List.length_append,Nat.reduceAdd])|(refine ol_call1q (k:=0) ?_ rfl rfl (H1) rfl rfl (by first|rfl|(simp only [List.length_map,List.length_append]<;>rfl)) (by decide) ⟨0,List.mem_cons_self⟩ ?_;exact trS;simp only [St.set,List.map_cons,List.map_nil,List.length_map,List.length_append,Nat.reduceAdd])|(refine ow_call1qn (k:=0) ?_ dsS rfl rfl rfl (H1) rfl rfl ?_;exact trS;simp only [St.set,List.map_cons,List.map_nil,List.length_map,List.length_append,Nat.reduceAdd])|(refine ow_call1q (k:=0) ?_ dsS rfl rfl (H2) rfl rfl (by first|rfl|(simp only [List.length_map,List.length_append]<;>rfl)) (by decide) ?_;exact trS;simp only [St.set,List.map_cons,List.map_nil,List.length_map,List.length_append,Nat.reduceAdd])|(refine ol_call1q (k:=0) ?_ rfl rfl (H2) rfl rfl (by first|rfl|(simp only [List.length_map,List.length_append]<;>rfl)) (by decide) ⟨0,List.mem_cons_self⟩ ?_;exact trS;simp only [St.set,List.map_cons,List.map_nil,List.length_map,List.length_append,Nat.reduceAdd])|(refine ow_call1qn (k:=0) ?_ dsS rfl rfl rfl (H2) rfl rfl ?_;exact trS;simp only [St.set,List.map_cons,List.map_nil,List.length_map,List.length_append,Nat.reduceAdd])|(refine ow_call1q (k:=0) ?_ dsS rfl rfl (H3) rfl rfl (by first|rfl|(simp only [List.length_map,List.length_append]<;>rfl)) (by decide) ?_;exact trS;simp only [St.set,List.map_cons,List.map_nil,List.length_map,List.length_append,Nat.reduceAdd])|(refine ol_call1q (k:=0) ?_ rfl rfl (H3) rfl rfl (by first|rfl|(simp only [List.length_map,List.length_append]<;>rfl)) (by decide) ⟨0,List.mem_cons_self⟩ ?_;exact trS;simp only [St.set,List.map_cons,List.map_nil,List.length_map,List.length_append,Nat.reduceAdd])|(refine ow_call1qn (k:=0) ?_ dsS rfl rfl rfl (H3) rfl rfl ?_;exact trS;simp only [St.set,List.map_cons,List.map_nil,List.length_map,List.length_append,Nat.reduceAdd])|(refine ow_call1q (k:=0) ?_ dsS rfl rfl (H4) rfl rfl (by first|rfl|(simp only [List.length_map,List.length_append]<;>rfl)) (by decide) ?_;exact trS;simp only [St.set,List.map_cons,List.map_nil,List.length_map,List.length_append,Nat.reduceAdd])|(refine ol_call1q (k:=0) ?_ rfl rfl (H4) rfl rfl (by first|rfl|(simp only [List.length_map,List.length_append]<;>rfl)) (by decide) ⟨0,List.mem_cons_self⟩ ?_;exact trS;simp only [St.set,List.map_cons,List.map_nil,List.length_map,List.length_append,Nat.reduceAdd])|(refine ow_call1qn (k:=0) ?_ dsS rfl rfl rfl (H4) rfl rfl ?_;exact trS;simp only [St.set,List.map_cons,List.map_nil,List.length_map,List.length_append,Nat.reduceAdd])|(refine ow_call1q (k:=0) ?_ dsS rfl rfl (H5) rfl rfl (by first|rfl|(simp only [List.length_map,List.length_append]<;>rfl)) (by decide) ?_;exact trS;simp only [St.set,List.map_cons,List.map_nil,List.length_map,List.length_append,Nat.reduceAdd])|(refine ol_call1q (k:=0) ?_ rfl rfl (H5) rfl rfl (by first|rfl|(simp only [List.length_map,List.length_append]<;>rfl)) (by decide) ⟨0,List.mem_cons_self⟩ ?_;exact trS;simp only [St.set,List.map_cons,List.map_nil,List.length_map,List.length_append,Nat.reduceAdd])|(refine ow_call1qn (k:=0) ?_ dsS rfl rfl rfl (H5) rfl rfl ?_;exact trS;simp only [St.set,List.map_cons,List.map_nil,List.length_map,List.length_append,Nat.reduceAdd])|(refine ow_call1q (k:=0) ?_ dsS rfl rfl (H6) rfl rfl (by first|rfl|(simp only [List.length_map,List.length_append]<;>rfl)) (by decide) ?_;exact trS;simp only [St.set,List.map_cons,List.map_nil,List.length_map,List.length_append,Nat.reduceAdd])|(refine ol_call1q (k:=0) ?_ rfl rfl (H6) rfl rfl (by first|rfl|(simp only [List.length_map,List.length_append]<;>rfl)) (by decide) ⟨0,List.mem_cons_self⟩ ?_;exact trS;simp only [St.set,List.map_cons,List.map_nil,List.length_map,List.length_append,Nat.reduceAdd])|(refine ow_call1qn (k:=0) ?_ dsS rfl rfl rfl (H6) rfl rfl ?_;exact trS;simp only [St.set,List.map_cons,List.map_nil,List.length_map,List.length_append,Nat.reduceAdd])|(refine ow_call1q (k:=0) ?_ dsS rfl rfl (H7) rfl rfl (by first|rfl|(simp only [List.length_map,List.length_append]<;>rfl)) (by decide) ?_;exact trS;simp only [St.set,List.map_cons,List.map_nil,List.length_map,List.length_append,Nat.reduceAdd])|(refine ol_call1q (k:=0) ?_ rfl rfl (H7) rfl rfl (by first|rfl|(simp only [List.length_map,List.length_append]<;>rfl)) (by decide) ⟨0,List.mem_cons_self⟩ ?_;exact trS;simp only [St.set,List.map_cons,List.map_nil,List.length_map,List.length_append,Nat.reduceAdd])|(refine ow_call1qn (k:=0) ?_ dsS rfl rfl rfl (H7) rfl rfl ?_;exact trS;simp only [St.set,List.map_cons,List.map_nil,List.length_map,List.length_append,Nat.reduceAdd])))
 ((try refine aw_ret ?_);(simp only [Fin,Tryd.results58];refine finS ?_);exact ⟨_,[],.inl ⟨rfl,rfl⟩,_,(cmpC D st es ([insCall es k,(5,40,0),(6,0,0),(7,st+6,0),insCall es k1,(8,st+3,0)])),[_],rfl,toZL_q (by simp only [List.length_append,List.length_map]<;>rfl),by simp,⟨rfl,rfl⟩⟩)
theorem choice_m (hk:r.kind=7) (hkl:r.kids.length=r.tags.length+1) (hkk:∀ j (hj:j<r.kids.length),∃ k:Nat,r.kids[j]=k∧k<es.length) (hb:r.kids.length≤1048576) (hs:0≤st∧st≤200000000):MthOK D st es 60 r:=by
 obtain ⟨k,hk1,hke⟩:=hkk 0 (by omega)
 have i0:r.kids[0]?=some (k:Int):=by rw [List.getElem?_eq_getElem (by omega),hk1]
 have h0:kid0 r=k:=by unfold kid0;cases hq:r.kids with|nil=>rw [hq] at i0;simp at i0|cons a b=>rw [hq] at i0;simpa using i0
 obtain ⟨n,hn⟩:∃ n,r.tags.length=n:=⟨_,rfl⟩
 obtain ⟨first,hfirst⟩:∃ f:Int,f=st+n+2:=⟨_,rfl⟩
 have hw:cmpB r st es=insCall es k::cmpTags r.tags first++[(12,3,0)]++cmpAlts es (r.kids.drop 1):=by
  unfold cmpB
  rw [if_neg (by omega),if_neg (by omega),if_neg (by omega),if_neg (by omega),if_neg (by omega),if_neg (by omega),if_pos hk,h0,hn,←hfirst]
 unfold MthOK
 have H1:=call_c (D:=D) (st:=st) (es:=es) (cs:=[]) hke (by simp)
 have hh:st+((([]++[insCall es k]:List Ins).length:Nat):Int)=st+1:=by simp
 have H2:=here_c (D:=D) (st:=st) (es:=es) (cs:=[]++[insCall es k]) hs (by simp)
 rw [hh] at H2
 have e1:st+1+(n:Int)+1=first:=by omega
 refine cbS Tryd.func60 rfl Tryd.call60 Tryd.ntmps60 fun en hsz hks hk0=>?_;refine enS ?_
 (repeat (first|refine aw_seq ?_|refine aw_region ?_|refine aw_block ?_|(refine aw_exit ?_;(try simp (decide:=true) only [reduceIte]))|(refine aw_skip ?_;try dsimp only)|(refine ow_nil ?_;try dsimp only)|(refine ol_go ?_ (fun K1 hK1=>?_);exact trS;refine evS ?_;refine hK1 _ _ ?_;clear hK1 K1)|(refine ol_skip rfl rfl ?_ ?_;(focus (intro hne;cases hne;done));simp only [St.set])|(refine ol_nil ⟨by kernel_rfl,?_⟩;try dsimp only)|(refine ow_go ?_ dsS (fun K1 hK1=>?_);exact trS;refine evS ?_;refine hK1 _ ?_;clear hK1 K1)|(refine ow_skip rfl rfl ?_ dsS ?_;(focus (intro hne;cases hne;done));simp only [St.set])))
 (first|(refine ow_call1q (k:=0) ?_ dsS rfl rfl (H1) rfl rfl (by first|rfl|(simp only [List.length_map,List.length_append]<;>rfl)) (by decide) ?_;exact trS;simp only [St.set,List.map_cons,List.map_nil,List.length_map,List.length_append,Nat.reduceAdd])|(refine ol_call1q (k:=0) ?_ rfl rfl (H1) rfl rfl (by first|rfl|(simp only [List.length_map,List.length_append]<;>rfl)) (by decide) ⟨0,List.mem_cons_self⟩ ?_;exact trS;simp only [St.set,List.map_cons,List.map_nil,List.length_map,List.length_append,Nat.reduceAdd])|(refine ow_call1qn (k:=0) ?_ dsS rfl rfl rfl (H1) rfl rfl ?_;exact trS;simp only [St.set,List.map_cons,List.map_nil,List.length_map,List.length_append,Nat.reduceAdd]))
 (repeat (first|refine aw_seq ?_|refine aw_region ?_|refine aw_block ?_|(refine aw_exit ?_;(try simp (decide:=true) only [reduceIte]))|(refine aw_skip ?_;try dsimp only)|(refine ow_nil ?_;try dsimp only)|(refine ol_go ?_ (fun K1 hK1=>?_);exact trS;refine evS ?_;refine hK1 _ _ ?_;clear hK1 K1)|(refine ol_skip rfl rfl ?_ ?_;(focus (intro hne;cases hne;done));simp only [St.set])|(refine ol_nil ⟨by kernel_rfl,?_⟩;try dsimp only)|(refine ow_go ?_ dsS (fun K1 hK1=>?_);exact trS;refine evS ?_;refine hK1 _ ?_;clear hK1 K1)|(refine ow_skip rfl rfl ?_ dsS ?_;(focus (intro hne;cases hne;done));simp only [St.set])))
 refine aw_freezeB 3 32 (encRc r) rfl rfl hks (by decide) ?_
 (repeat (first|refine ctlS ?_|(refine ol_go ?_ (fun K1 hK1=>?_);exact trS;refine evS ?_;(try simp only [hn,e1]);refine hK1 _ _ ?_;clear hK1 K1)|(refine ow_go ?_ dsS (fun K1 hK1=>?_);exact trS;refine evS ?_;(try simp only [hn,e1]);refine hK1 _ ?_;clear hK1 K1)|refine skipS ?_|(refine ow_call1q (k:=0) ?_ dsS rfl rfl (H2) rfl rfl (by first|rfl|(simp only [List.length_map,List.length_append]<;>rfl)) (by decide) ?_;exact trS;simp only [St.set,List.map_cons,List.map_nil,List.length_map,List.length_append,Nat.reduceAdd])|(refine ol_call1q (k:=0) ?_ rfl rfl (H2) rfl rfl (by first|rfl|(simp only [List.length_map,List.length_append]<;>rfl)) (by decide) ⟨0,List.mem_cons_self⟩ ?_;exact trS;simp only [St.set,List.map_cons,List.map_nil,List.length_map,List.length_append,Nat.reduceAdd])|(refine ow_call1qn (k:=0) ?_ dsS rfl rfl rfl (H2) rfl rfl ?_;exact trS;simp only [St.set,List.map_cons,List.map_nil,List.length_map,List.length_append,Nat.reduceAdd])))
 refine aw_loopS [0,3,4,22,23] (fun κ s'=>[(κ,keyB s' 0 3)]) (fun κ x=>[(24,.d (iD (x.1:Nat)))]) [0] (fun κ x=>[(0,some [.d (encDs D),.d (iD st),.d (encI es),.own κ 46 3 (x.2.map insC)])]) [80] (fun κ x=>[(κ,some (x.2.length,46,3))]) (fun x:Nat × List Ins=>x.1≤n∧x.2=insCall es k::cmpTags (r.tags.take x.1) first) (fun x=>n - x.1) ((0,[insCall es k])) hks (fun _=>rfl) ⟨Nat.zero_le _,rfl⟩ wkS ?_;intro x hx;refine headS ?_
 obtain ⟨y,acc⟩:=x
 simp only at hx ⊢
 obtain ⟨hx1,hx2⟩:=hx
 have hl:acc.length=y+1:=by rw [hx2,List.length_cons,cmpTags_len,List.length_take];omega
 refine walkS ?_
 refine aw_condS rfl (fun h=>?_) (fun h=>?_)
 ·have hy:y<r.tags.length:=by omega
  have i1:r.tags[y]?=some (r.tags[y]):=List.getElem?_eq_getElem hy
  have HA:=add_c (D:=D) (st:=st) (es:=es) (cs:=acc) 11 (r.tags[y]) (first+2*(y:Nat)) (by omega)
  (repeat (first|refine ctlS ?_|(refine ol_go ?_ (fun K1 hK1=>?_);exact trS;refine evS ?_;(first|refine ⟨_,i1,?_⟩|skip);refine hK1 _ _ ?_;clear hK1 K1)|(refine ow_go ?_ dsS (fun K1 hK1=>?_);exact trS;refine evS ?_;(first|refine ⟨_,i1,?_⟩|skip);refine hK1 _ ?_;clear hK1 K1)|refine skipS ?_|(refine ow_call1q (k:=0) ?_ dsS rfl rfl (HA) rfl rfl (by first|rfl|(simp only [List.length_map,List.length_append]<;>rfl)) (by decide) ?_;exact trS;simp only [St.set,List.map_cons,List.map_nil,List.length_map,List.length_append,Nat.reduceAdd])|(refine ol_call1q (k:=0) ?_ rfl rfl (HA) rfl rfl (by first|rfl|(simp only [List.length_map,List.length_append]<;>rfl)) (by decide) ⟨0,List.mem_cons_self⟩ ?_;exact trS;simp only [St.set,List.map_cons,List.map_nil,List.length_map,List.length_append,Nat.reduceAdd])|(refine ow_call1qn (k:=0) ?_ dsS rfl rfl rfl (HA) rfl rfl ?_;exact trS;simp only [St.set,List.map_cons,List.map_nil,List.length_map,List.length_append,Nat.reduceAdd])))
  refine ⟨(y+1,acc++[(11,r.tags[y],first+2*((y:Nat):Int))]),⟨by simp only;omega,by simp only;rw [List.take_succ_eq_append_getElem hy,cmpTags_snoc,hx2,List.length_take,Nat.min_eq_left (by omega)];rfl⟩,by simp only;omega,?_⟩
  exact wkS
 ·obtain rfl:y=n:=by omega
  rw [←hn,List.take_length] at hx2
  have HF:=add_c (D:=D) (st:=st) (es:=es) (cs:=acc) 12 3 0 (by omega)
  obtain ⟨base,hbase⟩:∃ b,b=acc++[((12:Int),(3:Int),(0:Int))]:=⟨_,rfl⟩
  have hbl:base.length≤1048600:=by rw [hbase,List.length_append,List.length_singleton];omega
  rw [←hbase] at HF
  (repeat (first|refine walkS ?_|(refine ow_call1q (k:=0) ?_ dsS rfl rfl (HF) rfl rfl (by first|rfl|(simp only [List.length_map,List.length_append]<;>rfl)) (by decide) ?_;exact trS;simp only [St.set,List.map_cons,List.map_nil,List.length_map,List.length_append,Nat.reduceAdd])|(refine ol_call1q (k:=0) ?_ rfl rfl (HF) rfl rfl (by first|rfl|(simp only [List.length_map,List.length_append]<;>rfl)) (by decide) ⟨0,List.mem_cons_self⟩ ?_;exact trS;simp only [St.set,List.map_cons,List.map_nil,List.length_map,List.length_append,Nat.reduceAdd])|(refine ow_call1qn (k:=0) ?_ dsS rfl rfl rfl (HF) rfl rfl ?_;exact trS;simp only [St.set,List.map_cons,List.map_nil,List.length_map,List.length_append,Nat.reduceAdd])))
  refine aw_loopS [0,3,41] (fun κ s'=>[(κ,keyB s' 0 3)]) (fun κ x=>[(42,.d (iD (x.1:Nat)))]) [0] (fun κ x=>[(0,some [.d (encDs D),.d (iD st),.d (encI es),.own κ 46 3 (x.2.map insC)])]) [192,208,224] (fun κ x=>[(κ,some (x.2.length,46,3))]) (fun x:Nat × List Ins=>x.1≤y∧x.2=base++cmpAlts es ((r.kids.drop 1).take x.1)) (fun x=>y - x.1) ((0,base)) hks (fun _=>rfl) ⟨Nat.zero_le _,by simp [cmpAlts]⟩ wkS ?_;intro x hx;refine headS ?_
  obtain ⟨z,acc2⟩:=x
  simp only at hx ⊢
  obtain ⟨hz1,hz2⟩:=hx
  have hl2:acc2.length≤base.length+2*z:=by
   have:=cmpAlts_len es ((r.kids.drop 1).take z)
   rw [List.length_take,List.length_drop] at this
   rw [hz2,List.length_append]
   omega
  refine walkS ?_
  refine aw_condS rfl (fun h2=>?_) (fun h2=>?_)
  ·have hzk:z<(r.kids.drop 1).length:=by rw [List.length_drop];omega
   obtain ⟨kk,hkk1,hkk2⟩:=hkk (z+1) (by omega)
   have i1:r.kids[z+1]?=some (kk:Int):=by rw [List.getElem?_eq_getElem (by omega),hkk1]
   have e3:IntKind.i64.wrap ((z:Int)+1)=((z+1:Nat):Int):=by rw [wrap_small (by omega) (by omega)];omega
   have hsn:(r.kids.drop 1).take (z+1)=(r.kids.drop 1).take z++[(kk:Int)]:=by
    rw [List.take_succ_eq_append_getElem hzk,List.getElem_drop]
    simp only [Nat.add_comm 1 z,hkk1]
   have HC0:=call_c (D:=D) (st:=st) (es:=es) (cs:=acc2) hkk2 (by omega)
   have HR:=add_c (D:=D) (st:=st) (es:=es) (cs:=acc2) 10 0 0 (by omega)
   have HC1:=call_c (D:=D) (st:=st) (es:=es) (cs:=acc2++[(10,0,0)]) hkk2 (by rw [List.length_append,List.length_singleton];omega)
   refine walkS ?_
   refine aw_condS rfl (fun h3=>?_) (fun h3=>?_)
   ·have hz0:z≠0:=by omega
    (repeat (first|refine ctlS ?_|(refine ol_go ?_ (fun K1 hK1=>?_);exact trS;refine evS ?_;(first|refine ⟨_,i1,?_⟩|skip);(try simp only [e3]);refine hK1 _ _ ?_;clear hK1 K1)|(refine ow_go ?_ dsS (fun K1 hK1=>?_);exact trS;refine evS ?_;(first|refine ⟨_,i1,?_⟩|skip);(try simp only [e3]);refine hK1 _ ?_;clear hK1 K1)|refine skipS ?_|(refine ow_call1q (k:=0) ?_ dsS rfl rfl (HR) rfl rfl (by first|rfl|(simp only [List.length_map,List.length_append]<;>rfl)) (by decide) ?_;exact trS;simp only [St.set,List.map_cons,List.map_nil,List.length_map,List.length_append,Nat.reduceAdd])|(refine ol_call1q (k:=0) ?_ rfl rfl (HR) rfl rfl (by first|rfl|(simp only [List.length_map,List.length_append]<;>rfl)) (by decide) ⟨0,List.mem_cons_self⟩ ?_;exact trS;simp only [St.set,List.map_cons,List.map_nil,List.length_map,List.length_append,Nat.reduceAdd])|(refine ow_call1qn (k:=0) ?_ dsS rfl rfl rfl (HR) rfl rfl ?_;exact trS;simp only [St.set,List.map_cons,List.map_nil,List.length_map,List.length_append,Nat.reduceAdd])|(refine ow_call1q (k:=0) ?_ dsS rfl rfl (HC1) rfl rfl (by first|rfl|(simp only [List.length_map,List.length_append]<;>rfl)) (by decide) ?_;exact trS;simp only [St.set,List.map_cons,List.map_nil,List.length_map,List.length_append,Nat.reduceAdd])|(refine ol_call1q (k:=0) ?_ rfl rfl (HC1) rfl rfl (by first|rfl|(simp only [List.length_map,List.length_append]<;>rfl)) (by decide) ⟨0,List.mem_cons_self⟩ ?_;exact trS;simp only [St.set,List.map_cons,List.map_nil,List.length_map,List.length_append,Nat.reduceAdd])|(refine ow_call1qn (k:=0) ?_ dsS rfl rfl rfl (HC1) rfl rfl ?_;exact trS;simp only [St.set,List.map_cons,List.map_nil,List.length_map,List.length_append,Nat.reduceAdd])))
    refine ⟨(z+1,acc2++[(10,0,0)]++[insCall es kk]),⟨by simp only;omega,by
     simp only
     rw [hsn,cmpAlts_snoc es kk _ (by intro e;have:=congrArg List.length e;rw [List.length_take] at this;simp at this;omega),hz2]
     simp⟩,by simp only;omega,?_⟩
    exact wkS
   ·obtain rfl:z=0:=by omega
    (repeat (first|refine ctlS ?_|(refine ol_go ?_ (fun K1 hK1=>?_);exact trS;refine evS ?_;(first|refine ⟨_,i1,?_⟩|skip);(try simp only [e3]);refine hK1 _ _ ?_;clear hK1 K1)|(refine ow_go ?_ dsS (fun K1 hK1=>?_);exact trS;refine evS ?_;(first|refine ⟨_,i1,?_⟩|skip);(try simp only [e3]);refine hK1 _ ?_;clear hK1 K1)|refine skipS ?_|(refine ow_call1q (k:=0) ?_ dsS rfl rfl (HC0) rfl rfl (by first|rfl|(simp only [List.length_map,List.length_append]<;>rfl)) (by decide) ?_;exact trS;simp only [St.set,List.map_cons,List.map_nil,List.length_map,List.length_append,Nat.reduceAdd])|(refine ol_call1q (k:=0) ?_ rfl rfl (HC0) rfl rfl (by first|rfl|(simp only [List.length_map,List.length_append]<;>rfl)) (by decide) ⟨0,List.mem_cons_self⟩ ?_;exact trS;simp only [St.set,List.map_cons,List.map_nil,List.length_map,List.length_append,Nat.reduceAdd])|(refine ow_call1qn (k:=0) ?_ dsS rfl rfl rfl (HC0) rfl rfl ?_;exact trS;simp only [St.set,List.map_cons,List.map_nil,List.length_map,List.length_append,Nat.reduceAdd])))
    refine ⟨(0+1,acc2++[insCall es kk]),⟨by simp only;omega,by
     simp only
     rw [hsn,List.take_zero,List.nil_append,cmpAlts_one,hz2,List.take_zero]
     simp [cmpAlts]⟩,by simp only;omega,?_⟩
    exact wkS
  ·obtain rfl:z=y:=by omega
   refine walkS ?_
   ((try refine aw_ret ?_);(simp only [Fin,Tryd.results60];refine finS ?_);exact ⟨_,[],.inl ⟨rfl,rfl⟩,_,(cmpC D st es acc2),[_],rfl,toZL_q (by simp only [List.length_append,List.length_map]<;>rfl),by simp,⟨rfl,by
    rw [hw,hz2,hbase,hx2,List.take_of_length_le (by rw [List.length_drop];omega)]⟩⟩)
end
end Go.Proofs.YtaammoodcgfhpaaDoor.Eng
