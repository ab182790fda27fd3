/-
 The program's compiler: rules without rows of instructions.
-/
import Derived.Test.YtaammoodcgfhpaaDoorKNC2
set_option linter.unusedSimpArgs false
set_option linter.unusedVariables false
set_option linter.defProp false
set_option maxRecDepth 100000
set_option maxHeartbeats 4000000
namespace Go.Proofs.YtaammoodcgfhpaaDoor.Eng
open Go Go.RowKit

section
variable {D:List RuleD}{st:Int}{es:List Int}{r:RuleD}
theorem u8_w3 (c:UInt8):IntKind.i64.wrap ((c.toNat:Nat):Int)=((c.toNat:Nat):Int):=by
 have:c.toNat<256:=c.toNat_lt
 exact wrap_small (by omega) (by omega)
def MthOK (D:List RuleD) (st:Int) (es:List Int) (f:FuncId) (r:RuleD):Prop:=AC Tryd.prog f [.ptr 0 0,.d (encR r)] (some (cmpC D st es [])) (fun r' b'=>r'=.d (.tup [])∧b'=some (cmpC D st es (cmpB r st es)))
private def tyF:=ai (ai (ai tg54 tg26) (ai tg39 tg61)) (ai (ai tg3 tg4) (ai tg5 (ai tg78 tg9)))
theorem integer_m (hk:r.kind=1):MthOK D st es 54 r:=by
 have hw:cmpB r st es=[(1,r.size,if r.little then 1 else 0)]:=if_pos hk
 unfold MthOK
 rw [hw]
 have HA:=fun b:Int=>add_c (D:=D) (st:=st) (es:=es) (cs:=[]) 1 r.size b (by simp)
 have H0:=HA 0
 have H1:=HA 1
 refine cbS Tryd.func54 rfl Tryd.call54 Tryd.ntmps54 fun en hsz hks hk0=>?_;refine enS ?_
 refine walkS ?_
 refine aw_condS rfl (fun h=>?_) (fun h=>?_)
 ·rw [h]
  (repeat (first|refine walkS ?_|(refine ow_call1q (k:=0) ?_ dsS rfl rfl (H1) rfl rfl (by first|rfl|(simp only [List.length_map,List.length_append]<;>rfl)) (by decide) ?_;exact trS;simp only [St.set,List.map_cons,List.map_nil,List.length_map,List.length_append,Nat.reduceAdd])|(refine ol_call1q (k:=0) ?_ rfl rfl (H1) rfl rfl (by first|rfl|(simp only [List.length_map,List.length_append]<;>rfl)) (by decide) ⟨0,List.mem_cons_self⟩ ?_;exact trS;simp only [St.set,List.map_cons,List.map_nil,List.length_map,List.length_append,Nat.reduceAdd])|(refine ow_call1qn (k:=0) ?_ dsS rfl rfl rfl (H1) rfl rfl ?_;exact trS;simp only [St.set,List.map_cons,List.map_nil,List.length_map,List.length_append,Nat.reduceAdd])))
  ((try refine aw_ret ?_);(simp only [Fin,Tryd.results54];refine finS ?_);exact ⟨_,[],.inl ⟨rfl,rfl⟩,_,(cmpC D st es [(1,r.size,1)]),[_],rfl,toZL_q (by simp only [List.length_append,List.length_map]<;>rfl),by simp,⟨rfl,rfl⟩⟩)
 ·rw [show r.little=false by simpa using h]
  (repeat (first|refine walkS ?_|(refine ow_call1q (k:=0) ?_ dsS rfl rfl (H0) rfl rfl (by first|rfl|(simp only [List.length_map,List.length_append]<;>rfl)) (by decide) ?_;exact trS;simp only [St.set,List.map_cons,List.map_nil,List.length_map,List.length_append,Nat.reduceAdd])|(refine ol_call1q (k:=0) ?_ rfl rfl (H0) rfl rfl (by first|rfl|(simp only [List.length_map,List.length_append]<;>rfl)) (by decide) ⟨0,List.mem_cons_self⟩ ?_;exact trS;simp only [St.set,List.map_cons,List.map_nil,List.length_map,List.length_append,Nat.reduceAdd])|(refine ow_call1qn (k:=0) ?_ dsS rfl rfl rfl (H0) rfl rfl ?_;exact trS;simp only [St.set,List.map_cons,List.map_nil,List.length_map,List.length_append,Nat.reduceAdd])))
  ((try refine aw_ret ?_);(simp only [Fin,Tryd.results54];refine finS ?_);exact ⟨_,[],.inl ⟨rfl,rfl⟩,_,(cmpC D st es [(1,r.size,0)]),[_],rfl,toZL_q (by simp only [List.length_append,List.length_map]<;>rfl),by simp,⟨rfl,rfl⟩⟩)
theorem fixed_m (hk:r.kind=3):MthOK D st es 56 r:=by
 have hw:cmpB r st es=[(3,r.size,0)]:=by
  unfold cmpB
  rw [if_neg (by omega),if_neg (by omega),if_pos hk]
 unfold MthOK
 rw [hw]
 have HA:=add_c (D:=D) (st:=st) (es:=es) (cs:=[]) 3 r.size 0 (by simp)
 refine cbS Tryd.func56 rfl Tryd.call56 Tryd.ntmps56 fun en hsz hks hk0=>?_;refine enS ?_
 (repeat (first|refine walkS ?_|(refine ow_call1q (k:=0) ?_ dsS rfl rfl (HA) rfl rfl (by first|rfl|(simp only [List.length_map,List.length_append]<;>rfl)) (by decide) ?_;exact trS;simp only [St.set,List.map_cons,List.map_nil,List.length_map,List.length_append,Nat.reduceAdd])|(refine ol_call1q (k:=0) ?_ rfl rfl (HA) rfl rfl (by first|rfl|(simp only [List.length_map,List.length_append]<;>rfl)) (by decide) ⟨0,List.mem_cons_self⟩ ?_;exact trS;simp only [St.set,List.map_cons,List.map_nil,List.length_map,List.length_append,Nat.reduceAdd])|(refine ow_call1qn (k:=0) ?_ dsS rfl rfl rfl (HA) rfl rfl ?_;exact trS;simp only [St.set,List.map_cons,List.map_nil,List.length_map,List.length_append,Nat.reduceAdd])))
 ((try refine aw_ret ?_);(simp only [Fin,Tryd.results56];refine finS ?_);exact ⟨_,[],.inl ⟨rfl,rfl⟩,_,(cmpC D st es [(3,r.size,0)]),[_],rfl,toZL_q (by simp only [List.length_append,List.length_map]<;>rfl),by simp,⟨rfl,rfl⟩⟩)
theorem sized_m (hk:r.kind=4) {k:Nat} (hkl:r.kids[0]?=some (k:Int)) (hke:k<es.length):MthOK D st es 57 r:=by
 have h0:kid0 r=k:=by unfold kid0;cases hq:r.kids with|nil=>rw [hq] at hkl;simp at hkl|cons a b=>rw [hq] at hkl;simpa using hkl
 have hw:cmpB r st es=[insCall es k,(4,0,0)]:=by
  unfold cmpB
  rw [if_neg (by omega),if_neg (by omega),if_neg (by omega),if_pos hk,h0]
 unfold MthOK
 rw [hw]
 have H1:=call_c (D:=D) (st:=st) (es:=es) (cs:=[]) hke (by simp)
 have H2:=add_c (D:=D) (st:=st) (es:=es) (cs:=[]++[insCall es k]) 4 0 0 (by simp)
 refine cbS Tryd.func57 rfl Tryd.call57 Tryd.ntmps57 fun en hsz hks hk0=>?_;refine enS ?_
 (repeat (first|refine walkS ?_|(refine ow_call1q (k:=0) ?_ dsS rfl rfl (H1) rfl rfl (by first|rfl|(simp only [List.length_map,List.length_append]<;>rfl)) (by decide) ?_;exact trS;simp only [St.set,List.map_cons,List.map_nil,List.length_map,List.length_append,Nat.reduceAdd])|(refine ol_call1q (k:=0) ?_ rfl rfl (H1) rfl rfl (by first|rfl|(simp only [List.length_map,List.length_append]<;>rfl)) (by decide) ⟨0,List.mem_cons_self⟩ ?_;exact trS;simp only [St.set,List.map_cons,List.map_nil,List.length_map,List.length_append,Nat.reduceAdd])|(refine ow_call1qn (k:=0) ?_ dsS rfl rfl rfl (H1) rfl rfl ?_;exact trS;simp only [St.set,List.map_cons,List.map_nil,List.length_map,List.length_append,Nat.reduceAdd])|(refine ow_call1q (k:=0) ?_ dsS rfl rfl (H2) rfl rfl (by first|rfl|(simp only [List.length_map,List.length_append]<;>rfl)) (by decide) ?_;exact trS;simp only [St.set,List.map_cons,List.map_nil,List.length_map,List.length_append,Nat.reduceAdd])|(refine ol_call1q (k:=0) ?_ rfl rfl (H2) rfl rfl (by first|rfl|(simp only [List.length_map,List.length_append]<;>rfl)) (by decide) ⟨0,List.mem_cons_self⟩ ?_;exact trS;simp only [St.set,List.map_cons,List.map_nil,List.length_map,List.length_append,Nat.reduceAdd])|(refine ow_call1qn (k:=0) ?_ dsS rfl rfl rfl (H2) rfl rfl ?_;exact trS;simp only [St.set,List.map_cons,List.map_nil,List.length_map,List.length_append,Nat.reduceAdd])))
 ((try refine aw_ret ?_);(simp only [Fin,Tryd.results57];refine finS ?_);exact ⟨_,[],.inl ⟨rfl,rfl⟩,_,(cmpC D st es ([insCall es k,(4,0,0)])),[_],rfl,toZL_q (by simp only [List.length_append,List.length_map]<;>rfl),by simp,⟨rfl,rfl⟩⟩)
theorem option_m (hk:r.kind=8) {k:Nat} (hkl:r.kids[0]?=some (k:Int)) (hke:k<es.length) (hs:0≤st∧st≤200000000):MthOK D st es 61 r:=by
 have h0:kid0 r=k:=by unfold kid0;cases hq:r.kids with|nil=>rw [hq] at hkl;simp at hkl|cons a b=>rw [hq] at hkl;simpa using hkl
 have hw:cmpB r st es=[(13,st+2,0),insCall es k]:=by
  unfold cmpB
  rw [if_neg (by omega),if_neg (by omega),if_neg (by omega),if_neg (by omega),if_neg (by omega),if_neg (by omega),if_neg (by omega),if_pos hk,h0]
 unfold MthOK
 rw [hw]
 have hh:st+((([]:List Ins).length:Nat):Int)=st:=by simp
 have H0:=here_c (D:=D) (st:=st) (es:=es) (cs:=[]) hs (by simp)
 rw [hh] at H0
 have e1:IntKind.i64.wrap (st+2)=st+2:=wrap_small (by omega) (by omega)
 have H1:=add_c (D:=D) (st:=st) (es:=es) (cs:=[]) 13 (st+2) 0 (by simp)
 have H2:=call_c (D:=D) (st:=st) (es:=es) (cs:=[]++[(13,st+2,0)]) hke (by simp)
 refine cbS Tryd.func61 rfl Tryd.call61 Tryd.ntmps61 fun en hsz hks hk0=>?_;refine enS ?_
 (repeat (first|refine ctlS ?_|(refine ol_go ?_ (fun K1 hK1=>?_);exact trS;refine evS ?_;(try simp only [e1]);refine hK1 _ _ ?_;clear hK1 K1)|(refine ow_go ?_ dsS (fun K1 hK1=>?_);exact trS;refine evS ?_;(try simp only [e1]);refine hK1 _ ?_;clear hK1 K1)|refine skipS ?_|(refine ow_call1q (k:=0) ?_ dsS rfl rfl (H0) rfl rfl (by first|rfl|(simp only [List.length_map,List.length_append]<;>rfl)) (by decide) ?_;exact trS;simp only [St.set,List.map_cons,List.map_nil,List.length_map,List.length_append,Nat.reduceAdd])|(refine ol_call1q (k:=0) ?_ rfl rfl (H0) rfl rfl (by first|rfl|(simp only [List.length_map,List.length_append]<;>rfl)) (by decide) ⟨0,List.mem_cons_self⟩ ?_;exact trS;simp only [St.set,List.map_cons,List.map_nil,List.length_map,List.length_append,Nat.reduceAdd])|(refine ow_call1qn (k:=0) ?_ dsS rfl rfl rfl (H0) rfl rfl ?_;exact trS;simp only [St.set,List.map_cons,List.map_nil,List.length_map,List.length_append,Nat.reduceAdd])|(refine ow_call1q (k:=0) ?_ dsS rfl rfl (H1) rfl rfl (by first|rfl|(simp only [List.length_map,List.length_append]<;>rfl)) (by decide) ?_;exact trS;simp only [St.set,List.map_cons,List.map_nil,List.length_map,List.length_append,Nat.reduceAdd])|(refine ol_call1q (k:=0) ?_ rfl rfl (H1) rfl rfl (by first|rfl|(simp only [List.length_map,List.length_append]<;>rfl)) (by decide) ⟨0,List.mem_cons_self⟩ ?_;exact trS;simp only [St.set,List.map_cons,List.map_nil,List.length_map,List.length_append,Nat.reduceAdd])|(refine ow_call1qn (k:=0) ?_ dsS rfl rfl rfl (H1) rfl rfl ?_;exact trS;simp only [St.set,List.map_cons,List.map_nil,List.length_map,List.length_append,Nat.reduceAdd])|(refine ow_call1q (k:=0) ?_ dsS rfl rfl (H2) rfl rfl (by first|rfl|(simp only [List.length_map,List.length_append]<;>rfl)) (by decide) ?_;exact trS;simp only [St.set,List.map_cons,List.map_nil,List.length_map,List.length_append,Nat.reduceAdd])|(refine ol_call1q (k:=0) ?_ rfl rfl (H2) rfl rfl (by first|rfl|(simp only [List.length_map,List.length_append]<;>rfl)) (by decide) ⟨0,List.mem_cons_self⟩ ?_;exact trS;simp only [St.set,List.map_cons,List.map_nil,List.length_map,List.length_append,Nat.reduceAdd])|(refine ow_call1qn (k:=0) ?_ dsS rfl rfl rfl (H2) rfl rfl ?_;exact trS;simp only [St.set,List.map_cons,List.map_nil,List.length_map,List.length_append,Nat.reduceAdd])))
 ((try refine aw_ret ?_);(simp only [Fin,Tryd.results61];refine finS ?_);exact ⟨_,[],.inl ⟨rfl,rfl⟩,_,(cmpC D st es ([(13,st+2,0),insCall es k])),[_],rfl,toZL_q (by simp only [List.length_append,List.length_map]<;>rfl),by simp,⟨rfl,rfl⟩⟩)
theorem checked_m (hk:r.kind=9) {k:Nat} (hkl:r.kids[0]?=some (k:Int)) (hke:k<es.length):MthOK D st es 62 r:=by
 have h0:kid0 r=k:=by unfold kid0;cases hq:r.kids with|nil=>rw [hq] at hkl;simp at hkl|cons a b=>rw [hq] at hkl;simpa using hkl
 have hw:cmpB r st es=[(14,0,0),insCall es k,(15,0,0)]:=by
  unfold cmpB
  rw [if_neg (by omega),if_neg (by omega),if_neg (by omega),if_neg (by omega),if_neg (by omega),if_neg (by omega),if_neg (by omega),if_neg (by omega),if_pos hk,h0]
 unfold MthOK
 rw [hw]
 have H1:=add_c (D:=D) (st:=st) (es:=es) (cs:=[]) 14 0 0 (by simp)
 have H2:=call_c (D:=D) (st:=st) (es:=es) (cs:=[]++[(14,0,0)]) hke (by simp)
 have H3:=add_c (D:=D) (st:=st) (es:=es) (cs:=[]++[(14,0,0)]++[insCall es k]) 15 0 0 (by simp)
 refine cbS Tryd.func62 rfl Tryd.call62 Tryd.ntmps62 fun en hsz hks hk0=>?_;refine enS ?_
 (repeat (first|refine walkS ?_|(refine ow_call1q (k:=0) ?_ dsS rfl rfl (H1) rfl rfl (by first|rfl|(simp only [List.length_map,List.length_append]<;>rfl)) (by decide) ?_;exact trS;simp only [St.set,List.map_cons,List.map_nil,List.length_map,List.length_append,Nat.reduceAdd])|(refine ol_call1q (k:=0) ?_ rfl rfl (H1) rfl rfl (by first|rfl|(simp only [List.length_map,List.length_append]<;>rfl)) (by decide) ⟨0,List.mem_cons_self⟩ ?_;exact trS;simp only [St.set,List.map_cons,List.map_nil,List.length_map,List.length_append,Nat.reduceAdd])|(refine ow_call1qn (k:=0) ?_ dsS rfl rfl rfl (H1) rfl rfl ?_;exact trS;simp only [St.set,List.map_cons,List.map_nil,List.length_map,List.length_append,Nat.reduceAdd])|(refine ow_call1q (k:=0) ?_ dsS rfl rfl (H2) rfl rfl (by first|rfl|(simp only [List.length_map,List.length_append]<;>rfl)) (by decide) ?_;exact trS;simp only [St.set,List.map_cons,List.map_nil,List.length_map,List.length_append,Nat.reduceAdd])|(refine ol_call1q (k:=0) ?_ rfl rfl (H2) rfl rfl (by first|rfl|(simp only [List.length_map,List.length_append]<;>rfl)) (by decide) ⟨0,List.mem_cons_self⟩ ?_;exact trS;simp only [St.set,List.map_cons,List.map_nil,List.length_map,List.length_append,Nat.reduceAdd])|(refine ow_call1qn (k:=0) ?_ dsS rfl rfl rfl (H2) rfl rfl ?_;exact trS;simp only [St.set,List.map_cons,List.map_nil,List.length_map,List.length_append,Nat.reduceAdd])|(refine ow_call1q (k:=0) ?_ dsS rfl rfl (H3) rfl rfl (by first|rfl|(simp only [List.length_map,List.length_append]<;>rfl)) (by decide) ?_;exact trS;simp only [St.set,List.map_cons,List.map_nil,List.length_map,List.length_append,Nat.reduceAdd])|(refine ol_call1q (k:=0) ?_ rfl rfl (H3) rfl rfl (by first|rfl|(simp only [List.length_map,List.length_append]<;>rfl)) (by decide) ⟨0,List.mem_cons_self⟩ ?_;exact trS;simp only [St.set,List.map_cons,List.map_nil,List.length_map,List.length_append,Nat.reduceAdd])|(refine ow_call1qn (k:=0) ?_ dsS rfl rfl rfl (H3) rfl rfl ?_;exact trS;simp only [St.set,List.map_cons,List.map_nil,List.length_map,List.length_append,Nat.reduceAdd])))
 ((try refine aw_ret ?_);(simp only [Fin,Tryd.results62];refine finS ?_);exact ⟨_,[],.inl ⟨rfl,rfl⟩,_,(cmpC D st es ([(14,0,0),insCall es k,(15,0,0)])),[_],rfl,toZL_q (by simp only [List.length_append,List.length_map]<;>rfl),by simp,⟨rfl,rfl⟩⟩)
theorem terminated_m (hk:r.kind=10) (hb:r.bytes.length=1):MthOK D st es 63 r:=by
 obtain ⟨c,hc⟩:∃ c,r.bytes=[c]:=List.length_eq_one_iff.1 hb
 have i1:r.bytes[0]?=some c:=by rw [hc];rfl
 have e0:=u8_w3 c
 have hw:cmpB r st es=[(16,((c.toNat:Nat):Int),0)]:=by
  unfold cmpB
  rw [if_neg (by omega),if_neg (by omega),if_neg (by omega),if_neg (by omega),if_neg (by omega),if_neg (by omega),if_neg (by omega),if_neg (by omega),if_neg (by omega),i1]
  rfl
 unfold MthOK
 rw [hw]
 have H1:=add_c (D:=D) (st:=st) (es:=es) (cs:=[]) 16 ((c.toNat:Nat):Int) 0 (by simp)
 refine cbS Tryd.func63 rfl Tryd.call63 Tryd.ntmps63 fun en hsz hks hk0=>?_;refine enS ?_
 (repeat (first|refine ctlS ?_|(refine ol_go ?_ (fun K1 hK1=>?_);exact trS;refine evS ?_;(first|refine ⟨_,i1,?_⟩|skip);(try simp only [e0]);refine hK1 _ _ ?_;clear hK1 K1)|(refine ow_go ?_ dsS (fun K1 hK1=>?_);exact trS;refine evS ?_;(first|refine ⟨_,i1,?_⟩|skip);(try simp only [e0]);refine hK1 _ ?_;clear hK1 K1)|refine skipS ?_|(refine ow_call1q (k:=0) ?_ dsS rfl rfl (H1) rfl rfl (by first|rfl|(simp only [List.length_map,List.length_append]<;>rfl)) (by decide) ?_;exact trS;simp only [St.set,List.map_cons,List.map_nil,List.length_map,List.length_append,Nat.reduceAdd])|(refine ol_call1q (k:=0) ?_ rfl rfl (H1) rfl rfl (by first|rfl|(simp only [List.length_map,List.length_append]<;>rfl)) (by decide) ⟨0,List.mem_cons_self⟩ ?_;exact trS;simp only [St.set,List.map_cons,List.map_nil,List.length_map,List.length_append,Nat.reduceAdd])|(refine ow_call1qn (k:=0) ?_ dsS rfl rfl rfl (H1) rfl rfl ?_;exact trS;simp only [St.set,List.map_cons,List.map_nil,List.length_map,List.length_append,Nat.reduceAdd])))
 ((try refine aw_ret ?_);(simp only [Fin,Tryd.results63];refine finS ?_);exact ⟨_,[],.inl ⟨rfl,rfl⟩,_,(cmpC D st es ([(16,((c.toNat:Nat):Int),0)])),[_],rfl,toZL_q (by simp only [List.length_append,List.length_map]<;>rfl),by simp,⟨rfl,rfl⟩⟩)
end
end Go.Proofs.YtaammoodcgfhpaaDoor.Eng
