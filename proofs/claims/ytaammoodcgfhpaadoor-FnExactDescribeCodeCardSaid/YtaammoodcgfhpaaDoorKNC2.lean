/-
 Small numbers as texts, both sides.

 How instructions are told, both sides.

 The program's compiler: appending instructions.

 How instructions are told: the reference's text.
-/
import Derived.Test.YtaammoodcgfhpaaDoorKNFS
import Derived.Test.YtaammoodcgfhpaaDoorKITO
import Derived.Test.YtaammoodcgfhpaaDoorKTy
import Derived.Test.YtaammoodcgfhpaaDoorKN0
import Derived.Test.YtaammoodcgfhpaaDoorKE4
import Derived.Test.YtaammoodcgfhpaaDoorKPC1
import Derived.Test.YtaammoodcgfhpaaDoorKE52
import Derived.Test.YtaammoodcgfhpaaDoorKPC2
set_option linter.unusedSimpArgs false
set_option linter.unusedVariables false
set_option linter.defProp false
set_option maxRecDepth 100000
set_option maxHeartbeats 4000000
namespace Go.Proofs.YtaammoodcgfhpaaDoor.Eng
open Go Go.RowKit

end Go.Proofs.YtaammoodcgfhpaaDoor.Eng
namespace Go.Proofs.YtaammoodcgfhpaaDoor.Eng
open Go Go.RowKit

abbrev insE (x:Ins):D:=.agg [iD x.1,iD x.2.1,iD x.2.2]
theorem op17 {k:Int} (h:1≤k∧k≤17):k=1∨k=2∨k=3∨k=4∨k=5∨k=6∨k=7∨k=8∨k=9∨k=10∨k=11∨k=12∨k=13∨k=14∨k=15∨k=16∨k=17:=by omega
theorem opName_size {k:Int} (h:1≤k∧k≤17):(opName k).size≤16:=by
 rcases op17 h with rfl|rfl|rfl|rfl|rfl|rfl|rfl|rfl|rfl|rfl|rfl|rfl|rfl|rfl|rfl|rfl|rfl
 all_goals decide
private def tyF:=ai (ai (ai tg54 (ai tg26 tg28)) (ai (ai tg38 tg39) (ai tg30 tg46))) (ai (ai tg61 (ai tg81 tg3)) (ai (ai tg4 tg5) (ai tg78 tg9)))
theorem opCnt_c {k:Int} (h:1≤k∧k≤17):AC Tryd.prog 37 [.d (iD k)] none (fun r' _=>r'=.d (iD (opCnt k:Nat))):=by
 rcases op17 h with rfl|rfl|rfl|rfl|rfl|rfl|rfl|rfl|rfl|rfl|rfl|rfl|rfl|rfl|rfl|rfl|rfl
 all_goals
  refine cbS Tryd.func37 rfl Tryd.call37 Tryd.ntmps37 fun en hsz hks hk0=>?_;refine enS ?_
  (repeat (first|refine walkS ?_|refine aw_condT rfl ?_|refine aw_condF rfl ?_))
  (refine rtS Tryd.results37 ?_;exact ⟨_,_,.inl ⟨rfl,rfl⟩,List.nodup_nil,rfl⟩)
theorem ins_sizes {nm s1 s2:ByteArray} (h0:nm.size≤16) (h1:s1.size≤1048576) (h2:s2.size≤1048576) :
  (nm.size+ByteArray.size ⟨#[32]⟩≤9223372036854775807)∧((nm++⟨#[32]⟩).size+s1.size≤9223372036854775807)∧((nm++⟨#[32]⟩++s1).size+ByteArray.size ⟨#[32]⟩≤9223372036854775807)∧((nm++⟨#[32]⟩++s1++⟨#[32]⟩).size+s2.size≤9223372036854775807):=by
 have y2:ByteArray.size ⟨#[32]⟩=1:=rfl
 simp only [ByteArray.size_append,y2]
 omega
end Go.Proofs.YtaammoodcgfhpaaDoor.Eng
namespace Go.Proofs.YtaammoodcgfhpaaDoor.Eng
open Go Go.RowKit

abbrev insC (x:Ins):List D:=[iD x.1,iD x.2.1,iD x.2.2]
abbrev cmpC (D:List RuleD) (st:Int) (es:List Int) (cs:List Ins):List Rz:=[.d (encDs D),.d (iD st),.d (encI es),.own 46 3 (cs.map insC)]
section
variable {D:List RuleD}{st:Int}{es:List Int}{cs:List Ins}
theorem add_c (o a b:Int) (hc:cs.length≤200000000):AC Tryd.prog 64 [.ptr 0 0,.d (iD o),.d (iD a),.d (iD b)] (some (cmpC D st es cs)) (fun r' b'=>r'=.d (.tup [])∧b'=some (cmpC D st es (cs++[(o,a,b)]))):=by
 refine cbS Tryd.func64 rfl Tryd.call64 Tryd.ntmps64 fun en hsz hks hk0=>?_;refine enS ?_
 refine walkS ?_
 ((try refine aw_ret ?_);(simp only [Fin,Tryd.results64];refine finS ?_);exact ⟨_,[],.inl ⟨rfl,rfl⟩,_,([.d (encDs D),.d (iD st),.d (encI es),.own 46 3 (cs.map insC++[insC (o,a,b)])]),[_],rfl,toZL_q (by simp only [List.length_append,List.length_map]<;>rfl),by simp,⟨rfl,by simp only [cmpC,List.map_append,List.map_cons,List.map_nil]⟩⟩)
theorem here_c (hs:0≤st∧st≤200000000) (hc:cs.length≤200000000):AC Tryd.prog 74 [.ptr 0 0] (some (cmpC D st es cs)) (fun r' b'=>r'=.d (iD (st+cs.length))∧b'=some (cmpC D st es cs)):=by
 have e1:IntKind.i64.wrap (st+(cs.length:Int))=st+cs.length:=wrap_small (by omega) (by omega)
 refine cbS Tryd.func74 rfl Tryd.call74 Tryd.ntmps74 fun en hsz hks hk0=>?_;refine enS ?_
 (repeat (first|refine ctlS ?_|(refine ol_go ?_ (fun K1 hK1=>?_);exact trS;refine evS ?_;(try simp only [e1]);refine hK1 _ _ ?_;clear hK1 K1)|(refine ow_go ?_ dsS (fun K1 hK1=>?_);exact trS;refine evS ?_;(try simp only [e1]);refine hK1 _ ?_;clear hK1 K1)|refine skipS ?_))
 ((try refine aw_ret ?_);(simp only [Fin,Tryd.results74];refine finS ?_);exact ⟨_,[],.inl ⟨rfl,rfl⟩,_,(cmpC D st es cs),[_],rfl,toZL_q (by simp only [List.length_append,List.length_map]<;>rfl),by simp,⟨rfl,rfl⟩⟩)
theorem call_c {k:Nat} (hk:k<es.length) (hc:cs.length≤200000000):AC Tryd.prog 73 [.ptr 0 0,.d (iD (k:Nat))] (some (cmpC D st es cs)) (fun r' b'=>r'=.d (.tup [])∧b'=some (cmpC D st es (cs++[insCall es k]))):=by
 have i1:es[k]?=some (atT es k):=by simp [atT,List.getD,hk]
 have HA:=add_c (D:=D) (st:=st) (es:=es) (cs:=cs) 9 (atT es k) 0 hc
 refine cbS Tryd.func73 rfl Tryd.call73 Tryd.ntmps73 fun en hsz hks hk0=>?_;refine enS ?_
 (repeat (first|refine ctlS ?_|(refine ol_go ?_ (fun K1 hK1=>?_);exact trS;refine evS ?_;(first|refine ⟨_,i1,?_⟩|skip);refine hK1 _ _ ?_;clear hK1 K1)|(refine ow_go ?_ dsS (fun K1 hK1=>?_);exact trS;refine evS ?_;(first|refine ⟨_,i1,?_⟩|skip);refine hK1 _ ?_;clear hK1 K1)|refine skipS ?_|(refine ow_call1q (k:=0) ?_ dsS rfl rfl (HA) rfl rfl (by first|rfl|(simp only [List.length_map,List.length_append]<;>rfl)) (by decide) ?_;exact trS;simp only [St.set,List.map_cons,List.map_nil,List.length_map,List.length_append,Nat.reduceAdd])|(refine ol_call1q (k:=0) ?_ rfl rfl (HA) rfl rfl (by first|rfl|(simp only [List.length_map,List.length_append]<;>rfl)) (by decide) ⟨0,List.mem_cons_self⟩ ?_;exact trS;simp only [St.set,List.map_cons,List.map_nil,List.length_map,List.length_append,Nat.reduceAdd])|(refine ow_call1qn (k:=0) ?_ dsS rfl rfl rfl (HA) rfl rfl ?_;exact trS;simp only [St.set,List.map_cons,List.map_nil,List.length_map,List.length_append,Nat.reduceAdd])))
 ((try refine aw_ret ?_);(simp only [Fin,Tryd.results73];refine finS ?_);exact ⟨_,[],.inl ⟨rfl,rfl⟩,_,(cmpC D st es (cs++[(9,atT es k,0)])),[_],rfl,toZL_q (by simp only [List.length_append,List.length_map]<;>rfl),by simp,⟨rfl,rfl⟩⟩)
end
end Go.Proofs.YtaammoodcgfhpaaDoor.Eng
namespace Go.Proofs.YtaammoodcgfhpaaDoor.Eng
open Go Go.RowKit

theorem fmtS_j {n:Int} (h:numOK n):AC Tryd.prog 15 [.d (iD n)] none (fun r' _=>r'=.d (sD (itoB n))):=by
 unfold numOK at h
 obtain ⟨m,rfl⟩:∃ m:Nat,n=m:=⟨n.toNat,by omega⟩
 rw [←fmtN_ito]
 exact fmtS_c (by omega)
theorem fmtI_j {n:Int} (h:numOK n):AC Tryd.prog 21 [.d (iD n)] none (fun r' _=>r'=.d (sD (itoB n))):=by
 unfold numOK at h
 exact fmtI_any (by omega) (by omega)
theorem insS_2 {k a b:Int} (hk:k=1∨k=11) (ha:numOK a) (hb:numOK b):AC Tryd.prog 16 [.d (insE (k,a,b))] none (fun r' _=>r'=.d (sD (insT (k,a,b)))):=by
 have hk17:1≤k∧k≤17:=by omega
 have f1:=fmtS_j ha
 have f2:=fmtS_j hb
 have z1:=itoJ_size ha
 have z2:=itoJ_size hb
 have hL:=(l1In_c k 1 17).eqv (r1:=.d (bD true)) (by simp [hk17])
 have hn:=opName_size hk17
 have e0:insT (k,a,b)=(if opCnt k=2 then opName k++⟨#[32]⟩++itoB a++⟨#[32]⟩++itoB b else if opCnt k=1 then opName k++⟨#[32]⟩++itoB a else opName k):=if_pos hk17
 rw [e0]
 generalize itoB a=s1 at *
 generalize itoB b=s2 at *
 obtain ⟨y1,y2,y3,y4⟩:=ins_sizes (nm:=opName k) (s1:=s1) (s2:=s2) hn (by omega) (by omega)
 rcases hk with rfl|rfl
 all_goals
  unfold opName at y1 y2 y3 y4
  simp only [reduceIte,Int.reduceEq] at y1 y2 y3 y4
  refine cbS Tryd.func16 rfl Tryd.call16 Tryd.ntmps16 fun en hsz hks hk0=>?_;refine enS ?_
  (repeat (first|refine walkS ?_|refine cS (hL) ?_|refine cS (f1) ?_|refine cS (f2) ?_|refine aw_condT rfl ?_|refine aw_condF rfl ?_))
  (refine rtS Tryd.results16 ?_;exact ⟨_,_,.inl ⟨rfl,rfl⟩,List.nodup_nil,rfl⟩)
theorem insS_1 {k a b:Int} (hk:k=2∨k=3∨k=5∨k=7∨k=8∨k=9∨k=12∨k=13∨k=16) (ha:numOK a) (hb:numOK b):AC Tryd.prog 16 [.d (insE (k,a,b))] none (fun r' _=>r'=.d (sD (insT (k,a,b)))):=by
 have hk17:1≤k∧k≤17:=by omega
 have f1:=fmtS_j ha
 have f2:=fmtS_j hb
 have z1:=itoJ_size ha
 have z2:=itoJ_size hb
 have hL:=(l1In_c k 1 17).eqv (r1:=.d (bD true)) (by simp [hk17])
 have hn:=opName_size hk17
 have e0:insT (k,a,b)=(if opCnt k=2 then opName k++⟨#[32]⟩++itoB a++⟨#[32]⟩++itoB b else if opCnt k=1 then opName k++⟨#[32]⟩++itoB a else opName k):=if_pos hk17
 rw [e0]
 generalize itoB a=s1 at *
 generalize itoB b=s2 at *
 obtain ⟨y1,y2,y3,y4⟩:=ins_sizes (nm:=opName k) (s1:=s1) (s2:=s2) hn (by omega) (by omega)
 rcases hk with rfl|rfl|rfl|rfl|rfl|rfl|rfl|rfl|rfl
 all_goals
  unfold opName at y1 y2 y3 y4
  simp only [reduceIte,Int.reduceEq] at y1 y2 y3 y4
  refine cbS Tryd.func16 rfl Tryd.call16 Tryd.ntmps16 fun en hsz hks hk0=>?_;refine enS ?_
  (repeat (first|refine walkS ?_|refine cS (hL) ?_|refine cS (f1) ?_|refine cS (f2) ?_|refine aw_condT rfl ?_|refine aw_condF rfl ?_))
  (refine rtS Tryd.results16 ?_;exact ⟨_,_,.inl ⟨rfl,rfl⟩,List.nodup_nil,rfl⟩)
theorem insS_0 {k a b:Int} (hk:k=4∨k=6∨k=10∨k=14∨k=15∨k=17) (ha:numOK a) (hb:numOK b):AC Tryd.prog 16 [.d (insE (k,a,b))] none (fun r' _=>r'=.d (sD (insT (k,a,b)))):=by
 have hk17:1≤k∧k≤17:=by omega
 have f1:=fmtS_j ha
 have f2:=fmtS_j hb
 have z1:=itoJ_size ha
 have z2:=itoJ_size hb
 have hL:=(l1In_c k 1 17).eqv (r1:=.d (bD true)) (by simp [hk17])
 have hn:=opName_size hk17
 have e0:insT (k,a,b)=(if opCnt k=2 then opName k++⟨#[32]⟩++itoB a++⟨#[32]⟩++itoB b else if opCnt k=1 then opName k++⟨#[32]⟩++itoB a else opName k):=if_pos hk17
 rw [e0]
 generalize itoB a=s1 at *
 generalize itoB b=s2 at *
 obtain ⟨y1,y2,y3,y4⟩:=ins_sizes (nm:=opName k) (s1:=s1) (s2:=s2) hn (by omega) (by omega)
 rcases hk with rfl|rfl|rfl|rfl|rfl|rfl
 all_goals
  unfold opName at y1 y2 y3 y4
  simp only [reduceIte,Int.reduceEq] at y1 y2 y3 y4
  refine cbS Tryd.func16 rfl Tryd.call16 Tryd.ntmps16 fun en hsz hks hk0=>?_;refine enS ?_
  (repeat (first|refine walkS ?_|refine cS (hL) ?_|refine cS (f1) ?_|refine cS (f2) ?_|refine aw_condT rfl ?_|refine aw_condF rfl ?_))
  (refine rtS Tryd.results16 ?_;exact ⟨_,_,.inl ⟨rfl,rfl⟩,List.nodup_nil,rfl⟩)
theorem insS_c {x:Ins} (h:insOK x):AC Tryd.prog 16 [.d (insE x)] none (fun r' _=>r'=.d (sD (insT x))):=by
 obtain ⟨k,a,b⟩:=x
 obtain ⟨hk,ha,hb⟩:=h
 simp only at hk ha hb
 have h3:(k=1∨k=11)∨(k=2∨k=3∨k=5∨k=7∨k=8∨k=9∨k=12∨k=13∨k=16)∨(k=4∨k=6∨k=10∨k=14∨k=15∨k=17):=by omega
 rcases h3 with h3|h3|h3
 ·exact insS_2 h3 ha hb
 ·exact insS_1 h3 ha hb
 ·exact insS_0 h3 ha hb
end Go.Proofs.YtaammoodcgfhpaaDoor.Eng
