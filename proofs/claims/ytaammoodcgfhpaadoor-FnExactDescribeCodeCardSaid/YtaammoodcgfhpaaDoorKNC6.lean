/-
 The program's compiler: the code of a rule.
-/
import Derived.Test.YtaammoodcgfhpaaDoorKNC5
import Derived.Test.YtaammoodcgfhpaaDoorKN38A
set_option linter.unusedSimpArgs false
set_option linter.unusedVariables false
set_option linter.defProp false
set_option maxRecDepth 100000
set_option maxHeartbeats 4000000
namespace Go.Proofs.YtaammoodcgfhpaaDoor.Eng
open Go Go.RowKit

section
variable {D:List RuleD}{st:Int}{es:List Int}{r:RuleD}{i:Nat}
theorem cells1_F (f:FuncId):cells1 (.d (.v (.func (.func f) #[] #[])))=some [.d (.v (.func (.func f) #[] #[]))]:=rfl
theorem kids_in {D:List RuleD}{i:Nat}{r:RuleD} (G:GoodR D i r) {es:List Int} (he:es.length=i):∀ j (hj:j<r.kids.length),∃ k:Nat,r.kids[j]=k∧k<es.length:=fun j hj=>by
 have:=G.kid j hj
 exact ⟨(r.kids[j]).toNat,by omega,by omega⟩
private def tyF:=ai (ai (ai (ai tg54 tg26) (ai tg28 tg38)) (ai (ai tg39 tg79) (ai tg30 tg46))) (ai (ai (ai tg61 tg81) (ai tg3 tg4)) (ai (ai tg5 tg76) (ai tg78 (ai tg9 cells1_F))))
theorem compRI_1 (hD:DB 1048576 D) (hV:descP D) (hr:D[i]?=some r) (he:es.length=i) (hs:0≤st∧st≤200000000) (hk:r.kind=1):AC Tryd.prog 33 [.d (encD D),.d (iD (i:Nat)),.d (iD st),.d (encI es)] none (fun r' _=>r'=.own 46 3 ((cmpR r st es).map insC)):=by
 have G:GoodR D i r:=good_of hV hr
 have hrb:=hD.rule r (List.mem_of_getElem? hr)
 have hil:i<D.length:=(List.getElem?_eq_some_iff.1 hr).1
 have hkk:=kids_in G he
 have HM:MthOK D st es 54 r:=integer_m hk
 unfold MthOK at HM
 have hB:=cmpB_len hrb st es
 have HA:=add_c (D:=D) (st:=st) (es:=es) (cs:=cmpB r st es) 10 0 0 (by omega)
 have HK:=(known_c hD (Nat.le_refl _) (i:Int)).eqv (r1:=.d (bD true)) (by rw [vKnown_yes (vDesc_yes hV) ⟨by omega,by omega⟩])
 have d1:decide ((es.length:Int)<(i:Int))=false:=decide_eq_false (by omega)
 rw [show (cmpR r st es).map insC=(cmpB r st es++[(10,0,0)]).map insC from rfl]
 obtain ⟨W,hW⟩:∃ W,W=cmpB r st es++[((10:Int),(0:Int),(0:Int))]:=⟨_,rfl⟩
 rw [←hW] at HA ⊢
 generalize cmpB r st es=B at *
 have ek:r.kind - 1=0:=by omega
 refine cbS Tryd.func33 rfl Tryd.call33 Tryd.ntmps33 fun en hsz hks hk0=>?_;refine enS ?_
 (repeat (first|refine aw_seq ?_|refine aw_region ?_|refine aw_block ?_|(refine aw_exit ?_;(try simp (decide:=true) only [reduceIte]))|(refine aw_skip ?_;try dsimp only)|(refine ow_nil ?_;try dsimp only)|(refine ol_go ?_ (fun K1 hK1=>?_);exact trS;refine evS ?_;refine hK1 _ _ ?_;clear hK1 K1)|(refine ol_skip rfl rfl ?_ ?_;(focus (intro hne;cases hne;done));simp only [St.set])|(refine ol_nil ⟨by kernel_rfl,?_⟩;try dsimp only)|(refine ow_go ?_ dsS (fun K1 hK1=>?_);exact trS;refine evS ?_;refine hK1 _ ?_;clear hK1 K1)|(refine ow_skip rfl rfl ?_ dsS ?_;(focus (intro hne;cases hne;done));simp only [St.set])))
 (first|refine cS (HK) ?_|(refine callPreV ?_;(first|refine callN_funS rfl (HK) ?_)))
 (repeat (first|refine aw_seq ?_|refine aw_region ?_|refine aw_block ?_|(refine aw_exit ?_;(try simp (decide:=true) only [reduceIte]))|(refine aw_skip ?_;try dsimp only)|(refine ow_nil ?_;try dsimp only)|(refine ol_go ?_ (fun K1 hK1=>?_);exact trS;refine evS ?_;refine hK1 _ _ ?_;clear hK1 K1)|(refine ol_skip rfl rfl ?_ ?_;(focus (intro hne;cases hne;done));simp only [St.set])|(refine ol_nil ⟨by kernel_rfl,?_⟩;try dsimp only)|(refine ow_go ?_ dsS (fun K1 hK1=>?_);exact trS;refine evS ?_;refine hK1 _ ?_;clear hK1 K1)|(refine ow_skip rfl rfl ?_ dsS ?_;(focus (intro hne;cases hne;done));simp only [St.set])))
 refine aw_condS rfl (fun h=>?_) (fun h=>?_)
 ·omega
 (repeat (first|refine aw_seq ?_|refine aw_region ?_|refine aw_block ?_|(refine aw_exit ?_;(try simp (decide:=true) only [reduceIte]))|(refine aw_skip ?_;try dsimp only)|(refine ow_nil ?_;try dsimp only)|(refine ol_go ?_ (fun K1 hK1=>?_);exact trS;refine evS ?_;refine hK1 _ _ ?_;clear hK1 K1)|(refine ol_skip rfl rfl ?_ ?_;(focus (intro hne;cases hne;done));simp only [St.set])|(refine ol_nil ⟨by kernel_rfl,?_⟩;try dsimp only)|(refine ow_go ?_ dsS (fun K1 hK1=>?_);exact trS;refine evS ?_;refine hK1 _ ?_;clear hK1 K1)|(refine ow_skip rfl rfl ?_ dsS ?_;(focus (intro hne;cases hne;done));simp only [St.set])))
 refine aw_anyL (by kernel_rfl) (by kernel_rfl) rfl rfl (by kernel_rfl) (by simp only [hsz];kernel_rfl) ?_
 (repeat (first|refine ctlS ?_|(refine ol_go ?_ (fun K1 hK1=>?_);exact trS;refine evS ?_;(try simp only [ek]);refine hK1 _ _ ?_;clear hK1 K1)|(refine ow_go ?_ dsS (fun K1 hK1=>?_);exact trS;refine evS ?_;(try simp only [ek]);refine hK1 _ ?_;clear hK1 K1)|refine skipS ?_|(refine ow_call1q (k:=64) ?_ dsS rfl rfl (HM) rfl rfl (by first|rfl|(simp only [List.length_map,List.length_append]<;>rfl)) (by decide) ?_;exact trS;simp only [St.set,List.map_cons,List.map_nil,List.length_map,List.length_append,Nat.reduceAdd])|(refine ol_call1q (k:=64) ?_ rfl rfl (HM) rfl rfl (by first|rfl|(simp only [List.length_map,List.length_append]<;>rfl)) (by decide) ⟨0,List.mem_cons_self⟩ ?_;exact trS;simp only [St.set,List.map_cons,List.map_nil,List.length_map,List.length_append,Nat.reduceAdd])|(refine ow_call1qn (k:=64) ?_ dsS rfl rfl rfl (HM) rfl rfl ?_;exact trS;simp only [St.set,List.map_cons,List.map_nil,List.length_map,List.length_append,Nat.reduceAdd])|(refine ow_call1q (k:=64) ?_ dsS rfl rfl (HA) rfl rfl (by first|rfl|(simp only [List.length_map,List.length_append]<;>rfl)) (by decide) ?_;exact trS;simp only [St.set,List.map_cons,List.map_nil,List.length_map,List.length_append,Nat.reduceAdd])|(refine ol_call1q (k:=64) ?_ rfl rfl (HA) rfl rfl (by first|rfl|(simp only [List.length_map,List.length_append]<;>rfl)) (by decide) ⟨0,List.mem_cons_self⟩ ?_;exact trS;simp only [St.set,List.map_cons,List.map_nil,List.length_map,List.length_append,Nat.reduceAdd])|(refine ow_call1qn (k:=64) ?_ dsS rfl rfl rfl (HA) rfl rfl ?_;exact trS;simp only [St.set,List.map_cons,List.map_nil,List.length_map,List.length_append,Nat.reduceAdd])))

 (refine rtS Tryd.results33 ?_;exact ⟨_,_,.inl (toZ_own (by simp [lk,St.mem])),by simp,rfl⟩)
theorem compRI_2 (hD:DB 1048576 D) (hV:descP D) (hr:D[i]?=some r) (he:es.length=i) (hs:0≤st∧st≤200000000) (hk:r.kind=2):AC Tryd.prog 33 [.d (encD D),.d (iD (i:Nat)),.d (iD st),.d (encI es)] none (fun r' _=>r'=.own 46 3 ((cmpR r st es).map insC)):=by
 have G:GoodR D i r:=good_of hV hr
 have hrb:=hD.rule r (List.mem_of_getElem? hr)
 have hil:i<D.length:=(List.getElem?_eq_some_iff.1 hr).1
 have hkk:=kids_in G he
 have HM:MthOK D st es 55 r:=constant_m hk hrb.lb
 unfold MthOK at HM
 have hB:=cmpB_len hrb st es
 have HA:=add_c (D:=D) (st:=st) (es:=es) (cs:=cmpB r st es) 10 0 0 (by omega)
 have HK:=(known_c hD (Nat.le_refl _) (i:Int)).eqv (r1:=.d (bD true)) (by rw [vKnown_yes (vDesc_yes hV) ⟨by omega,by omega⟩])
 have d1:decide ((es.length:Int)<(i:Int))=false:=decide_eq_false (by omega)
 rw [show (cmpR r st es).map insC=(cmpB r st es++[(10,0,0)]).map insC from rfl]
 obtain ⟨W,hW⟩:∃ W,W=cmpB r st es++[((10:Int),(0:Int),(0:Int))]:=⟨_,rfl⟩
 rw [←hW] at HA ⊢
 generalize cmpB r st es=B at *
 have ek:r.kind - 1=1:=by omega
 refine cbS Tryd.func33 rfl Tryd.call33 Tryd.ntmps33 fun en hsz hks hk0=>?_;refine enS ?_
 (repeat (first|refine aw_seq ?_|refine aw_region ?_|refine aw_block ?_|(refine aw_exit ?_;(try simp (decide:=true) only [reduceIte]))|(refine aw_skip ?_;try dsimp only)|(refine ow_nil ?_;try dsimp only)|(refine ol_go ?_ (fun K1 hK1=>?_);exact trS;refine evS ?_;refine hK1 _ _ ?_;clear hK1 K1)|(refine ol_skip rfl rfl ?_ ?_;(focus (intro hne;cases hne;done));simp only [St.set])|(refine ol_nil ⟨by kernel_rfl,?_⟩;try dsimp only)|(refine ow_go ?_ dsS (fun K1 hK1=>?_);exact trS;refine evS ?_;refine hK1 _ ?_;clear hK1 K1)|(refine ow_skip rfl rfl ?_ dsS ?_;(focus (intro hne;cases hne;done));simp only [St.set])))
 (first|refine cS (HK) ?_|(refine callPreV ?_;(first|refine callN_funS rfl (HK) ?_)))
 (repeat (first|refine aw_seq ?_|refine aw_region ?_|refine aw_block ?_|(refine aw_exit ?_;(try simp (decide:=true) only [reduceIte]))|(refine aw_skip ?_;try dsimp only)|(refine ow_nil ?_;try dsimp only)|(refine ol_go ?_ (fun K1 hK1=>?_);exact trS;refine evS ?_;refine hK1 _ _ ?_;clear hK1 K1)|(refine ol_skip rfl rfl ?_ ?_;(focus (intro hne;cases hne;done));simp only [St.set])|(refine ol_nil ⟨by kernel_rfl,?_⟩;try dsimp only)|(refine ow_go ?_ dsS (fun K1 hK1=>?_);exact trS;refine evS ?_;refine hK1 _ ?_;clear hK1 K1)|(refine ow_skip rfl rfl ?_ dsS ?_;(focus (intro hne;cases hne;done));simp only [St.set])))
 refine aw_condS rfl (fun h=>?_) (fun h=>?_)
 ·omega
 (repeat (first|refine aw_seq ?_|refine aw_region ?_|refine aw_block ?_|(refine aw_exit ?_;(try simp (decide:=true) only [reduceIte]))|(refine aw_skip ?_;try dsimp only)|(refine ow_nil ?_;try dsimp only)|(refine ol_go ?_ (fun K1 hK1=>?_);exact trS;refine evS ?_;refine hK1 _ _ ?_;clear hK1 K1)|(refine ol_skip rfl rfl ?_ ?_;(focus (intro hne;cases hne;done));simp only [St.set])|(refine ol_nil ⟨by kernel_rfl,?_⟩;try dsimp only)|(refine ow_go ?_ dsS (fun K1 hK1=>?_);exact trS;refine evS ?_;refine hK1 _ ?_;clear hK1 K1)|(refine ow_skip rfl rfl ?_ dsS ?_;(focus (intro hne;cases hne;done));simp only [St.set])))
 refine aw_anyL (by kernel_rfl) (by kernel_rfl) rfl rfl (by kernel_rfl) (by simp only [hsz];kernel_rfl) ?_
 (repeat (first|refine ctlS ?_|(refine ol_go ?_ (fun K1 hK1=>?_);exact trS;refine evS ?_;(try simp only [ek]);refine hK1 _ _ ?_;clear hK1 K1)|(refine ow_go ?_ dsS (fun K1 hK1=>?_);exact trS;refine evS ?_;(try simp only [ek]);refine hK1 _ ?_;clear hK1 K1)|refine skipS ?_|(refine ow_call1q (k:=64) ?_ dsS rfl rfl (HM) rfl rfl (by first|rfl|(simp only [List.length_map,List.length_append]<;>rfl)) (by decide) ?_;exact trS;simp only [St.set,List.map_cons,List.map_nil,List.length_map,List.length_append,Nat.reduceAdd])|(refine ol_call1q (k:=64) ?_ rfl rfl (HM) rfl rfl (by first|rfl|(simp only [List.length_map,List.length_append]<;>rfl)) (by decide) ⟨0,List.mem_cons_self⟩ ?_;exact trS;simp only [St.set,List.map_cons,List.map_nil,List.length_map,List.length_append,Nat.reduceAdd])|(refine ow_call1qn (k:=64) ?_ dsS rfl rfl rfl (HM) rfl rfl ?_;exact trS;simp only [St.set,List.map_cons,List.map_nil,List.length_map,List.length_append,Nat.reduceAdd])|(refine ow_call1q (k:=64) ?_ dsS rfl rfl (HA) rfl rfl (by first|rfl|(simp only [List.length_map,List.length_append]<;>rfl)) (by decide) ?_;exact trS;simp only [St.set,List.map_cons,List.map_nil,List.length_map,List.length_append,Nat.reduceAdd])|(refine ol_call1q (k:=64) ?_ rfl rfl (HA) rfl rfl (by first|rfl|(simp only [List.length_map,List.length_append]<;>rfl)) (by decide) ⟨0,List.mem_cons_self⟩ ?_;exact trS;simp only [St.set,List.map_cons,List.map_nil,List.length_map,List.length_append,Nat.reduceAdd])|(refine ow_call1qn (k:=64) ?_ dsS rfl rfl rfl (HA) rfl rfl ?_;exact trS;simp only [St.set,List.map_cons,List.map_nil,List.length_map,List.length_append,Nat.reduceAdd])))

 (refine rtS Tryd.results33 ?_;exact ⟨_,_,.inl (toZ_own (by simp [lk,St.mem])),by simp,rfl⟩)
theorem compRI_3 (hD:DB 1048576 D) (hV:descP D) (hr:D[i]?=some r) (he:es.length=i) (hs:0≤st∧st≤200000000) (hk:r.kind=3):AC Tryd.prog 33 [.d (encD D),.d (iD (i:Nat)),.d (iD st),.d (encI es)] none (fun r' _=>r'=.own 46 3 ((cmpR r st es).map insC)):=by
 have G:GoodR D i r:=good_of hV hr
 have hrb:=hD.rule r (List.mem_of_getElem? hr)
 have hil:i<D.length:=(List.getElem?_eq_some_iff.1 hr).1
 have hkk:=kids_in G he
 have HM:MthOK D st es 56 r:=fixed_m hk
 unfold MthOK at HM
 have hB:=cmpB_len hrb st es
 have HA:=add_c (D:=D) (st:=st) (es:=es) (cs:=cmpB r st es) 10 0 0 (by omega)
 have HK:=(known_c hD (Nat.le_refl _) (i:Int)).eqv (r1:=.d (bD true)) (by rw [vKnown_yes (vDesc_yes hV) ⟨by omega,by omega⟩])
 have d1:decide ((es.length:Int)<(i:Int))=false:=decide_eq_false (by omega)
 rw [show (cmpR r st es).map insC=(cmpB r st es++[(10,0,0)]).map insC from rfl]
 obtain ⟨W,hW⟩:∃ W,W=cmpB r st es++[((10:Int),(0:Int),(0:Int))]:=⟨_,rfl⟩
 rw [←hW] at HA ⊢
 generalize cmpB r st es=B at *
 have ek:r.kind - 1=2:=by omega
 refine cbS Tryd.func33 rfl Tryd.call33 Tryd.ntmps33 fun en hsz hks hk0=>?_;refine enS ?_
 (repeat (first|refine aw_seq ?_|refine aw_region ?_|refine aw_block ?_|(refine aw_exit ?_;(try simp (decide:=true) only [reduceIte]))|(refine aw_skip ?_;try dsimp only)|(refine ow_nil ?_;try dsimp only)|(refine ol_go ?_ (fun K1 hK1=>?_);exact trS;refine evS ?_;refine hK1 _ _ ?_;clear hK1 K1)|(refine ol_skip rfl rfl ?_ ?_;(focus (intro hne;cases hne;done));simp only [St.set])|(refine ol_nil ⟨by kernel_rfl,?_⟩;try dsimp only)|(refine ow_go ?_ dsS (fun K1 hK1=>?_);exact trS;refine evS ?_;refine hK1 _ ?_;clear hK1 K1)|(refine ow_skip rfl rfl ?_ dsS ?_;(focus (intro hne;cases hne;done));simp only [St.set])))
 (first|refine cS (HK) ?_|(refine callPreV ?_;(first|refine callN_funS rfl (HK) ?_)))
 (repeat (first|refine aw_seq ?_|refine aw_region ?_|refine aw_block ?_|(refine aw_exit ?_;(try simp (decide:=true) only [reduceIte]))|(refine aw_skip ?_;try dsimp only)|(refine ow_nil ?_;try dsimp only)|(refine ol_go ?_ (fun K1 hK1=>?_);exact trS;refine evS ?_;refine hK1 _ _ ?_;clear hK1 K1)|(refine ol_skip rfl rfl ?_ ?_;(focus (intro hne;cases hne;done));simp only [St.set])|(refine ol_nil ⟨by kernel_rfl,?_⟩;try dsimp only)|(refine ow_go ?_ dsS (fun K1 hK1=>?_);exact trS;refine evS ?_;refine hK1 _ ?_;clear hK1 K1)|(refine ow_skip rfl rfl ?_ dsS ?_;(focus (intro hne;cases hne;done));simp only [St.set])))
 refine aw_condS rfl (fun h=>?_) (fun h=>?_)
 ·omega
 (repeat (first|refine aw_seq ?_|refine aw_region ?_|refine aw_block ?_|(refine aw_exit ?_;(try simp (decide:=true) only [reduceIte]))|(refine aw_skip ?_;try dsimp only)|(refine ow_nil ?_;try dsimp only)|(refine ol_go ?_ (fun K1 hK1=>?_);exact trS;refine evS ?_;refine hK1 _ _ ?_;clear hK1 K1)|(refine ol_skip rfl rfl ?_ ?_;(focus (intro hne;cases hne;done));simp only [St.set])|(refine ol_nil ⟨by kernel_rfl,?_⟩;try dsimp only)|(refine ow_go ?_ dsS (fun K1 hK1=>?_);exact trS;refine evS ?_;refine hK1 _ ?_;clear hK1 K1)|(refine ow_skip rfl rfl ?_ dsS ?_;(focus (intro hne;cases hne;done));simp only [St.set])))
 refine aw_anyL (by kernel_rfl) (by kernel_rfl) rfl rfl (by kernel_rfl) (by simp only [hsz];kernel_rfl) ?_
 (repeat (first|refine ctlS ?_|(refine ol_go ?_ (fun K1 hK1=>?_);exact trS;refine evS ?_;(try simp only [ek]);refine hK1 _ _ ?_;clear hK1 K1)|(refine ow_go ?_ dsS (fun K1 hK1=>?_);exact trS;refine evS ?_;(try simp only [ek]);refine hK1 _ ?_;clear hK1 K1)|refine skipS ?_|(refine ow_call1q (k:=64) ?_ dsS rfl rfl (HM) rfl rfl (by first|rfl|(simp only [List.length_map,List.length_append]<;>rfl)) (by decide) ?_;exact trS;simp only [St.set,List.map_cons,List.map_nil,List.length_map,List.length_append,Nat.reduceAdd])|(refine ol_call1q (k:=64) ?_ rfl rfl (HM) rfl rfl (by first|rfl|(simp only [List.length_map,List.length_append]<;>rfl)) (by decide) ⟨0,List.mem_cons_self⟩ ?_;exact trS;simp only [St.set,List.map_cons,List.map_nil,List.length_map,List.length_append,Nat.reduceAdd])|(refine ow_call1qn (k:=64) ?_ dsS rfl rfl rfl (HM) rfl rfl ?_;exact trS;simp only [St.set,List.map_cons,List.map_nil,List.length_map,List.length_append,Nat.reduceAdd])|(refine ow_call1q (k:=64) ?_ dsS rfl rfl (HA) rfl rfl (by first|rfl|(simp only [List.length_map,List.length_append]<;>rfl)) (by decide) ?_;exact trS;simp only [St.set,List.map_cons,List.map_nil,List.length_map,List.length_append,Nat.reduceAdd])|(refine ol_call1q (k:=64) ?_ rfl rfl (HA) rfl rfl (by first|rfl|(simp only [List.length_map,List.length_append]<;>rfl)) (by decide) ⟨0,List.mem_cons_self⟩ ?_;exact trS;simp only [St.set,List.map_cons,List.map_nil,List.length_map,List.length_append,Nat.reduceAdd])|(refine ow_call1qn (k:=64) ?_ dsS rfl rfl rfl (HA) rfl rfl ?_;exact trS;simp only [St.set,List.map_cons,List.map_nil,List.length_map,List.length_append,Nat.reduceAdd])))

 (refine rtS Tryd.results33 ?_;exact ⟨_,_,.inl (toZ_own (by simp [lk,St.mem])),by simp,rfl⟩)
theorem compRI_4 (hD:DB 1048576 D) (hV:descP D) (hr:D[i]?=some r) (he:es.length=i) (hs:0≤st∧st≤200000000) (hk:r.kind=4):AC Tryd.prog 33 [.d (encD D),.d (iD (i:Nat)),.d (iD st),.d (encI es)] none (fun r' _=>r'=.own 46 3 ((cmpR r st es).map insC)):=by
 have G:GoodR D i r:=good_of hV hr
 have hrb:=hD.rule r (List.mem_of_getElem? hr)
 have hil:i<D.length:=(List.getElem?_eq_some_iff.1 hr).1
 have hkk:=kids_in G he
 have hkl:=(G.k4 hk).1
 obtain ⟨k0,q0,h0⟩:=hkk 0 (by omega)
 have i0:r.kids[0]?=some (k0:Int):=by rw [List.getElem?_eq_getElem (by omega),q0]
 have HM:MthOK D st es 57 r:=sized_m hk i0 h0
 unfold MthOK at HM
 have hB:=cmpB_len hrb st es
 have HA:=add_c (D:=D) (st:=st) (es:=es) (cs:=cmpB r st es) 10 0 0 (by omega)
 have HK:=(known_c hD (Nat.le_refl _) (i:Int)).eqv (r1:=.d (bD true)) (by rw [vKnown_yes (vDesc_yes hV) ⟨by omega,by omega⟩])
 have d1:decide ((es.length:Int)<(i:Int))=false:=decide_eq_false (by omega)
 rw [show (cmpR r st es).map insC=(cmpB r st es++[(10,0,0)]).map insC from rfl]
 obtain ⟨W,hW⟩:∃ W,W=cmpB r st es++[((10:Int),(0:Int),(0:Int))]:=⟨_,rfl⟩
 rw [←hW] at HA ⊢
 generalize cmpB r st es=B at *
 have ek:r.kind - 1=3:=by omega
 refine cbS Tryd.func33 rfl Tryd.call33 Tryd.ntmps33 fun en hsz hks hk0=>?_;refine enS ?_
 (repeat (first|refine aw_seq ?_|refine aw_region ?_|refine aw_block ?_|(refine aw_exit ?_;(try simp (decide:=true) only [reduceIte]))|(refine aw_skip ?_;try dsimp only)|(refine ow_nil ?_;try dsimp only)|(refine ol_go ?_ (fun K1 hK1=>?_);exact trS;refine evS ?_;refine hK1 _ _ ?_;clear hK1 K1)|(refine ol_skip rfl rfl ?_ ?_;(focus (intro hne;cases hne;done));simp only [St.set])|(refine ol_nil ⟨by kernel_rfl,?_⟩;try dsimp only)|(refine ow_go ?_ dsS (fun K1 hK1=>?_);exact trS;refine evS ?_;refine hK1 _ ?_;clear hK1 K1)|(refine ow_skip rfl rfl ?_ dsS ?_;(focus (intro hne;cases hne;done));simp only [St.set])))
 (first|refine cS (HK) ?_|(refine callPreV ?_;(first|refine callN_funS rfl (HK) ?_)))
 (repeat (first|refine aw_seq ?_|refine aw_region ?_|refine aw_block ?_|(refine aw_exit ?_;(try simp (decide:=true) only [reduceIte]))|(refine aw_skip ?_;try dsimp only)|(refine ow_nil ?_;try dsimp only)|(refine ol_go ?_ (fun K1 hK1=>?_);exact trS;refine evS ?_;refine hK1 _ _ ?_;clear hK1 K1)|(refine ol_skip rfl rfl ?_ ?_;(focus (intro hne;cases hne;done));simp only [St.set])|(refine ol_nil ⟨by kernel_rfl,?_⟩;try dsimp only)|(refine ow_go ?_ dsS (fun K1 hK1=>?_);exact trS;refine evS ?_;refine hK1 _ ?_;clear hK1 K1)|(refine ow_skip rfl rfl ?_ dsS ?_;(focus (intro hne;cases hne;done));simp only [St.set])))
 refine aw_condS rfl (fun h=>?_) (fun h=>?_)
 ·omega
 (repeat (first|refine aw_seq ?_|refine aw_region ?_|refine aw_block ?_|(refine aw_exit ?_;(try simp (decide:=true) only [reduceIte]))|(refine aw_skip ?_;try dsimp only)|(refine ow_nil ?_;try dsimp only)|(refine ol_go ?_ (fun K1 hK1=>?_);exact trS;refine evS ?_;refine hK1 _ _ ?_;clear hK1 K1)|(refine ol_skip rfl rfl ?_ ?_;(focus (intro hne;cases hne;done));simp only [St.set])|(refine ol_nil ⟨by kernel_rfl,?_⟩;try dsimp only)|(refine ow_go ?_ dsS (fun K1 hK1=>?_);exact trS;refine evS ?_;refine hK1 _ ?_;clear hK1 K1)|(refine ow_skip rfl rfl ?_ dsS ?_;(focus (intro hne;cases hne;done));simp only [St.set])))
 refine aw_anyL (by kernel_rfl) (by kernel_rfl) rfl rfl (by kernel_rfl) (by simp only [hsz];kernel_rfl) ?_
 (repeat (first|refine ctlS ?_|(refine ol_go ?_ (fun K1 hK1=>?_);exact trS;refine evS ?_;(try simp only [ek]);refine hK1 _ _ ?_;clear hK1 K1)|(refine ow_go ?_ dsS (fun K1 hK1=>?_);exact trS;refine evS ?_;(try simp only [ek]);refine hK1 _ ?_;clear hK1 K1)|refine skipS ?_|(refine ow_call1q (k:=64) ?_ dsS rfl rfl (HM) rfl rfl (by first|rfl|(simp only [List.length_map,List.length_append]<;>rfl)) (by decide) ?_;exact trS;simp only [St.set,List.map_cons,List.map_nil,List.length_map,List.length_append,Nat.reduceAdd])|(refine ol_call1q (k:=64) ?_ rfl rfl (HM) rfl rfl (by first|rfl|(simp only [List.length_map,List.length_append]<;>rfl)) (by decide) ⟨0,List.mem_cons_self⟩ ?_;exact trS;simp only [St.set,List.map_cons,List.map_nil,List.length_map,List.length_append,Nat.reduceAdd])|(refine ow_call1qn (k:=64) ?_ dsS rfl rfl rfl (HM) rfl rfl ?_;exact trS;simp only [St.set,List.map_cons,List.map_nil,List.length_map,List.length_append,Nat.reduceAdd])|(refine ow_call1q (k:=64) ?_ dsS rfl rfl (HA) rfl rfl (by first|rfl|(simp only [List.length_map,List.length_append]<;>rfl)) (by decide) ?_;exact trS;simp only [St.set,List.map_cons,List.map_nil,List.length_map,List.length_append,Nat.reduceAdd])|(refine ol_call1q (k:=64) ?_ rfl rfl (HA) rfl rfl (by first|rfl|(simp only [List.length_map,List.length_append]<;>rfl)) (by decide) ⟨0,List.mem_cons_self⟩ ?_;exact trS;simp only [St.set,List.map_cons,List.map_nil,List.length_map,List.length_append,Nat.reduceAdd])|(refine ow_call1qn (k:=64) ?_ dsS rfl rfl rfl (HA) rfl rfl ?_;exact trS;simp only [St.set,List.map_cons,List.map_nil,List.length_map,List.length_append,Nat.reduceAdd])))

 (refine rtS Tryd.results33 ?_;exact ⟨_,_,.inl (toZ_own (by simp [lk,St.mem])),by simp,rfl⟩)
theorem compRI_5 (hD:DB 1048576 D) (hV:descP D) (hr:D[i]?=some r) (he:es.length=i) (hs:0≤st∧st≤200000000) (hk:r.kind=5):AC Tryd.prog 33 [.d (encD D),.d (iD (i:Nat)),.d (iD st),.d (encI es)] none (fun r' _=>r'=.own 46 3 ((cmpR r st es).map insC)):=by
 have G:GoodR D i r:=good_of hV hr
 have hrb:=hD.rule r (List.mem_of_getElem? hr)
 have hil:i<D.length:=(List.getElem?_eq_some_iff.1 hr).1
 have hkk:=kids_in G he
 have hkl:=(G.k5 hk).1
 obtain ⟨k0,q0,h0⟩:=hkk 0 (by omega)
 have i0:r.kids[0]?=some (k0:Int):=by rw [List.getElem?_eq_getElem (by omega),q0]
 obtain ⟨k1,q1,h1⟩:=hkk 1 (by omega)
 have i1:r.kids[1]?=some (k1:Int):=by rw [List.getElem?_eq_getElem (by omega),q1]
 have HM:MthOK D st es 58 r:=array_m hk i0 h0 i1 h1 hs
 unfold MthOK at HM
 have hB:=cmpB_len hrb st es
 have HA:=add_c (D:=D) (st:=st) (es:=es) (cs:=cmpB r st es) 10 0 0 (by omega)
 have HK:=(known_c hD (Nat.le_refl _) (i:Int)).eqv (r1:=.d (bD true)) (by rw [vKnown_yes (vDesc_yes hV) ⟨by omega,by omega⟩])
 have d1:decide ((es.length:Int)<(i:Int))=false:=decide_eq_false (by omega)
 rw [show (cmpR r st es).map insC=(cmpB r st es++[(10,0,0)]).map insC from rfl]
 obtain ⟨W,hW⟩:∃ W,W=cmpB r st es++[((10:Int),(0:Int),(0:Int))]:=⟨_,rfl⟩
 rw [←hW] at HA ⊢
 generalize cmpB r st es=B at *
 have ek:r.kind - 1=4:=by omega
 refine cbS Tryd.func33 rfl Tryd.call33 Tryd.ntmps33 fun en hsz hks hk0=>?_;refine enS ?_
 (repeat (first|refine aw_seq ?_|refine aw_region ?_|refine aw_block ?_|(refine aw_exit ?_;(try simp (decide:=true) only [reduceIte]))|(refine aw_skip ?_;try dsimp only)|(refine ow_nil ?_;try dsimp only)|(refine ol_go ?_ (fun K1 hK1=>?_);exact trS;refine evS ?_;refine hK1 _ _ ?_;clear hK1 K1)|(refine ol_skip rfl rfl ?_ ?_;(focus (intro hne;cases hne;done));simp only [St.set])|(refine ol_nil ⟨by kernel_rfl,?_⟩;try dsimp only)|(refine ow_go ?_ dsS (fun K1 hK1=>?_);exact trS;refine evS ?_;refine hK1 _ ?_;clear hK1 K1)|(refine ow_skip rfl rfl ?_ dsS ?_;(focus (intro hne;cases hne;done));simp only [St.set])))
 (first|refine cS (HK) ?_|(refine callPreV ?_;(first|refine callN_funS rfl (HK) ?_)))
 (repeat (first|refine aw_seq ?_|refine aw_region ?_|refine aw_block ?_|(refine aw_exit ?_;(try simp (decide:=true) only [reduceIte]))|(refine aw_skip ?_;try dsimp only)|(refine ow_nil ?_;try dsimp only)|(refine ol_go ?_ (fun K1 hK1=>?_);exact trS;refine evS ?_;refine hK1 _ _ ?_;clear hK1 K1)|(refine ol_skip rfl rfl ?_ ?_;(focus (intro hne;cases hne;done));simp only [St.set])|(refine ol_nil ⟨by kernel_rfl,?_⟩;try dsimp only)|(refine ow_go ?_ dsS (fun K1 hK1=>?_);exact trS;refine evS ?_;refine hK1 _ ?_;clear hK1 K1)|(refine ow_skip rfl rfl ?_ dsS ?_;(focus (intro hne;cases hne;done));simp only [St.set])))
 refine aw_condS rfl (fun h=>?_) (fun h=>?_)
 ·omega
 (repeat (first|refine aw_seq ?_|refine aw_region ?_|refine aw_block ?_|(refine aw_exit ?_;(try simp (decide:=true) only [reduceIte]))|(refine aw_skip ?_;try dsimp only)|(refine ow_nil ?_;try dsimp only)|(refine ol_go ?_ (fun K1 hK1=>?_);exact trS;refine evS ?_;refine hK1 _ _ ?_;clear hK1 K1)|(refine ol_skip rfl rfl ?_ ?_;(focus (intro hne;cases hne;done));simp only [St.set])|(refine ol_nil ⟨by kernel_rfl,?_⟩;try dsimp only)|(refine ow_go ?_ dsS (fun K1 hK1=>?_);exact trS;refine evS ?_;refine hK1 _ ?_;clear hK1 K1)|(refine ow_skip rfl rfl ?_ dsS ?_;(focus (intro hne;cases hne;done));simp only [St.set])))
 refine aw_anyL (by kernel_rfl) (by kernel_rfl) rfl rfl (by kernel_rfl) (by simp only [hsz];kernel_rfl) ?_
 (repeat (first|refine ctlS ?_|(refine ol_go ?_ (fun K1 hK1=>?_);exact trS;refine evS ?_;(try simp only [ek]);refine hK1 _ _ ?_;clear hK1 K1)|(refine ow_go ?_ dsS (fun K1 hK1=>?_);exact trS;refine evS ?_;(try simp only [ek]);refine hK1 _ ?_;clear hK1 K1)|refine skipS ?_|(refine ow_call1q (k:=64) ?_ dsS rfl rfl (HM) rfl rfl (by first|rfl|(simp only [List.length_map,List.length_append]<;>rfl)) (by decide) ?_;exact trS;simp only [St.set,List.map_cons,List.map_nil,List.length_map,List.length_append,Nat.reduceAdd])|(refine ol_call1q (k:=64) ?_ rfl rfl (HM) rfl rfl (by first|rfl|(simp only [List.length_map,List.length_append]<;>rfl)) (by decide) ⟨0,List.mem_cons_self⟩ ?_;exact trS;simp only [St.set,List.map_cons,List.map_nil,List.length_map,List.length_append,Nat.reduceAdd])|(refine ow_call1qn (k:=64) ?_ dsS rfl rfl rfl (HM) rfl rfl ?_;exact trS;simp only [St.set,List.map_cons,List.map_nil,List.length_map,List.length_append,Nat.reduceAdd])|(refine ow_call1q (k:=64) ?_ dsS rfl rfl (HA) rfl rfl (by first|rfl|(simp only [List.length_map,List.length_append]<;>rfl)) (by decide) ?_;exact trS;simp only [St.set,List.map_cons,List.map_nil,List.length_map,List.length_append,Nat.reduceAdd])|(refine ol_call1q (k:=64) ?_ rfl rfl (HA) rfl rfl (by first|rfl|(simp only [List.length_map,List.length_append]<;>rfl)) (by decide) ⟨0,List.mem_cons_self⟩ ?_;exact trS;simp only [St.set,List.map_cons,List.map_nil,List.length_map,List.length_append,Nat.reduceAdd])|(refine ow_call1qn (k:=64) ?_ dsS rfl rfl rfl (HA) rfl rfl ?_;exact trS;simp only [St.set,List.map_cons,List.map_nil,List.length_map,List.length_append,Nat.reduceAdd])))

 (refine rtS Tryd.results33 ?_;exact ⟨_,_,.inl (toZ_own (by simp [lk,St.mem])),by simp,rfl⟩)
theorem compRI_6 (hD:DB 1048576 D) (hV:descP D) (hr:D[i]?=some r) (he:es.length=i) (hs:0≤st∧st≤200000000) (hk:r.kind=6):AC Tryd.prog 33 [.d (encD D),.d (iD (i:Nat)),.d (iD st),.d (encI es)] none (fun r' _=>r'=.own 46 3 ((cmpR r st es).map insC)):=by
 have G:GoodR D i r:=good_of hV hr
 have hrb:=hD.rule r (List.mem_of_getElem? hr)
 have hil:i<D.length:=(List.getElem?_eq_some_iff.1 hr).1
 have hkk:=kids_in G he
 have HM:MthOK D st es 59 r:=sequence_m hk hkk hrb.lk
 unfold MthOK at HM
 have hB:=cmpB_len hrb st es
 have HA:=add_c (D:=D) (st:=st) (es:=es) (cs:=cmpB r st es) 10 0 0 (by omega)
 have HK:=(known_c hD (Nat.le_refl _) (i:Int)).eqv (r1:=.d (bD true)) (by rw [vKnown_yes (vDesc_yes hV) ⟨by omega,by omega⟩])
 have d1:decide ((es.length:Int)<(i:Int))=false:=decide_eq_false (by omega)
 rw [show (cmpR r st es).map insC=(cmpB r st es++[(10,0,0)]).map insC from rfl]
 obtain ⟨W,hW⟩:∃ W,W=cmpB r st es++[((10:Int),(0:Int),(0:Int))]:=⟨_,rfl⟩
 rw [←hW] at HA ⊢
 generalize cmpB r st es=B at *
 have ek:r.kind - 1=5:=by omega
 refine cbS Tryd.func33 rfl Tryd.call33 Tryd.ntmps33 fun en hsz hks hk0=>?_;refine enS ?_
 (repeat (first|refine aw_seq ?_|refine aw_region ?_|refine aw_block ?_|(refine aw_exit ?_;(try simp (decide:=true) only [reduceIte]))|(refine aw_skip ?_;try dsimp only)|(refine ow_nil ?_;try dsimp only)|(refine ol_go ?_ (fun K1 hK1=>?_);exact trS;refine evS ?_;refine hK1 _ _ ?_;clear hK1 K1)|(refine ol_skip rfl rfl ?_ ?_;(focus (intro hne;cases hne;done));simp only [St.set])|(refine ol_nil ⟨by kernel_rfl,?_⟩;try dsimp only)|(refine ow_go ?_ dsS (fun K1 hK1=>?_);exact trS;refine evS ?_;refine hK1 _ ?_;clear hK1 K1)|(refine ow_skip rfl rfl ?_ dsS ?_;(focus (intro hne;cases hne;done));simp only [St.set])))
 (first|refine cS (HK) ?_|(refine callPreV ?_;(first|refine callN_funS rfl (HK) ?_)))
 (repeat (first|refine aw_seq ?_|refine aw_region ?_|refine aw_block ?_|(refine aw_exit ?_;(try simp (decide:=true) only [reduceIte]))|(refine aw_skip ?_;try dsimp only)|(refine ow_nil ?_;try dsimp only)|(refine ol_go ?_ (fun K1 hK1=>?_);exact trS;refine evS ?_;refine hK1 _ _ ?_;clear hK1 K1)|(refine ol_skip rfl rfl ?_ ?_;(focus (intro hne;cases hne;done));simp only [St.set])|(refine ol_nil ⟨by kernel_rfl,?_⟩;try dsimp only)|(refine ow_go ?_ dsS (fun K1 hK1=>?_);exact trS;refine evS ?_;refine hK1 _ ?_;clear hK1 K1)|(refine ow_skip rfl rfl ?_ dsS ?_;(focus (intro hne;cases hne;done));simp only [St.set])))
 refine aw_condS rfl (fun h=>?_) (fun h=>?_)
 ·omega
 (repeat (first|refine aw_seq ?_|refine aw_region ?_|refine aw_block ?_|(refine aw_exit ?_;(try simp (decide:=true) only [reduceIte]))|(refine aw_skip ?_;try dsimp only)|(refine ow_nil ?_;try dsimp only)|(refine ol_go ?_ (fun K1 hK1=>?_);exact trS;refine evS ?_;refine hK1 _ _ ?_;clear hK1 K1)|(refine ol_skip rfl rfl ?_ ?_;(focus (intro hne;cases hne;done));simp only [St.set])|(refine ol_nil ⟨by kernel_rfl,?_⟩;try dsimp only)|(refine ow_go ?_ dsS (fun K1 hK1=>?_);exact trS;refine evS ?_;refine hK1 _ ?_;clear hK1 K1)|(refine ow_skip rfl rfl ?_ dsS ?_;(focus (intro hne;cases hne;done));simp only [St.set])))
 refine aw_anyL (by kernel_rfl) (by kernel_rfl) rfl rfl (by kernel_rfl) (by simp only [hsz];kernel_rfl) ?_
 (repeat (first|refine ctlS ?_|(refine ol_go ?_ (fun K1 hK1=>?_);exact trS;refine evS ?_;(try simp only [ek]);refine hK1 _ _ ?_;clear hK1 K1)|(refine ow_go ?_ dsS (fun K1 hK1=>?_);exact trS;refine evS ?_;(try simp only [ek]);refine hK1 _ ?_;clear hK1 K1)|refine skipS ?_|(refine ow_call1q (k:=64) ?_ dsS rfl rfl (HM) rfl rfl (by first|rfl|(simp only [List.length_map,List.length_append]<;>rfl)) (by decide) ?_;exact trS;simp only [St.set,List.map_cons,List.map_nil,List.length_map,List.length_append,Nat.reduceAdd])|(refine ol_call1q (k:=64) ?_ rfl rfl (HM) rfl rfl (by first|rfl|(simp only [List.length_map,List.length_append]<;>rfl)) (by decide) ⟨0,List.mem_cons_self⟩ ?_;exact trS;simp only [St.set,List.map_cons,List.map_nil,List.length_map,List.length_append,Nat.reduceAdd])|(refine ow_call1qn (k:=64) ?_ dsS rfl rfl rfl (HM) rfl rfl ?_;exact trS;simp only [St.set,List.map_cons,List.map_nil,List.length_map,List.length_append,Nat.reduceAdd])|(refine ow_call1q (k:=64) ?_ dsS rfl rfl (HA) rfl rfl (by first|rfl|(simp only [List.length_map,List.length_append]<;>rfl)) (by decide) ?_;exact trS;simp only [St.set,List.map_cons,List.map_nil,List.length_map,List.length_append,Nat.reduceAdd])|(refine ol_call1q (k:=64) ?_ rfl rfl (HA) rfl rfl (by first|rfl|(simp only [List.length_map,List.length_append]<;>rfl)) (by decide) ⟨0,List.mem_cons_self⟩ ?_;exact trS;simp only [St.set,List.map_cons,List.map_nil,List.length_map,List.length_append,Nat.reduceAdd])|(refine ow_call1qn (k:=64) ?_ dsS rfl rfl rfl (HA) rfl rfl ?_;exact trS;simp only [St.set,List.map_cons,List.map_nil,List.length_map,List.length_append,Nat.reduceAdd])))

 (refine rtS Tryd.results33 ?_;exact ⟨_,_,.inl (toZ_own (by simp [lk,St.mem])),by simp,rfl⟩)
theorem compRI_7 (hD:DB 1048576 D) (hV:descP D) (hr:D[i]?=some r) (he:es.length=i) (hs:0≤st∧st≤200000000) (hk:r.kind=7):AC Tryd.prog 33 [.d (encD D),.d (iD (i:Nat)),.d (iD st),.d (encI es)] none (fun r' _=>r'=.own 46 3 ((cmpR r st es).map insC)):=by
 have G:GoodR D i r:=good_of hV hr
 have hrb:=hD.rule r (List.mem_of_getElem? hr)
 have hil:i<D.length:=(List.getElem?_eq_some_iff.1 hr).1
 have hkk:=kids_in G he
 have HM:MthOK D st es 60 r:=choice_m hk (G.k7 hk).1 hkk hrb.lk hs
 unfold MthOK at HM
 have hB:=cmpB_len hrb st es
 have HA:=add_c (D:=D) (st:=st) (es:=es) (cs:=cmpB r st es) 10 0 0 (by omega)
 have HK:=(known_c hD (Nat.le_refl _) (i:Int)).eqv (r1:=.d (bD true)) (by rw [vKnown_yes (vDesc_yes hV) ⟨by omega,by omega⟩])
 have d1:decide ((es.length:Int)<(i:Int))=false:=decide_eq_false (by omega)
 rw [show (cmpR r st es).map insC=(cmpB r st es++[(10,0,0)]).map insC from rfl]
 obtain ⟨W,hW⟩:∃ W,W=cmpB r st es++[((10:Int),(0:Int),(0:Int))]:=⟨_,rfl⟩
 rw [←hW] at HA ⊢
 generalize cmpB r st es=B at *
 have ek:r.kind - 1=6:=by omega
 refine cbS Tryd.func33 rfl Tryd.call33 Tryd.ntmps33 fun en hsz hks hk0=>?_;refine enS ?_
 (repeat (first|refine aw_seq ?_|refine aw_region ?_|refine aw_block ?_|(refine aw_exit ?_;(try simp (decide:=true) only [reduceIte]))|(refine aw_skip ?_;try dsimp only)|(refine ow_nil ?_;try dsimp only)|(refine ol_go ?_ (fun K1 hK1=>?_);exact trS;refine evS ?_;refine hK1 _ _ ?_;clear hK1 K1)|(refine ol_skip rfl rfl ?_ ?_;(focus (intro hne;cases hne;done));simp only [St.set])|(refine ol_nil ⟨by kernel_rfl,?_⟩;try dsimp only)|(refine ow_go ?_ dsS (fun K1 hK1=>?_);exact trS;refine evS ?_;refine hK1 _ ?_;clear hK1 K1)|(refine ow_skip rfl rfl ?_ dsS ?_;(focus (intro hne;cases hne;done));simp only [St.set])))
 (first|refine cS (HK) ?_|(refine callPreV ?_;(first|refine callN_funS rfl (HK) ?_)))
 (repeat (first|refine aw_seq ?_|refine aw_region ?_|refine aw_block ?_|(refine aw_exit ?_;(try simp (decide:=true) only [reduceIte]))|(refine aw_skip ?_;try dsimp only)|(refine ow_nil ?_;try dsimp only)|(refine ol_go ?_ (fun K1 hK1=>?_);exact trS;refine evS ?_;refine hK1 _ _ ?_;clear hK1 K1)|(refine ol_skip rfl rfl ?_ ?_;(focus (intro hne;cases hne;done));simp only [St.set])|(refine ol_nil ⟨by kernel_rfl,?_⟩;try dsimp only)|(refine ow_go ?_ dsS (fun K1 hK1=>?_);exact trS;refine evS ?_;refine hK1 _ ?_;clear hK1 K1)|(refine ow_skip rfl rfl ?_ dsS ?_;(focus (intro hne;cases hne;done));simp only [St.set])))
 refine aw_condS rfl (fun h=>?_) (fun h=>?_)
 ·omega
 (repeat (first|refine aw_seq ?_|refine aw_region ?_|refine aw_block ?_|(refine aw_exit ?_;(try simp (decide:=true) only [reduceIte]))|(refine aw_skip ?_;try dsimp only)|(refine ow_nil ?_;try dsimp only)|(refine ol_go ?_ (fun K1 hK1=>?_);exact trS;refine evS ?_;refine hK1 _ _ ?_;clear hK1 K1)|(refine ol_skip rfl rfl ?_ ?_;(focus (intro hne;cases hne;done));simp only [St.set])|(refine ol_nil ⟨by kernel_rfl,?_⟩;try dsimp only)|(refine ow_go ?_ dsS (fun K1 hK1=>?_);exact trS;refine evS ?_;refine hK1 _ ?_;clear hK1 K1)|(refine ow_skip rfl rfl ?_ dsS ?_;(focus (intro hne;cases hne;done));simp only [St.set])))
 refine aw_anyL (by kernel_rfl) (by kernel_rfl) rfl rfl (by kernel_rfl) (by simp only [hsz];kernel_rfl) ?_
 (repeat (first|refine ctlS ?_|(refine ol_go ?_ (fun K1 hK1=>?_);exact trS;refine evS ?_;(try simp only [ek]);refine hK1 _ _ ?_;clear hK1 K1)|(refine ow_go ?_ dsS (fun K1 hK1=>?_);exact trS;refine evS ?_;(try simp only [ek]);refine hK1 _ ?_;clear hK1 K1)|refine skipS ?_|(refine ow_call1q (k:=64) ?_ dsS rfl rfl (HM) rfl rfl (by first|rfl|(simp only [List.length_map,List.length_append]<;>rfl)) (by decide) ?_;exact trS;simp only [St.set,List.map_cons,List.map_nil,List.length_map,List.length_append,Nat.reduceAdd])|(refine ol_call1q (k:=64) ?_ rfl rfl (HM) rfl rfl (by first|rfl|(simp only [List.length_map,List.length_append]<;>rfl)) (by decide) ⟨0,List.mem_cons_self⟩ ?_;exact trS;simp only [St.set,List.map_cons,List.map_nil,List.length_map,List.length_append,Nat.reduceAdd])|(refine ow_call1qn (k:=64) ?_ dsS rfl rfl rfl (HM) rfl rfl ?_;exact trS;simp only [St.set,List.map_cons,List.map_nil,List.length_map,List.length_append,Nat.reduceAdd])|(refine ow_call1q (k:=64) ?_ dsS rfl rfl (HA) rfl rfl (by first|rfl|(simp only [List.length_map,List.length_append]<;>rfl)) (by decide) ?_;exact trS;simp only [St.set,List.map_cons,List.map_nil,List.length_map,List.length_append,Nat.reduceAdd])|(refine ol_call1q (k:=64) ?_ rfl rfl (HA) rfl rfl (by first|rfl|(simp only [List.length_map,List.length_append]<;>rfl)) (by decide) ⟨0,List.mem_cons_self⟩ ?_;exact trS;simp only [St.set,List.map_cons,List.map_nil,List.length_map,List.length_append,Nat.reduceAdd])|(refine ow_call1qn (k:=64) ?_ dsS rfl rfl rfl (HA) rfl rfl ?_;exact trS;simp only [St.set,List.map_cons,List.map_nil,List.length_map,List.length_append,Nat.reduceAdd])))

 (refine rtS Tryd.results33 ?_;exact ⟨_,_,.inl (toZ_own (by simp [lk,St.mem])),by simp,rfl⟩)
theorem compRI_8 (hD:DB 1048576 D) (hV:descP D) (hr:D[i]?=some r) (he:es.length=i) (hs:0≤st∧st≤200000000) (hk:r.kind=8):AC Tryd.prog 33 [.d (encD D),.d (iD (i:Nat)),.d (iD st),.d (encI es)] none (fun r' _=>r'=.own 46 3 ((cmpR r st es).map insC)):=by
 have G:GoodR D i r:=good_of hV hr
 have hrb:=hD.rule r (List.mem_of_getElem? hr)
 have hil:i<D.length:=(List.getElem?_eq_some_iff.1 hr).1
 have hkk:=kids_in G he
 have hkl:=G.k8 hk
 obtain ⟨k0,q0,h0⟩:=hkk 0 (by omega)
 have i0:r.kids[0]?=some (k0:Int):=by rw [List.getElem?_eq_getElem (by omega),q0]
 have HM:MthOK D st es 61 r:=option_m hk i0 h0 hs
 unfold MthOK at HM
 have hB:=cmpB_len hrb st es
 have HA:=add_c (D:=D) (st:=st) (es:=es) (cs:=cmpB r st es) 10 0 0 (by omega)
 have HK:=(known_c hD (Nat.le_refl _) (i:Int)).eqv (r1:=.d (bD true)) (by rw [vKnown_yes (vDesc_yes hV) ⟨by omega,by omega⟩])
 have d1:decide ((es.length:Int)<(i:Int))=false:=decide_eq_false (by omega)
 rw [show (cmpR r st es).map insC=(cmpB r st es++[(10,0,0)]).map insC from rfl]
 obtain ⟨W,hW⟩:∃ W,W=cmpB r st es++[((10:Int),(0:Int),(0:Int))]:=⟨_,rfl⟩
 rw [←hW] at HA ⊢
 generalize cmpB r st es=B at *
 have ek:r.kind - 1=7:=by omega
 refine cbS Tryd.func33 rfl Tryd.call33 Tryd.ntmps33 fun en hsz hks hk0=>?_;refine enS ?_
 (repeat (first|refine aw_seq ?_|refine aw_region ?_|refine aw_block ?_|(refine aw_exit ?_;(try simp (decide:=true) only [reduceIte]))|(refine aw_skip ?_;try dsimp only)|(refine ow_nil ?_;try dsimp only)|(refine ol_go ?_ (fun K1 hK1=>?_);exact trS;refine evS ?_;refine hK1 _ _ ?_;clear hK1 K1)|(refine ol_skip rfl rfl ?_ ?_;(focus (intro hne;cases hne;done));simp only [St.set])|(refine ol_nil ⟨by kernel_rfl,?_⟩;try dsimp only)|(refine ow_go ?_ dsS (fun K1 hK1=>?_);exact trS;refine evS ?_;refine hK1 _ ?_;clear hK1 K1)|(refine ow_skip rfl rfl ?_ dsS ?_;(focus (intro hne;cases hne;done));simp only [St.set])))
 (first|refine cS (HK) ?_|(refine callPreV ?_;(first|refine callN_funS rfl (HK) ?_)))
 (repeat (first|refine aw_seq ?_|refine aw_region ?_|refine aw_block ?_|(refine aw_exit ?_;(try simp (decide:=true) only [reduceIte]))|(refine aw_skip ?_;try dsimp only)|(refine ow_nil ?_;try dsimp only)|(refine ol_go ?_ (fun K1 hK1=>?_);exact trS;refine evS ?_;refine hK1 _ _ ?_;clear hK1 K1)|(refine ol_skip rfl rfl ?_ ?_;(focus (intro hne;cases hne;done));simp only [St.set])|(refine ol_nil ⟨by kernel_rfl,?_⟩;try dsimp only)|(refine ow_go ?_ dsS (fun K1 hK1=>?_);exact trS;refine evS ?_;refine hK1 _ ?_;clear hK1 K1)|(refine ow_skip rfl rfl ?_ dsS ?_;(focus (intro hne;cases hne;done));simp only [St.set])))
 refine aw_condS rfl (fun h=>?_) (fun h=>?_)
 ·omega
 (repeat (first|refine aw_seq ?_|refine aw_region ?_|refine aw_block ?_|(refine aw_exit ?_;(try simp (decide:=true) only [reduceIte]))|(refine aw_skip ?_;try dsimp only)|(refine ow_nil ?_;try dsimp only)|(refine ol_go ?_ (fun K1 hK1=>?_);exact trS;refine evS ?_;refine hK1 _ _ ?_;clear hK1 K1)|(refine ol_skip rfl rfl ?_ ?_;(focus (intro hne;cases hne;done));simp only [St.set])|(refine ol_nil ⟨by kernel_rfl,?_⟩;try dsimp only)|(refine ow_go ?_ dsS (fun K1 hK1=>?_);exact trS;refine evS ?_;refine hK1 _ ?_;clear hK1 K1)|(refine ow_skip rfl rfl ?_ dsS ?_;(focus (intro hne;cases hne;done));simp only [St.set])))
 refine aw_anyL (by kernel_rfl) (by kernel_rfl) rfl rfl (by kernel_rfl) (by simp only [hsz];kernel_rfl) ?_
 (repeat (first|refine ctlS ?_|(refine ol_go ?_ (fun K1 hK1=>?_);exact trS;refine evS ?_;(try simp only [ek]);refine hK1 _ _ ?_;clear hK1 K1)|(refine ow_go ?_ dsS (fun K1 hK1=>?_);exact trS;refine evS ?_;(try simp only [ek]);refine hK1 _ ?_;clear hK1 K1)|refine skipS ?_|(refine ow_call1q (k:=64) ?_ dsS rfl rfl (HM) rfl rfl (by first|rfl|(simp only [List.length_map,List.length_append]<;>rfl)) (by decide) ?_;exact trS;simp only [St.set,List.map_cons,List.map_nil,List.length_map,List.length_append,Nat.reduceAdd])|(refine ol_call1q (k:=64) ?_ rfl rfl (HM) rfl rfl (by first|rfl|(simp only [List.length_map,List.length_append]<;>rfl)) (by decide) ⟨0,List.mem_cons_self⟩ ?_;exact trS;simp only [St.set,List.map_cons,List.map_nil,List.length_map,List.length_append,Nat.reduceAdd])|(refine ow_call1qn (k:=64) ?_ dsS rfl rfl rfl (HM) rfl rfl ?_;exact trS;simp only [St.set,List.map_cons,List.map_nil,List.length_map,List.length_append,Nat.reduceAdd])|(refine ow_call1q (k:=64) ?_ dsS rfl rfl (HA) rfl rfl (by first|rfl|(simp only [List.length_map,List.length_append]<;>rfl)) (by decide) ?_;exact trS;simp only [St.set,List.map_cons,List.map_nil,List.length_map,List.length_append,Nat.reduceAdd])|(refine ol_call1q (k:=64) ?_ rfl rfl (HA) rfl rfl (by first|rfl|(simp only [List.length_map,List.length_append]<;>rfl)) (by decide) ⟨0,List.mem_cons_self⟩ ?_;exact trS;simp only [St.set,List.map_cons,List.map_nil,List.length_map,List.length_append,Nat.reduceAdd])|(refine ow_call1qn (k:=64) ?_ dsS rfl rfl rfl (HA) rfl rfl ?_;exact trS;simp only [St.set,List.map_cons,List.map_nil,List.length_map,List.length_append,Nat.reduceAdd])))

 (refine rtS Tryd.results33 ?_;exact ⟨_,_,.inl (toZ_own (by simp [lk,St.mem])),by simp,rfl⟩)
theorem compRI_9 (hD:DB 1048576 D) (hV:descP D) (hr:D[i]?=some r) (he:es.length=i) (hs:0≤st∧st≤200000000) (hk:r.kind=9):AC Tryd.prog 33 [.d (encD D),.d (iD (i:Nat)),.d (iD st),.d (encI es)] none (fun r' _=>r'=.own 46 3 ((cmpR r st es).map insC)):=by
 have G:GoodR D i r:=good_of hV hr
 have hrb:=hD.rule r (List.mem_of_getElem? hr)
 have hil:i<D.length:=(List.getElem?_eq_some_iff.1 hr).1
 have hkk:=kids_in G he
 have hkl:=G.k9 hk
 obtain ⟨k0,q0,h0⟩:=hkk 0 (by omega)
 have i0:r.kids[0]?=some (k0:Int):=by rw [List.getElem?_eq_getElem (by omega),q0]
 have HM:MthOK D st es 62 r:=checked_m hk i0 h0
 unfold MthOK at HM
 have hB:=cmpB_len hrb st es
 have HA:=add_c (D:=D) (st:=st) (es:=es) (cs:=cmpB r st es) 10 0 0 (by omega)
 have HK:=(known_c hD (Nat.le_refl _) (i:Int)).eqv (r1:=.d (bD true)) (by rw [vKnown_yes (vDesc_yes hV) ⟨by omega,by omega⟩])
 have d1:decide ((es.length:Int)<(i:Int))=false:=decide_eq_false (by omega)
 rw [show (cmpR r st es).map insC=(cmpB r st es++[(10,0,0)]).map insC from rfl]
 obtain ⟨W,hW⟩:∃ W,W=cmpB r st es++[((10:Int),(0:Int),(0:Int))]:=⟨_,rfl⟩
 rw [←hW] at HA ⊢
 generalize cmpB r st es=B at *
 have ek:r.kind - 1=8:=by omega
 refine cbS Tryd.func33 rfl Tryd.call33 Tryd.ntmps33 fun en hsz hks hk0=>?_;refine enS ?_
 (repeat (first|refine aw_seq ?_|refine aw_region ?_|refine aw_block ?_|(refine aw_exit ?_;(try simp (decide:=true) only [reduceIte]))|(refine aw_skip ?_;try dsimp only)|(refine ow_nil ?_;try dsimp only)|(refine ol_go ?_ (fun K1 hK1=>?_);exact trS;refine evS ?_;refine hK1 _ _ ?_;clear hK1 K1)|(refine ol_skip rfl rfl ?_ ?_;(focus (intro hne;cases hne;done));simp only [St.set])|(refine ol_nil ⟨by kernel_rfl,?_⟩;try dsimp only)|(refine ow_go ?_ dsS (fun K1 hK1=>?_);exact trS;refine evS ?_;refine hK1 _ ?_;clear hK1 K1)|(refine ow_skip rfl rfl ?_ dsS ?_;(focus (intro hne;cases hne;done));simp only [St.set])))
 (first|refine cS (HK) ?_|(refine callPreV ?_;(first|refine callN_funS rfl (HK) ?_)))
 (repeat (first|refine aw_seq ?_|refine aw_region ?_|refine aw_block ?_|(refine aw_exit ?_;(try simp (decide:=true) only [reduceIte]))|(refine aw_skip ?_;try dsimp only)|(refine ow_nil ?_;try dsimp only)|(refine ol_go ?_ (fun K1 hK1=>?_);exact trS;refine evS ?_;refine hK1 _ _ ?_;clear hK1 K1)|(refine ol_skip rfl rfl ?_ ?_;(focus (intro hne;cases hne;done));simp only [St.set])|(refine ol_nil ⟨by kernel_rfl,?_⟩;try dsimp only)|(refine ow_go ?_ dsS (fun K1 hK1=>?_);exact trS;refine evS ?_;refine hK1 _ ?_;clear hK1 K1)|(refine ow_skip rfl rfl ?_ dsS ?_;(focus (intro hne;cases hne;done));simp only [St.set])))
 refine aw_condS rfl (fun h=>?_) (fun h=>?_)
 ·omega
 (repeat (first|refine aw_seq ?_|refine aw_region ?_|refine aw_block ?_|(refine aw_exit ?_;(try simp (decide:=true) only [reduceIte]))|(refine aw_skip ?_;try dsimp only)|(refine ow_nil ?_;try dsimp only)|(refine ol_go ?_ (fun K1 hK1=>?_);exact trS;refine evS ?_;refine hK1 _ _ ?_;clear hK1 K1)|(refine ol_skip rfl rfl ?_ ?_;(focus (intro hne;cases hne;done));simp only [St.set])|(refine ol_nil ⟨by kernel_rfl,?_⟩;try dsimp only)|(refine ow_go ?_ dsS (fun K1 hK1=>?_);exact trS;refine evS ?_;refine hK1 _ ?_;clear hK1 K1)|(refine ow_skip rfl rfl ?_ dsS ?_;(focus (intro hne;cases hne;done));simp only [St.set])))
 refine aw_anyL (by kernel_rfl) (by kernel_rfl) rfl rfl (by kernel_rfl) (by simp only [hsz];kernel_rfl) ?_
 (repeat (first|refine ctlS ?_|(refine ol_go ?_ (fun K1 hK1=>?_);exact trS;refine evS ?_;(try simp only [ek]);refine hK1 _ _ ?_;clear hK1 K1)|(refine ow_go ?_ dsS (fun K1 hK1=>?_);exact trS;refine evS ?_;(try simp only [ek]);refine hK1 _ ?_;clear hK1 K1)|refine skipS ?_|(refine ow_call1q (k:=64) ?_ dsS rfl rfl (HM) rfl rfl (by first|rfl|(simp only [List.length_map,List.length_append]<;>rfl)) (by decide) ?_;exact trS;simp only [St.set,List.map_cons,List.map_nil,List.length_map,List.length_append,Nat.reduceAdd])|(refine ol_call1q (k:=64) ?_ rfl rfl (HM) rfl rfl (by first|rfl|(simp only [List.length_map,List.length_append]<;>rfl)) (by decide) ⟨0,List.mem_cons_self⟩ ?_;exact trS;simp only [St.set,List.map_cons,List.map_nil,List.length_map,List.length_append,Nat.reduceAdd])|(refine ow_call1qn (k:=64) ?_ dsS rfl rfl rfl (HM) rfl rfl ?_;exact trS;simp only [St.set,List.map_cons,List.map_nil,List.length_map,List.length_append,Nat.reduceAdd])|(refine ow_call1q (k:=64) ?_ dsS rfl rfl (HA) rfl rfl (by first|rfl|(simp only [List.length_map,List.length_append]<;>rfl)) (by decide) ?_;exact trS;simp only [St.set,List.map_cons,List.map_nil,List.length_map,List.length_append,Nat.reduceAdd])|(refine ol_call1q (k:=64) ?_ rfl rfl (HA) rfl rfl (by first|rfl|(simp only [List.length_map,List.length_append]<;>rfl)) (by decide) ⟨0,List.mem_cons_self⟩ ?_;exact trS;simp only [St.set,List.map_cons,List.map_nil,List.length_map,List.length_append,Nat.reduceAdd])|(refine ow_call1qn (k:=64) ?_ dsS rfl rfl rfl (HA) rfl rfl ?_;exact trS;simp only [St.set,List.map_cons,List.map_nil,List.length_map,List.length_append,Nat.reduceAdd])))

 (refine rtS Tryd.results33 ?_;exact ⟨_,_,.inl (toZ_own (by simp [lk,St.mem])),by simp,rfl⟩)
theorem compRI_10 (hD:DB 1048576 D) (hV:descP D) (hr:D[i]?=some r) (he:es.length=i) (hs:0≤st∧st≤200000000) (hk:r.kind=10):AC Tryd.prog 33 [.d (encD D),.d (iD (i:Nat)),.d (iD st),.d (encI es)] none (fun r' _=>r'=.own 46 3 ((cmpR r st es).map insC)):=by
 have G:GoodR D i r:=good_of hV hr
 have hrb:=hD.rule r (List.mem_of_getElem? hr)
 have hil:i<D.length:=(List.getElem?_eq_some_iff.1 hr).1
 have hkk:=kids_in G he
 have HM:MthOK D st es 63 r:=terminated_m hk (G.k10 hk)
 unfold MthOK at HM
 have hB:=cmpB_len hrb st es
 have HA:=add_c (D:=D) (st:=st) (es:=es) (cs:=cmpB r st es) 10 0 0 (by omega)
 have HK:=(known_c hD (Nat.le_refl _) (i:Int)).eqv (r1:=.d (bD true)) (by rw [vKnown_yes (vDesc_yes hV) ⟨by omega,by omega⟩])
 have d1:decide ((es.length:Int)<(i:Int))=false:=decide_eq_false (by omega)
 rw [show (cmpR r st es).map insC=(cmpB r st es++[(10,0,0)]).map insC from rfl]
 obtain ⟨W,hW⟩:∃ W,W=cmpB r st es++[((10:Int),(0:Int),(0:Int))]:=⟨_,rfl⟩
 rw [←hW] at HA ⊢
 generalize cmpB r st es=B at *
 have ek:r.kind - 1=9:=by omega
 refine cbS Tryd.func33 rfl Tryd.call33 Tryd.ntmps33 fun en hsz hks hk0=>?_;refine enS ?_
 (repeat (first|refine aw_seq ?_|refine aw_region ?_|refine aw_block ?_|(refine aw_exit ?_;(try simp (decide:=true) only [reduceIte]))|(refine aw_skip ?_;try dsimp only)|(refine ow_nil ?_;try dsimp only)|(refine ol_go ?_ (fun K1 hK1=>?_);exact trS;refine evS ?_;refine hK1 _ _ ?_;clear hK1 K1)|(refine ol_skip rfl rfl ?_ ?_;(focus (intro hne;cases hne;done));simp only [St.set])|(refine ol_nil ⟨by kernel_rfl,?_⟩;try dsimp only)|(refine ow_go ?_ dsS (fun K1 hK1=>?_);exact trS;refine evS ?_;refine hK1 _ ?_;clear hK1 K1)|(refine ow_skip rfl rfl ?_ dsS ?_;(focus (intro hne;cases hne;done));simp only [St.set])))
 (first|refine cS (HK) ?_|(refine callPreV ?_;(first|refine callN_funS rfl (HK) ?_)))
 (repeat (first|refine aw_seq ?_|refine aw_region ?_|refine aw_block ?_|(refine aw_exit ?_;(try simp (decide:=true) only [reduceIte]))|(refine aw_skip ?_;try dsimp only)|(refine ow_nil ?_;try dsimp only)|(refine ol_go ?_ (fun K1 hK1=>?_);exact trS;refine evS ?_;refine hK1 _ _ ?_;clear hK1 K1)|(refine ol_skip rfl rfl ?_ ?_;(focus (intro hne;cases hne;done));simp only [St.set])|(refine ol_nil ⟨by kernel_rfl,?_⟩;try dsimp only)|(refine ow_go ?_ dsS (fun K1 hK1=>?_);exact trS;refine evS ?_;refine hK1 _ ?_;clear hK1 K1)|(refine ow_skip rfl rfl ?_ dsS ?_;(focus (intro hne;cases hne;done));simp only [St.set])))
 refine aw_condS rfl (fun h=>?_) (fun h=>?_)
 ·omega
 (repeat (first|refine aw_seq ?_|refine aw_region ?_|refine aw_block ?_|(refine aw_exit ?_;(try simp (decide:=true) only [reduceIte]))|(refine aw_skip ?_;try dsimp only)|(refine ow_nil ?_;try dsimp only)|(refine ol_go ?_ (fun K1 hK1=>?_);exact trS;refine evS ?_;refine hK1 _ _ ?_;clear hK1 K1)|(refine ol_skip rfl rfl ?_ ?_;(focus (intro hne;cases hne;done));simp only [St.set])|(refine ol_nil ⟨by kernel_rfl,?_⟩;try dsimp only)|(refine ow_go ?_ dsS (fun K1 hK1=>?_);exact trS;refine evS ?_;refine hK1 _ ?_;clear hK1 K1)|(refine ow_skip rfl rfl ?_ dsS ?_;(focus (intro hne;cases hne;done));simp only [St.set])))
 refine aw_anyL (by kernel_rfl) (by kernel_rfl) rfl rfl (by kernel_rfl) (by simp only [hsz];kernel_rfl) ?_
 (repeat (first|refine ctlS ?_|(refine ol_go ?_ (fun K1 hK1=>?_);exact trS;refine evS ?_;(try simp only [ek]);refine hK1 _ _ ?_;clear hK1 K1)|(refine ow_go ?_ dsS (fun K1 hK1=>?_);exact trS;refine evS ?_;(try simp only [ek]);refine hK1 _ ?_;clear hK1 K1)|refine skipS ?_|(refine ow_call1q (k:=64) ?_ dsS rfl rfl (HM) rfl rfl (by first|rfl|(simp only [List.length_map,List.length_append]<;>rfl)) (by decide) ?_;exact trS;simp only [St.set,List.map_cons,List.map_nil,List.length_map,List.length_append,Nat.reduceAdd])|(refine ol_call1q (k:=64) ?_ rfl rfl (HM) rfl rfl (by first|rfl|(simp only [List.length_map,List.length_append]<;>rfl)) (by decide) ⟨0,List.mem_cons_self⟩ ?_;exact trS;simp only [St.set,List.map_cons,List.map_nil,List.length_map,List.length_append,Nat.reduceAdd])|(refine ow_call1qn (k:=64) ?_ dsS rfl rfl rfl (HM) rfl rfl ?_;exact trS;simp only [St.set,List.map_cons,List.map_nil,List.length_map,List.length_append,Nat.reduceAdd])|(refine ow_call1q (k:=64) ?_ dsS rfl rfl (HA) rfl rfl (by first|rfl|(simp only [List.length_map,List.length_append]<;>rfl)) (by decide) ?_;exact trS;simp only [St.set,List.map_cons,List.map_nil,List.length_map,List.length_append,Nat.reduceAdd])|(refine ol_call1q (k:=64) ?_ rfl rfl (HA) rfl rfl (by first|rfl|(simp only [List.length_map,List.length_append]<;>rfl)) (by decide) ⟨0,List.mem_cons_self⟩ ?_;exact trS;simp only [St.set,List.map_cons,List.map_nil,List.length_map,List.length_append,Nat.reduceAdd])|(refine ow_call1qn (k:=64) ?_ dsS rfl rfl rfl (HA) rfl rfl ?_;exact trS;simp only [St.set,List.map_cons,List.map_nil,List.length_map,List.length_append,Nat.reduceAdd])))

 (refine rtS Tryd.results33 ?_;exact ⟨_,_,.inl (toZ_own (by simp [lk,St.mem])),by simp,rfl⟩)
theorem compRI_c (hD:DB 1048576 D) (hV:descP D) (hr:D[i]?=some r) (he:es.length=i) (hs:0≤st∧st≤200000000):AC Tryd.prog 33 [.d (encD D),.d (iD (i:Nat)),.d (iD st),.d (encI es)] none (fun r' _=>r'=.own 46 3 ((cmpR r st es).map insC)):=by
 have G:GoodR D i r:=good_of hV hr
 have hk:=G.kd
 have h10:r.kind=1∨r.kind=2∨r.kind=3∨r.kind=4∨r.kind=5∨r.kind=6∨r.kind=7∨r.kind=8∨r.kind=9∨r.kind=10:=by omega
 rcases h10 with h|h|h|h|h|h|h|h|h|h
 ·exact compRI_1 hD hV hr he hs h
 ·exact compRI_2 hD hV hr he hs h
 ·exact compRI_3 hD hV hr he hs h
 ·exact compRI_4 hD hV hr he hs h
 ·exact compRI_5 hD hV hr he hs h
 ·exact compRI_6 hD hV hr he hs h
 ·exact compRI_7 hD hV hr he hs h
 ·exact compRI_8 hD hV hr he hs h
 ·exact compRI_9 hD hV hr he hs h
 ·exact compRI_10 hD hV hr he hs h
end
end Go.Proofs.YtaammoodcgfhpaaDoor.Eng
