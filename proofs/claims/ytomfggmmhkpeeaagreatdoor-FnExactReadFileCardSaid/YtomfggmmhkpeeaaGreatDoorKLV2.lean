/-
 Counting values; arguments whose blocks are known: plain.

 The laws' helpers: the size of a value, equal values.
-/
import Derived.Test.YtomfggmmhkpeeaaGreatDoorKL
import Derived.Test.YtomfggmmhkpeeaaGreatDoorKP2
import Derived.Test.YtomfggmmhkpeeaaGreatDoorKM13
import Derived.Test.YtomfggmmhkpeeaaGreatDoorKE5
set_option linter.unusedSimpArgs false
set_option linter.unusedVariables false
set_option linter.defProp false
set_option maxRecDepth 100000
set_option maxHeartbeats 4000000
namespace Go.Proofs.YtomfggmmhkpeeaaGreatDoor.Eng
open Go Go.RowKit

abbrev encVL (vs:List V):D:=.sl 3 (encVs vs)
def cntVs:List V→Nat
 | []=>0
 | v::vs=>1+totV v+cntVs vs
theorem cntVs_eq:∀ vs:List V,cntVs vs=vs.length+totVs vs
 | []=>by rw [totVs];rfl
 | v::vs=>by rw [cntVs,totVs,cntVs_eq vs,List.length_cons];omega
theorem cntVs_append (l:List V) (v:V):cntVs (l++[v])=cntVs l+(1+totV v):=by
 induction l with
 | nil=>simp [cntVs]
 | cons x l ih=>simp only [List.cons_append,cntVs,ih];omega
theorem cntVs_take {l:List V}{j:Nat} (h:j<l.length):cntVs (l.take (j+1))=cntVs (l.take j)+(1+totV (l[j]'h)):=by
 rw [List.take_succ_eq_append_getElem h,cntVs_append]
theorem cntVs_le {l:List V} (j:Nat):cntVs (l.take j)≤cntVs l:=by
 induction l generalizing j with
 | nil=>simp
 | cons r l ih=>
  cases j with
  | zero=>simp [cntVs]
  | succ j=>simp only [List.take_succ_cons,cntVs];have:=ih j;omega
theorem repL_iv {C:CellR}{p:Nat→Prop}{x:D}{xs ys:List D}{us:List Value} (h:∀ us,RepL C xs us→RepL C ys us) (k:RepL C (.iv p x::xs) us):RepL C (x::ys) us:=by
 unfold RepL at k ⊢
 obtain ⟨u,us',h1,h2,h3⟩:=k
 exact ⟨u,us',h1,RepD.mono (fun _ _ _ hc=>hc.1) _ _ (repD_iv.1 h2),h _ h3⟩
theorem IvL.aggL {cs ds:List D} (hh:∀ (C:CellR) us,RepL C cs us→RepL C ds us) {xs ys:List A} (h:IvL xs ys):IvL (.d (.agg cs)::xs) (.d (.agg ds)::ys):=fun C bx β us k=>by
 unfold RepAL at k ⊢
 obtain ⟨u,us',h1,h2,h3⟩:=k
 refine ⟨u,us',h1,?_,h _ _ _ _ h3⟩
 unfold RepA at h2 ⊢
 unfold RepD at h2 ⊢
 obtain ⟨vs,e1,e2,e3⟩:=h2
 exact ⟨vs,e1,hh _ _ e2,e3⟩
theorem IvL.agg3 {p q r:Nat→Prop}{x y z:D}{xs ys:List A} (h:IvL xs ys):IvL (.d (.agg [.iv p x,.iv q y,.iv r z])::xs) (.d (.agg [x,y,z])::ys):=IvL.aggL (fun _ _ k=>repL_iv (fun _ k=>repL_iv (fun _ k=>repL_iv (fun _ k=>k) k) k) k) h
theorem IvL.aggV {p q:Nat→Prop}{n:Int}{x y:D}{xs ys:List A} (h:IvL xs ys):IvL (.d (.agg [iD n,.iv p x,.iv q y])::xs) (.d (.agg [iD n,x,y])::ys):=IvL.aggL (fun _ _ k=>repL_semv (fun _ k=>repL_iv (fun _ k=>repL_iv (fun _ k=>k) k) k) k) h
end Go.Proofs.YtomfggmmhkpeeaaGreatDoor.Eng
namespace Go.Proofs.YtomfggmmhkpeeaaGreatDoor.Eng
open Go Go.RowKit

mutual
def lftV:Int→V→Int
 | x,.mk _ bs vs=>if lft x bs.length<0 then -1 else if lft x bs.length - vs.length<0 then -1 else subV (lft x bs.length - vs.length) vs
def subV:Int→List V→Int
 | x,[]=>x
 | x,v::vs=>if lftV x v<0 then -1 else subV (lftV x v) vs
end
mutual
theorem lftV_le:∀ {x:Int}{v:V},0≤x→-1≤lftV x v∧lftV x v≤x
 | x,.mk n bs vs,h=>by
  unfold lftV
  have a1:=lft_le (x:=x) (n:=bs.length) h
  split
  ·omega
  ·split
   ·omega
   ·have:=subV_le (x:=lft x bs.length - vs.length) (vs:=vs) (by omega)
    omega
theorem subV_le:∀ {x:Int}{vs:List V},0≤x→-1≤subV x vs∧subV x vs≤x
 | x,[],h=>by unfold subV;omega
 | x,v::vs,h=>by
  unfold subV
  have:=lftV_le (v:=v) h
  split
  ·omega
  ·have:=subV_le (x:=lftV x v) (vs:=vs) (by omega)
   omega
end
mutual
theorem lftV_ge:∀ {x:Int}{v:V},0≤x→x≤1048576→0≤lftV x v→VB 1048576 v
 | x,.mk n bs vs,h,hx,k=>by
  unfold lftV at k
  unfold VB
  have a1:=lft_le (x:=x) (n:=bs.length) h
  split at k
  ·omega
  ·rename_i h1
   have a2:=lft_ge (x:=x) (n:=bs.length) (by omega)
   split at k
   ·omega
   ·exact ⟨by omega,by omega,subV_ge (x:=lft x bs.length - vs.length) (by omega) (by omega) k⟩
theorem subV_ge:∀ {x:Int}{vs:List V},0≤x→x≤1048576→0≤subV x vs→VBs 1048576 vs
 | x,[],_,_,_=>by unfold VBs;trivial
 | x,v::vs,h,hx,k=>by
  unfold subV at k
  unfold VBs
  have a1:=lftV_le (v:=v) h
  split at k
  ·omega
  ·exact ⟨lftV_ge h hx (by omega),subV_ge (x:=lftV x v) (by omega) (by omega) k⟩
end




private def tyF:=ai (ai tg25 (ai tg27 tg29)) (ai tg3 (ai tg4 tg5))
theorem eqValueS_of {l:List V} (hl:l.length≤1048576) (H:∀ v∈l,AC Tryz.prog 13 [.d (encV v),.d (encV v)] none (fun r' _=>r'=.d (bD true))):AC Tryz.prog 36 [.d (encVL l),.d (encVL l)] none (fun r' _=>r'=.d (bD true)):=by
 have hel:=encVs_len l
 unfold encVL
 rw [encVs_eq]
 refine cbS Tryz.func36 rfl Tryz.call36 Tryz.ntmps36 fun en hsz hks hk0=>?_;refine enS ?_
 refine walkS ?_
 refine aw_condS rfl (fun hc=>?_) (fun hc=>?_)
 ·exact absurd rfl hc
 ·refine walkS ?_
  refine aw_loopS [0,1,4] (fun _ _=>[]) (fun _ k=>[(5,.d (iD (k:Nat)))]) [] (fun _ _=>[]) [] (fun _ _=>[]) (fun k:Nat=>k≤l.length) (fun k=>l.length - k) (0) hks (fun _=>rfl) (Nat.zero_le _) wkS ?_;intro x hx;refine headS ?_
  refine walkS ?_
  refine aw_condS rfl (fun hk=>?_) (fun hk=>?_)
  ·have hrx:=H (l[x]'(by omega)) (List.getElem_mem _)
   (repeat (first|refine walkS ?_|refine cS (hrx) ?_))
   refine aw_condS rfl (fun hne=>?_) (fun hne=>?_)
   ·(first|exact absurd trivial hne|exact absurd rfl hne|(cases hne;done)|omega|exact absurd hne (by decide)|(simp at hne;done))
   ·refine walkS ?_
    refine ⟨x+1,by omega,by omega,?_⟩
    exact wkS
  ·refine walkS ?_
   (refine rtS Tryz.results36 ?_;exact ⟨_,_,.inl ⟨rfl,rfl⟩,List.nodup_nil,rfl⟩)
theorem eqValue_of {n:Int}{bs:List UInt8}{vs:List V} (hb:bs.length≤1048576) (hv:vs.length≤1048576) (H:∀ v∈vs,AC Tryz.prog 13 [.d (encV v),.d (encV v)] none (fun r' _=>r'=.d (bD true))):AC Tryz.prog 13 [.d (encV (.mk n bs vs)),.d (encV (.mk n bs vs))] none (fun r' _=>r'=.d (bD true)):=by
 have HS:=eqValueS_of hv H
 rw [encV_mk]
 refine cbS Tryz.func13 rfl Tryz.call13 Tryz.ntmps13 fun en hsz hks hk0=>?_;refine enS ?_
 refine walkS ?_
 refine aw_condS rfl (fun h0=>?_) (fun h0=>?_)
 ·exact absurd rfl h0
 (repeat (first|refine walkS ?_|refine cS (eqByteS_c hb) ?_))
 refine aw_condS rfl (fun h1=>?_) (fun h1=>?_)
 ·(first|exact absurd trivial h1|exact absurd rfl h1|(cases h1;done)|omega|exact absurd h1 (by decide)|(simp at h1;done))
 (repeat (first|refine walkS ?_|refine cS (HS) ?_))
 refine aw_condS rfl (fun h2=>?_) (fun h2=>?_)
 ·(first|exact absurd trivial h2|exact absurd rfl h2|(cases h2;done)|omega|exact absurd h2 (by decide)|(simp at h2;done))
 ·refine walkS ?_
  (refine rtS Tryz.results13 ?_;exact ⟨_,_,.inl ⟨rfl,rfl⟩,List.nodup_nil,rfl⟩)
theorem eqValue_all:∀ N:Nat,∀ {v:V},SizeOf.sizeOf v≤N→VB 1048576 v→AC Tryz.prog 13 [.d (encV v),.d (encV v)] none (fun r' _=>r'=.d (bD true))
 | 0,.mk n bs vs,h,_=>by simp only [V.mk.sizeOf_spec] at h;omega
 | N+1,.mk n bs vs,h,hv=>by
  unfold VB at hv
  exact eqValue_of hv.1 hv.2.1 fun v hvm=>eqValue_all N (by have:=List.sizeOf_lt_of_mem hvm;simp only [V.mk.sizeOf_spec] at h;omega) (hv.2.2.el v hvm)
theorem eqValue_c {v:V} (hv:VB 1048576 v):AC Tryz.prog 13 [.d (encV v),.d (encV v)] none (fun r' _=>r'=.d (bD true)):=eqValue_all _ (Nat.le_refl _) hv
end Go.Proofs.YtomfggmmhkpeeaaGreatDoor.Eng
