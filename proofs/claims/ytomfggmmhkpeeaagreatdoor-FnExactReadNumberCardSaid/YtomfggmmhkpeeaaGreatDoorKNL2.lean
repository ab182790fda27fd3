/-
 Paths are split, parts are located (the reference).
-/
import Derived.Test.YtomfggmmhkpeeaaGreatDoorKNL1
import Derived.Test.YtomfggmmhkpeeaaGreatDoorKNW1
import Derived.Test.YtomfggmmhkpeeaaGreatDoorKN10
import Derived.Test.YtomfggmmhkpeeaaGreatDoorKNI2
import Derived.Test.YtomfggmmhkpeeaaGreatDoorKE5
set_option linter.unusedSimpArgs false
set_option linter.unusedVariables false
set_option linter.defProp false
set_option maxRecDepth 100000
set_option maxHeartbeats 4000000
namespace Go.Proofs.YtomfggmmhkpeeaaGreatDoor.Eng
open Go Go.RowKit

theorem all_st {t:List ByteArray}:t.all stepP=true↔∀ j (hj:j<t.length),stepP t[j]=true:=by
 rw [List.all_eq_true]
 refine ⟨fun h j hj=>h _ (List.getElem_mem _),fun h x hx=>?_⟩
 obtain ⟨j,hj,rfl⟩:=List.getElem_of_mem hx
 exact h j hj
theorem splP_yes {s:ByteArray}{t:List ByteArray} (h0:1≤s.size) (h:s[0]?=some 47) (ht:splT s 47=ByteArray.empty::t) (ha:∀ j (hj:j<t.length),stepP t[j]=true):splP s=(t,true):=by
 unfold splP
 rw [if_neg (by omega),ht,if_pos ⟨h,all_st.2 ha⟩]
 rfl
theorem splP_bad {s:ByteArray}{t:List ByteArray} (h0:1≤s.size) (ht:splT s 47=ByteArray.empty::t) {j:Nat} (hj:j<t.length) (hb:stepP t[j]=false):splP s=([],false):=by
 unfold splP
 rw [if_neg (by omega),ht,if_neg]
 rintro ⟨_,h⟩
 have:stepP t[j]=true:=all_st.1 h j hj
 rw [hb] at this
 cases this
theorem splP_no {s:ByteArray} (h0:1≤s.size) (h:s[0]?≠some 47):splP s=([],false):=by
 unfold splP
 rw [if_neg (by omega),if_neg (fun e=>h e.1)]
theorem splG_in {s:ByteArray}{c:UInt8}:∀ (n:Nat) (x:ByteArray),x∈(splG s c n).1→x.size≤s.size
 | 0,x,h=>by simp [splG] at h
 | n+1,x,h=>by
  rw [splG] at h
  split at h
  ·rcases List.mem_append.1 h with h|h
   ·exact splG_in n x h
   ·rw [List.mem_singleton] at h
    subst h
    rw [ByteArray.size_extract]
    omega
  ·exact splG_in n x h
theorem splT_in {s:ByteArray}{c:UInt8}{x:ByteArray} (h:x∈splT s c):x.size≤s.size:=by
 unfold splT at h
 rcases List.mem_append.1 h with h|h
 ·exact splG_in _ x h
 ·rw [List.mem_singleton] at h
  subst h
  rw [ByteArray.size_extract]
  omega
theorem splP_in {s:ByteArray}{x:ByteArray} (h:x∈(splP s).1):x.size≤s.size:=by
 unfold splP at h
 split at h
 ·simp at h
 ·split at h
  ·exact splT_in (List.mem_of_mem_drop h)
  ·simp at h
theorem splP_len (s:ByteArray):(splP s).1.length≤s.size+1:=by
 have:=splT_len s 47
 unfold splP
 split
 ·simp
 ·split
  ·simp only [List.length_drop];omega
  ·simp
theorem sliceV_S:∀ (P:Program) (t:TypeId) (b:List ByteArray) (lo hi mx:Option A) (K:A→Prop),sliceV P t (.d (encS b)) lo hi mx K=(mx=none∧withS (tyElem P t) fun e=>(∃ g,tyK P e=some (g,1))∧withS (bndA 0 lo) fun l=>withS (bndA b.length hi) fun h=>0≤l∧l≤h∧h≤b.length∧K (.d (encS ((b.drop l.toNat).take (h.toNat - l.toNat))))):=fun P t b lo hi mx K=>by
 rw [sliceV_of (elemsOf_S b)]
 simp only [List.length_map,encS,List.map_take,List.map_drop]
theorem wkS_nil {k:Nat}{e:TypeId} (b:Bool):wkD (.tup [encS [],bD b]) (.tup [.own k e 1 [],.d (bD b)]):=by
 simp only [wkD_tup,wkDL_cons,wkDL_nil,wkD_selfT,and_true]
 unfold encS wkD
 exact .inr ⟨_,_,_,rfl,dleLL_refl _⟩
private def tyF:=ai (ai tg86 (ai tg3 tg4)) (ai tg5 (ai tg9 sliceV_S))
theorem splPS_c {s:ByteArray} (hs:s.size≤1048576):AC Tryz.prog 134 [.d (sD s)] none (fun r' _=>r'=.d (.tup [encS (splP s).1,bD (splP s).2])):=by
 by_cases h0:s.size=0
 ·have z0:decide (s=⟨#[]⟩)=true:=decide_eq_true (emp_yes h0)
  have e:splP s=([],true):=by unfold splP;rw [if_pos h0]
  rw [e]
  refine cbS Tryz.func134 rfl Tryz.call134 Tryz.ntmps134 fun en hsz hks hk0=>?_;refine enS ?_
  (repeat (first|refine ctlS ?_|(refine ol_go ?_ (fun K1 hK1=>?_);exact trS;refine evS ?_;(try simp only [z0]);refine hK1 _ _ ?_;clear hK1 K1)|(refine ow_go ?_ dsS (fun K1 hK1=>?_);exact trS;refine evS ?_;(try simp only [z0]);refine hK1 _ ?_;clear hK1 K1)|refine skipS ?_|refine aw_condT rfl ?_|refine aw_condF rfl ?_))
  refine aw_ret ?_
  (simp only [Fin,Tryz.results134];refine finS ?_)
  exact ⟨_,[],.inr (.inl ⟨.tup [encS [],bD true],rfl,rfl,wkS_nil true⟩),List.nodup_nil,rfl⟩
 have z0:decide (s=⟨#[]⟩)=false:=emp_no (by omega)
 have HS:AC Tryz.prog 147 [.d (sD s),.d (uD 47)] none (fun r' _=>r'=.d (encS (splT s 47))):=(splS_c hs 47).ownd
 have n1:(!true)=false:=rfl
 have n2:(!false)=true:=rfl
 by_cases h1:s[0]?=some 47
 ·obtain ⟨t,ht,htl⟩:=splT_hit h1 (by omega)
  have hlen:=splT_len s 47
  rw [ht] at HS hlen
  simp only [List.length_cons] at hlen
  have i0:(ByteArray.empty::t)[0]?=some ByteArray.empty:=rfl
  have z1:decide (ByteArray.empty=⟨#[]⟩)=true:=decide_eq_true rfl
  have hsiz:=fun j (hj:j<t.length)=>splT_in (s:=s) (c:=47) (x:=t[j]) (by rw [ht];exact List.mem_cons_of_mem _ (List.getElem_mem _))
  refine cbS Tryz.func134 rfl Tryz.call134 Tryz.ntmps134 fun en hsz hks hk0=>?_;refine enS ?_
  (repeat (first|refine ctlS ?_|(refine ol_go ?_ (fun K1 hK1=>?_);exact trS;refine evS ?_;(try simp only [z0,z1,n1]);refine hK1 _ _ ?_;clear hK1 K1)|(refine ow_go ?_ dsS (fun K1 hK1=>?_);exact trS;refine evS ?_;(try simp only [z0,z1,n1]);refine hK1 _ ?_;clear hK1 K1)|refine skipS ?_|refine cS (HS) ?_|refine aw_condT rfl ?_|refine aw_condF rfl ?_))
  refine aw_loopS [2,3,4] (fun _ _=>[]) (fun _ k=>[(5,.d (iD ((k+1:Nat):Int)))]) [] (fun _ _=>[]) [] (fun _ _=>[]) (fun k=>k≤t.length∧∀ j (hj:j<t.length),j<k→stepP t[j]=true) (fun k=>t.length - k) (0) hks (fun _=>rfl) ⟨Nat.zero_le _,fun _ _ h=>absurd h (Nat.not_lt_zero _)⟩ wkS ?_;intro x hx;refine headS ?_
  obtain ⟨hx1,hx2⟩:=hx
  refine walkS ?_
  refine aw_condS rfl (fun hk=>?_) (fun hk=>?_)
  ·have hxl:x<t.length:=by first|omega|(simp only [List.length_cons] at hk;omega)
   have i1:(ByteArray.empty::t)[x+1]?=some t[x]:=by rw [List.getElem?_cons_succ];exact List.getElem?_eq_getElem hxl
   have e1:IntKind.i64.wrap (((x+1:Nat):Int)+1)=((x+1+1:Nat):Int):=by rw [wrap_small (by omega) (by omega)];omega
   have HT:=stepSp_c (s:=t[x]) (by have:=hsiz x hxl;omega)
   cases hb:stepP t[x]
   ·rw [hb] at HT
    rw [splP_bad (by omega) ht hxl hb]
    (repeat (first|refine ctlS ?_|(refine ol_go ?_ (fun K1 hK1=>?_);exact trS;refine evS ?_;(try simp only [n2]);refine hK1 _ _ ?_;clear hK1 K1)|(refine ow_go ?_ dsS (fun K1 hK1=>?_);exact trS;refine evS ?_;(try simp only [n2]);refine hK1 _ ?_;clear hK1 K1)|refine skipS ?_|refine cS (HT) ?_|refine aw_condT rfl ?_|refine aw_condF rfl ?_))
    refine aw_ret ?_
    (simp only [Fin,Tryz.results134];refine finS ?_)
    exact ⟨_,[],.inr (.inl ⟨.tup [encS [],bD false],rfl,rfl,wkS_nil false⟩),List.nodup_nil,rfl⟩
   ·rw [hb] at HT
    (repeat (first|refine ctlS ?_|(refine ol_go ?_ (fun K1 hK1=>?_);exact trS;refine evS ?_;(try simp only [n1,e1]);refine hK1 _ _ ?_;clear hK1 K1)|(refine ow_go ?_ dsS (fun K1 hK1=>?_);exact trS;refine evS ?_;(try simp only [n1,e1]);refine hK1 _ ?_;clear hK1 K1)|refine skipS ?_|refine cS (HT) ?_|refine aw_condT rfl ?_|refine aw_condF rfl ?_))
    refine ⟨x+1,⟨by omega,fun j hj hlt=>?_⟩,by omega,?_⟩
    ·by_cases e:j=x
     ·subst e;exact hb
     ·exact hx2 j hj (by omega)
    exact wkS
  ·have hxl:x=t.length:=by first|omega|(simp only [List.length_cons] at hk;omega)
   subst hxl
   rw [splP_yes (by omega) h1 ht fun j hj=>hx2 j hj hj]
   have w1:decide ((1:Int)<(((ByteArray.empty::t).length:Nat):Int))=true:=decide_eq_true (by simp only [List.length_cons];omega)
   have w2:decide ((1:Int)<((t.length+1:Nat):Int))=true:=decide_eq_true (by omega)
   have tk:List.take (t.length+1 - 1) t=t:=List.take_of_length_le (by omega)
   (repeat (first|refine ctlS ?_|(refine ol_go ?_ (fun K1 hK1=>?_);exact trS;refine evS ?_;(try simp only [w1,w2,tk]);refine hK1 _ _ ?_;clear hK1 K1)|(refine ow_go ?_ dsS (fun K1 hK1=>?_);exact trS;refine evS ?_;(try simp only [w1,w2,tk]);refine hK1 _ ?_;clear hK1 K1)|refine skipS ?_|refine aw_condT rfl ?_|refine aw_condF rfl ?_))
   (refine rtS Tryz.results134 ?_;exact ⟨_,_,.inl ⟨rfl,rfl⟩,List.nodup_nil,rfl⟩)
 ·obtain ⟨x,t,ht,hxe⟩:=splT_no h1 (by omega)
  rw [ht] at HS
  rw [splP_no (by omega) h1]
  have i0:(x::t)[0]?=some x:=rfl
  have z1:decide (x=⟨#[]⟩)=false:=decide_eq_false hxe
  refine cbS Tryz.func134 rfl Tryz.call134 Tryz.ntmps134 fun en hsz hks hk0=>?_;refine enS ?_
  (repeat (first|refine ctlS ?_|(refine ol_go ?_ (fun K1 hK1=>?_);exact trS;refine evS ?_;(try simp only [z0,z1,n2]);refine hK1 _ _ ?_;clear hK1 K1)|(refine ow_go ?_ dsS (fun K1 hK1=>?_);exact trS;refine evS ?_;(try simp only [z0,z1,n2]);refine hK1 _ ?_;clear hK1 K1)|refine skipS ?_|refine cS (HS) ?_|refine aw_condT rfl ?_|refine aw_condF rfl ?_))
  refine aw_ret ?_
  (simp only [Fin,Tryz.results134];refine finS ?_)
  exact ⟨_,[],.inr (.inl ⟨.tup [encS [],bD false],rfl,rfl,wkS_nil false⟩),List.nodup_nil,rfl⟩
end Go.Proofs.YtomfggmmhkpeeaaGreatDoor.Eng
