/-
 What the laws read again: values.
-/
import Derived.Test.YtomfggmmhkpeeaaGreatDoorKNS9
import Derived.Test.YtomfggmmhkpeeaaGreatDoorKM13
set_option linter.unusedSimpArgs false
set_option linter.unusedVariables false
set_option linter.defProp false
set_option maxRecDepth 100000
set_option maxHeartbeats 4000000
namespace Go.Proofs.YtomfggmmhkpeeaaGreatDoor.Eng
open Go Go.RowKit

theorem mkVs_get {l:List V}{k:Int}{j:Nat}{n:Int}{bs:List UInt8}{vs:List V} (h:j<l.length) (hv:l[j]=.mk n bs vs):(mkVs l k)[j]?=some (.mk (k+cntVs (l.take j)) (mkB (k+cntVs (l.take j)+1) bs.length) (mkVs vs (k+cntVs (l.take j)+1+bs.length))):=by
 have e:l=l.take j++l[j]::l.drop (j+1):=by rw [←List.drop_eq_getElem_cons h,List.take_append_drop]
 have e2:mkVs l k=mkVs (l.take j) k++mkVs (l[j]::l.drop (j+1)) (k+cntVs (l.take j)):=by
  conv=>lhs;rw [e]
  exact mkVs_append _ _ _
 have hl:(mkVs (l.take j) k).length=j:=by rw [mkVs_len,List.length_take];omega
 rw [e2,hv,List.getElem?_append_right (by omega),hl,Nat.sub_self,mkVs_cons,List.getElem?_cons_zero,mkV,setN]
private def tyF:=ai (ai tg25 tg27) (ai tg29 (ai tg3 tg5))
theorem heldVs_of {l:List V}{k:Nat} (hk:k+cntVs l≤4611686018427387904) (H:∀ n bs vs,V.mk n bs vs∈l→∀ k:Int,0≤k→k+cntVs vs≤4611686018427387904→AC Tryz.prog 41 [.d (encVL (mkVs vs k)),.d (iD k)] none (fun r' _=>r'=.d (iD (k+cntVs vs)))):AC Tryz.prog 41 [.d (encVL (mkVs l (k:Nat))),.d (iD (k:Nat))] none (fun r' _=>r'=.d (iD ((k+cntVs l:Nat):Int))):=by
 have hll:l.length≤cntVs l:=by rw [cntVs_eq];omega
 have hlen:(mkVs l (k:Nat)).length=l.length:=mkVs_len _ _
 unfold encVL
 rw [encVs_eq (mkVs l (k:Nat))]
 refine cbS Tryz.func41 rfl Tryz.call41 Tryz.ntmps41 fun en hsz hks hk0=>?_;refine enS ?_
 refine walkS ?_
 refine aw_loopS [0,4] (fun _ _=>[]) (fun _ j=>[(1,.d (iD ((k+cntVs (l.take j):Nat):Int))),(5,.d (iD (j:Nat)))]) [] (fun _ _=>[]) [] (fun _ _=>[]) (fun j=>j≤l.length) (fun j=>l.length - j) (0) hks (fun _=>rfl) (Nat.zero_le _) wkS ?_;intro x hx;refine headS ?_
 have hxl:x≤l.length:=hx
 refine walkS ?_
 refine aw_condS rfl (fun hc=>?_) (fun hc=>?_)
 ·have hx':x<l.length:=by omega
  have hmem:l[x]∈l:=List.getElem_mem hx'
  have ht:=cntVs_take hx'
  have hle:=cntVs_le (l:=l) (x+1)
  obtain ⟨n,bs,vs,hv⟩:∃ n bs vs,l[x]=V.mk n bs vs:=by
   cases hv:l[x] with
   | mk n bs vs=>exact ⟨n,bs,vs,rfl⟩
  have hi:=mkVs_get (k:=(k:Nat)) hx' hv
  rw [hv] at ht hmem
  rw [totV] at ht
  have hce:=cntVs_eq vs
  have hcK:(k:Int)+cntVs (l.take x)=((k+cntVs (l.take x):Nat):Int):=by omega
  rw [hcK] at hi
  generalize hK:k+cntVs (l.take x)=K at *
  have HB:=heldB_c (k:=(K:Int)+1) (n:=bs.length) (by omega) (by omega)
  have HV:=H n bs vs hmem ((K:Int)+1+bs.length) (by omega) (by omega)
  have hfin:(K:Int)+1+bs.length+cntVs vs=((k+cntVs (l.take (x+1)):Nat):Int):=by omega
  (repeat (first|refine walkS ?_|refine cS (HB) ?_|refine cS (HV) ?_))
  refine aw_condS rfl (fun h1=>?_) (fun h1=>?_)
  ·simp at h1
  (repeat (first|refine walkS ?_|refine cS (HB) ?_|refine cS (HV) ?_))
  refine aw_condS rfl (fun h2=>?_) (fun h2=>?_)
  ·(first|exact absurd trivial h2|exact absurd rfl h2|(cases h2;done)|omega|exact absurd h2 (by decide)|(simp at h2;done))
  (repeat (first|refine walkS ?_|refine cS (HB) ?_|refine cS (HV) ?_))
  refine aw_condS rfl (fun h3=>?_) (fun h3=>?_)
  ·(first|exact absurd trivial h3|exact absurd rfl h3|(cases h3;done)|omega|exact absurd h3 (by decide)|(simp at h3;done))
  refine walkS ?_
  rw [hfin]
  refine ⟨x+1,by omega,by omega,?_⟩
  exact wkS
 ·obtain rfl:x=l.length:=by omega
  refine walkS ?_
  (refine rtS Tryz.results41 ?_;exact ⟨_,_,.inl ⟨rfl,rfl⟩,List.nodup_nil,(by rw [List.take_length])⟩)
theorem heldVs_all:∀ N:Nat,∀ {l:List V}{k:Int},SizeOf.sizeOf l≤N→0≤k→k+cntVs l≤4611686018427387904→AC Tryz.prog 41 [.d (encVL (mkVs l k)),.d (iD k)] none (fun r' _=>r'=.d (iD (k+cntVs l)))
 | 0,[],_,h,_,_=>by simp at h
 | 0,_::_,_,h,_,_=>by simp only [List.cons.sizeOf_spec] at h;omega
 | N+1,l,k,h,h0,hk=>by
  obtain ⟨m,rfl⟩:=Int.eq_ofNat_of_zero_le h0
  have:=heldVs_of (l:=l) (k:=m) (by omega) fun n bs vs hm k h1 h2=>heldVs_all N (by have:=List.sizeOf_lt_of_mem hm;simp only [V.mk.sizeOf_spec] at this;omega) h1 h2
  rw [show ((m+cntVs l:Nat):Int)=(m:Int)+cntVs l by omega] at this
  exact this
theorem heldVs_c {l:List V}{k:Int} (h0:0≤k) (hk:k+cntVs l≤4611686018427387904):AC Tryz.prog 41 [.d (encVL (mkVs l k)),.d (iD k)] none (fun r' _=>r'=.d (iD (k+cntVs l))):=heldVs_all _ (Nat.le_refl _) h0 hk
theorem heldV_c {v:V}{k:Int} (h0:0≤k) (hk:k+totV v≤4611686018427387904):AC Tryz.prog 19 [.d (encV (mkV v k)),.d (iD k)] none (fun r' _=>r'=.d (iD (k+totV v))):=by
 obtain ⟨n,bs,vs⟩:=v
 rw [totV] at hk ⊢
 have hce:=cntVs_eq vs
 rw [mkV,encV_mk]
 have HB:=heldB_c (k:=k) (n:=bs.length) h0 (by omega)
 have HV:=heldVs_c (l:=vs) (k:=k+bs.length) (by omega) (by omega)
 have hfin:k+(bs.length:Int)+cntVs vs=k+((bs.length+vs.length+totVs vs:Nat):Int):=by omega
 rw [←hfin]
 refine cbS Tryz.func19 rfl Tryz.call19 Tryz.ntmps19 fun en hsz hks hk0=>?_;refine enS ?_
 (repeat (first|refine walkS ?_|refine cS (HB) ?_|refine cS (HV) ?_))
 refine aw_condS rfl (fun h2=>?_) (fun h2=>?_)
 ·(first|exact absurd trivial h2|exact absurd rfl h2|(cases h2;done)|omega|exact absurd h2 (by decide)|(simp at h2;done))
 (repeat (first|refine walkS ?_|refine cS (HB) ?_|refine cS (HV) ?_))
 refine aw_condS rfl (fun h3=>?_) (fun h3=>?_)
 ·(first|exact absurd trivial h3|exact absurd rfl h3|(cases h3;done)|omega|exact absurd h3 (by decide)|(simp at h3;done))
 refine walkS ?_
 (refine rtS Tryz.results19 ?_;exact ⟨_,_,.inl ⟨rfl,rfl⟩,List.nodup_nil,rfl⟩)
end Go.Proofs.YtomfggmmhkpeeaaGreatDoor.Eng
