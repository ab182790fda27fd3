/-
 Contracts: the shape of a rule, twice.

 Contract: the names of a sequence.

 Contract: validSequence.

 Contract: validChoice.
-/
import Derived.Test.YtaammoodcgfhpaaDoorKA
set_option linter.unusedSimpArgs false
set_option linter.unusedVariables false
set_option linter.defProp false
set_option maxRecDepth 100000
set_option maxHeartbeats 4000000
namespace Go.Proofs.YtaammoodcgfhpaaDoor
open Go.RowKit

theorem plainI_TFFF0 (r:R) (w:World) :
  Calls Tryd.prog 80 #[.agg #[.string r.name,.int .i64 r.kind,.int .i64 r.size,.bool r.little,.slice r.ba r.bytes.length r.bc,.slice r.na r.names.length r.nc,.slice r.ta r.tags.length r.tc,.slice r.ka r.kids.length r.kc],.bool true,.bool false,.bool false,.bool false,.int .i64 (0)] w fun e w'=>e=.returned (.bool (shapeB r.toRuleD true false false false (0)))∧Below w.heap.size w w':=by
 by_cases hb:r.bytes.length=0
 ·have ehb:((r.bytes.length:Int)==0)=true:=by simp [hb]
  by_cases hn:r.names.length=0
  ·have ehn:((r.names.length:Int)==0)=true:=by simp [hn]
   by_cases ht:r.tags.length=0
   ·have eht:((r.tags.length:Int)==0)=true:=by simp [ht]
    by_cases hk:(r.kids.length:Int)=(0)
    ·have ek:((r.kids.length:Int)==(0))=true:=beq_iff_eq.2 hk
     have HH:Hid (shapeB r.toRuleD true false false false (0)=true):=by unfold Hid shapeB;rw [ek];simp [hb,hn,ht]
     clear hb hn ht hk
     go_enter Tryd.func80,Tryd.ntmps80
     go_wp2_with fail
     go_ret
     exact ⟨ret_bool HH.out.symm,(Since.b belS)⟩
    ·have ek:((r.kids.length:Int)==(0))=false:=beq_eq_false_iff_ne.2 hk
     have HH:Hid (shapeB r.toRuleD true false false false (0)=false):=by unfold Hid shapeB;rw [ek];simp
     clear hb hn ht hk
     go_enter Tryd.func80,Tryd.ntmps80
     go_wp2_with fail
     go_ret
     exact ⟨ret_bool HH.out.symm,(Since.b belS)⟩
   ·have eht:((r.tags.length:Int)==0)=false:=by simp [ht]
    have HH:Hid (shapeB r.toRuleD true false false false (0)=false):=by unfold Hid;simp [shapeB,hb,hn,ht]
    clear hb hn ht
    go_enter Tryd.func80,Tryd.ntmps80
    go_wp2_with fail
    go_ret
    exact ⟨ret_bool HH.out.symm,(Since.b belS)⟩
  ·have ehn:((r.names.length:Int)==0)=false:=by simp [hn]
   have HH:Hid (shapeB r.toRuleD true false false false (0)=false):=by unfold Hid;simp [shapeB,hb,hn]
   clear hb hn
   go_enter Tryd.func80,Tryd.ntmps80
   go_wp2_with fail
   go_ret
   exact ⟨ret_bool HH.out.symm,(Since.b belS)⟩
 ·have ehb:((r.bytes.length:Int)==0)=false:=by simp [hb]
  have HH:Hid (shapeB r.toRuleD true false false false (0)=false):=by unfold Hid;simp [shapeB,hb]
  clear hb
  go_enter Tryd.func80,Tryd.ntmps80
  go_wp2_with fail
  go_ret
  exact ⟨ret_bool HH.out.symm,(Since.b belS)⟩

theorem plainI_FTFF0 (r:R) (w:World) :
  Calls Tryd.prog 80 #[.agg #[.string r.name,.int .i64 r.kind,.int .i64 r.size,.bool r.little,.slice r.ba r.bytes.length r.bc,.slice r.na r.names.length r.nc,.slice r.ta r.tags.length r.tc,.slice r.ka r.kids.length r.kc],.bool false,.bool true,.bool false,.bool false,.int .i64 (0)] w fun e w'=>e=.returned (.bool (shapeB r.toRuleD false true false false (0)))∧Below w.heap.size w w':=by
 by_cases hz:r.size=0
 ·have ehz:(r.size==0)=true:=by simp [hz]
  by_cases hn:r.names.length=0
  ·have ehn:((r.names.length:Int)==0)=true:=by simp [hn]
   by_cases ht:r.tags.length=0
   ·have eht:((r.tags.length:Int)==0)=true:=by simp [ht]
    by_cases hk:(r.kids.length:Int)=(0)
    ·have ek:((r.kids.length:Int)==(0))=true:=beq_iff_eq.2 hk
     have HH:Hid (shapeB r.toRuleD false true false false (0)=true):=by unfold Hid shapeB;rw [ek];simp [hz,hn,ht]
     clear hz hn ht hk
     go_enter Tryd.func80,Tryd.ntmps80
     go_wp2_with fail
     go_ret
     exact ⟨ret_bool HH.out.symm,(Since.b belS)⟩
    ·have ek:((r.kids.length:Int)==(0))=false:=beq_eq_false_iff_ne.2 hk
     have HH:Hid (shapeB r.toRuleD false true false false (0)=false):=by unfold Hid shapeB;rw [ek];simp
     clear hz hn ht hk
     go_enter Tryd.func80,Tryd.ntmps80
     go_wp2_with fail
     go_ret
     exact ⟨ret_bool HH.out.symm,(Since.b belS)⟩
   ·have eht:((r.tags.length:Int)==0)=false:=by simp [ht]
    have HH:Hid (shapeB r.toRuleD false true false false (0)=false):=by unfold Hid;simp [shapeB,hz,hn,ht]
    clear hz hn ht
    go_enter Tryd.func80,Tryd.ntmps80
    go_wp2_with fail
    go_ret
    exact ⟨ret_bool HH.out.symm,(Since.b belS)⟩
  ·have ehn:((r.names.length:Int)==0)=false:=by simp [hn]
   have HH:Hid (shapeB r.toRuleD false true false false (0)=false):=by unfold Hid;simp [shapeB,hz,hn]
   clear hz hn
   go_enter Tryd.func80,Tryd.ntmps80
   go_wp2_with fail
   go_ret
   exact ⟨ret_bool HH.out.symm,(Since.b belS)⟩
 ·have ehz:(r.size==0)=false:=by simp [hz]
  have HH:Hid (shapeB r.toRuleD false true false false (0)=false):=by unfold Hid;simp [shapeB,hz]
  clear hz
  go_enter Tryd.func80,Tryd.ntmps80
  go_wp2_with fail
  go_ret
  exact ⟨ret_bool HH.out.symm,(Since.b belS)⟩

theorem plainI_FFFF1 (r:R) (w:World) :
  Calls Tryd.prog 80 #[.agg #[.string r.name,.int .i64 r.kind,.int .i64 r.size,.bool r.little,.slice r.ba r.bytes.length r.bc,.slice r.na r.names.length r.nc,.slice r.ta r.tags.length r.tc,.slice r.ka r.kids.length r.kc],.bool false,.bool false,.bool false,.bool false,.int .i64 (1)] w fun e w'=>e=.returned (.bool (shapeB r.toRuleD false false false false (1)))∧Below w.heap.size w w':=by
 by_cases hz:r.size=0
 ·have ehz:(r.size==0)=true:=by simp [hz]
  by_cases hb:r.bytes.length=0
  ·have ehb:((r.bytes.length:Int)==0)=true:=by simp [hb]
   by_cases hn:r.names.length=0
   ·have ehn:((r.names.length:Int)==0)=true:=by simp [hn]
    by_cases ht:r.tags.length=0
    ·have eht:((r.tags.length:Int)==0)=true:=by simp [ht]
     by_cases hk:(r.kids.length:Int)=(1)
     ·have ek:((r.kids.length:Int)==(1))=true:=beq_iff_eq.2 hk
      have HH:Hid (shapeB r.toRuleD false false false false (1)=true):=by unfold Hid shapeB;rw [ek];simp [hz,hb,hn,ht]
      clear hz hb hn ht hk
      go_enter Tryd.func80,Tryd.ntmps80
      go_wp2_with fail
      go_ret
      exact ⟨ret_bool HH.out.symm,(Since.b belS)⟩
     ·have ek:((r.kids.length:Int)==(1))=false:=beq_eq_false_iff_ne.2 hk
      have HH:Hid (shapeB r.toRuleD false false false false (1)=false):=by unfold Hid shapeB;rw [ek];simp
      clear hz hb hn ht hk
      go_enter Tryd.func80,Tryd.ntmps80
      go_wp2_with fail
      go_ret
      exact ⟨ret_bool HH.out.symm,(Since.b belS)⟩
    ·have eht:((r.tags.length:Int)==0)=false:=by simp [ht]
     have HH:Hid (shapeB r.toRuleD false false false false (1)=false):=by unfold Hid;simp [shapeB,hz,hb,hn,ht]
     clear hz hb hn ht
     go_enter Tryd.func80,Tryd.ntmps80
     go_wp2_with fail
     go_ret
     exact ⟨ret_bool HH.out.symm,(Since.b belS)⟩
   ·have ehn:((r.names.length:Int)==0)=false:=by simp [hn]
    have HH:Hid (shapeB r.toRuleD false false false false (1)=false):=by unfold Hid;simp [shapeB,hz,hb,hn]
    clear hz hb hn
    go_enter Tryd.func80,Tryd.ntmps80
    go_wp2_with fail
    go_ret
    exact ⟨ret_bool HH.out.symm,(Since.b belS)⟩
  ·have ehb:((r.bytes.length:Int)==0)=false:=by simp [hb]
   have HH:Hid (shapeB r.toRuleD false false false false (1)=false):=by unfold Hid;simp [shapeB,hz,hb]
   clear hz hb
   go_enter Tryd.func80,Tryd.ntmps80
   go_wp2_with fail
   go_ret
   exact ⟨ret_bool HH.out.symm,(Since.b belS)⟩
 ·have ehz:(r.size==0)=false:=by simp [hz]
  have HH:Hid (shapeB r.toRuleD false false false false (1)=false):=by unfold Hid;simp [shapeB,hz]
  clear hz
  go_enter Tryd.func80,Tryd.ntmps80
  go_wp2_with fail
  go_ret
  exact ⟨ret_bool HH.out.symm,(Since.b belS)⟩

theorem plainI_FFFF2 (r:R) (w:World) :
  Calls Tryd.prog 80 #[.agg #[.string r.name,.int .i64 r.kind,.int .i64 r.size,.bool r.little,.slice r.ba r.bytes.length r.bc,.slice r.na r.names.length r.nc,.slice r.ta r.tags.length r.tc,.slice r.ka r.kids.length r.kc],.bool false,.bool false,.bool false,.bool false,.int .i64 (2)] w fun e w'=>e=.returned (.bool (shapeB r.toRuleD false false false false (2)))∧Below w.heap.size w w':=by
 by_cases hz:r.size=0
 ·have ehz:(r.size==0)=true:=by simp [hz]
  by_cases hb:r.bytes.length=0
  ·have ehb:((r.bytes.length:Int)==0)=true:=by simp [hb]
   by_cases hn:r.names.length=0
   ·have ehn:((r.names.length:Int)==0)=true:=by simp [hn]
    by_cases ht:r.tags.length=0
    ·have eht:((r.tags.length:Int)==0)=true:=by simp [ht]
     by_cases hk:(r.kids.length:Int)=(2)
     ·have ek:((r.kids.length:Int)==(2))=true:=beq_iff_eq.2 hk
      have HH:Hid (shapeB r.toRuleD false false false false (2)=true):=by unfold Hid shapeB;rw [ek];simp [hz,hb,hn,ht]
      clear hz hb hn ht hk
      go_enter Tryd.func80,Tryd.ntmps80
      go_wp2_with fail
      go_ret
      exact ⟨ret_bool HH.out.symm,(Since.b belS)⟩
     ·have ek:((r.kids.length:Int)==(2))=false:=beq_eq_false_iff_ne.2 hk
      have HH:Hid (shapeB r.toRuleD false false false false (2)=false):=by unfold Hid shapeB;rw [ek];simp
      clear hz hb hn ht hk
      go_enter Tryd.func80,Tryd.ntmps80
      go_wp2_with fail
      go_ret
      exact ⟨ret_bool HH.out.symm,(Since.b belS)⟩
    ·have eht:((r.tags.length:Int)==0)=false:=by simp [ht]
     have HH:Hid (shapeB r.toRuleD false false false false (2)=false):=by unfold Hid;simp [shapeB,hz,hb,hn,ht]
     clear hz hb hn ht
     go_enter Tryd.func80,Tryd.ntmps80
     go_wp2_with fail
     go_ret
     exact ⟨ret_bool HH.out.symm,(Since.b belS)⟩
   ·have ehn:((r.names.length:Int)==0)=false:=by simp [hn]
    have HH:Hid (shapeB r.toRuleD false false false false (2)=false):=by unfold Hid;simp [shapeB,hz,hb,hn]
    clear hz hb hn
    go_enter Tryd.func80,Tryd.ntmps80
    go_wp2_with fail
    go_ret
    exact ⟨ret_bool HH.out.symm,(Since.b belS)⟩
  ·have ehb:((r.bytes.length:Int)==0)=false:=by simp [hb]
   have HH:Hid (shapeB r.toRuleD false false false false (2)=false):=by unfold Hid;simp [shapeB,hz,hb]
   clear hz hb
   go_enter Tryd.func80,Tryd.ntmps80
   go_wp2_with fail
   go_ret
   exact ⟨ret_bool HH.out.symm,(Since.b belS)⟩
 ·have ehz:(r.size==0)=false:=by simp [hz]
  have HH:Hid (shapeB r.toRuleD false false false false (2)=false):=by unfold Hid;simp [shapeB,hz]
  clear hz
  go_enter Tryd.func80,Tryd.ntmps80
  go_wp2_with fail
  go_ret
  exact ⟨ret_bool HH.out.symm,(Since.b belS)⟩

theorem plainI_FFTFm (r:R) (w:World) :
  Calls Tryd.prog 80 #[.agg #[.string r.name,.int .i64 r.kind,.int .i64 r.size,.bool r.little,.slice r.ba r.bytes.length r.bc,.slice r.na r.names.length r.nc,.slice r.ta r.tags.length r.tc,.slice r.ka r.kids.length r.kc],.bool false,.bool false,.bool true,.bool false,.int .i64 (-1)] w fun e w'=>e=.returned (.bool (shapeB r.toRuleD false false true false (-1)))∧Below w.heap.size w w':=by
 by_cases hz:r.size=0
 ·have ehz:(r.size==0)=true:=by simp [hz]
  by_cases hb:r.bytes.length=0
  ·have ehb:((r.bytes.length:Int)==0)=true:=by simp [hb]
   by_cases ht:r.tags.length=0
   ·have eht:((r.tags.length:Int)==0)=true:=by simp [ht]
    have HH:Hid (shapeB r.toRuleD false false true false (-1)=true):=by unfold Hid;simp [shapeB,hz,hb,ht]
    clear hz hb ht
    go_enter Tryd.func80,Tryd.ntmps80
    go_wp2_with fail
    go_ret
    exact ⟨ret_bool HH.out.symm,(Since.b belS)⟩
   ·have eht:((r.tags.length:Int)==0)=false:=by simp [ht]
    have HH:Hid (shapeB r.toRuleD false false true false (-1)=false):=by unfold Hid;simp [shapeB,hz,hb,ht]
    clear hz hb ht
    go_enter Tryd.func80,Tryd.ntmps80
    go_wp2_with fail
    go_ret
    exact ⟨ret_bool HH.out.symm,(Since.b belS)⟩
  ·have ehb:((r.bytes.length:Int)==0)=false:=by simp [hb]
   have HH:Hid (shapeB r.toRuleD false false true false (-1)=false):=by unfold Hid;simp [shapeB,hz,hb]
   clear hz hb
   go_enter Tryd.func80,Tryd.ntmps80
   go_wp2_with fail
   go_ret
   exact ⟨ret_bool HH.out.symm,(Since.b belS)⟩
 ·have ehz:(r.size==0)=false:=by simp [hz]
  have HH:Hid (shapeB r.toRuleD false false true false (-1)=false):=by unfold Hid;simp [shapeB,hz]
  clear hz
  go_enter Tryd.func80,Tryd.ntmps80
  go_wp2_with fail
  go_ret
  exact ⟨ret_bool HH.out.symm,(Since.b belS)⟩

theorem plainI_FFFTn (r:R) (w:World) (n:Int) (hn0:0≤n) :
  Calls Tryd.prog 80 #[.agg #[.string r.name,.int .i64 r.kind,.int .i64 r.size,.bool r.little,.slice r.ba r.bytes.length r.bc,.slice r.na r.names.length r.nc,.slice r.ta r.tags.length r.tc,.slice r.ka r.kids.length r.kc],.bool false,.bool false,.bool false,.bool true,.int .i64 n] w fun e w'=>e=.returned (.bool (shapeB r.toRuleD false false false true n))∧Below w.heap.size w w':=by
 have dn:decide (n<0)=false:=by simp;omega
 by_cases hz:r.size=0
 ·have ehz:(r.size==0)=true:=by simp [hz]
  by_cases hb:r.bytes.length=0
  ·have ehb:((r.bytes.length:Int)==0)=true:=by simp [hb]
   by_cases hn:r.names.length=0
   ·have ehn:((r.names.length:Int)==0)=true:=by simp [hn]
    by_cases hk:(r.kids.length:Int)=n
    ·have ek:((r.kids.length:Int)==n)=true:=beq_iff_eq.2 hk
     have HH:Hid (shapeB r.toRuleD false false false true n=true):=by unfold Hid shapeB;rw [ek,show decide (n<0)=false from dn];simp [hz,hb,hn]
     clear hz hb hn hk
     go_enter Tryd.func80,Tryd.ntmps80
     go_wp2_with fail
     go_ret
     exact ⟨ret_bool HH.out.symm,(Since.b belS)⟩
    ·have ek:((r.kids.length:Int)==n)=false:=beq_eq_false_iff_ne.2 hk
     have HH:Hid (shapeB r.toRuleD false false false true n=false):=by unfold Hid shapeB;rw [ek,show decide (n<0)=false from dn];simp
     clear hz hb hn hk
     go_enter Tryd.func80,Tryd.ntmps80
     go_wp2_with fail
     go_ret
     exact ⟨ret_bool HH.out.symm,(Since.b belS)⟩
   ·have ehn:((r.names.length:Int)==0)=false:=by simp [hn]
    have HH:Hid (shapeB r.toRuleD false false false true n=false):=by unfold Hid;simp [shapeB,hz,hb,hn]
    clear hz hb hn
    go_enter Tryd.func80,Tryd.ntmps80
    go_wp2_with fail
    go_ret
    exact ⟨ret_bool HH.out.symm,(Since.b belS)⟩
  ·have ehb:((r.bytes.length:Int)==0)=false:=by simp [hb]
   have HH:Hid (shapeB r.toRuleD false false false true n=false):=by unfold Hid;simp [shapeB,hz,hb]
   clear hz hb
   go_enter Tryd.func80,Tryd.ntmps80
   go_wp2_with fail
   go_ret
   exact ⟨ret_bool HH.out.symm,(Since.b belS)⟩
 ·have ehz:(r.size==0)=false:=by simp [hz]
  have HH:Hid (shapeB r.toRuleD false false false true n=false):=by unfold Hid;simp [shapeB,hz]
  clear hz
  go_enter Tryd.func80,Tryd.ntmps80
  go_wp2_with fail
  go_ret
  exact ⟨ret_bool HH.out.symm,(Since.b belS)⟩

end Go.Proofs.YtaammoodcgfhpaaDoor
namespace Go.Proofs.YtaammoodcgfhpaaDoor
open Go.RowKit
theorem take_map_at {α β:Type} (f:α→β) (l:List α) (k:Nat):∀ i v,((l.take k).map f)[i]?=some v→(l.map f)[0+i]?=some v:=by
 intro i v h
 simp only [List.getElem?_map,List.getElem?_take] at h
 simp only [List.getElem?_map,Nat.zero_add]
 split at h
 ·exact h
 ·simp at h
theorem l4Names_any {w0 w:World}{lo:Nat} (hs:Since lo w0 w) {a:Option Addr}{cap M:Nat}{l:List ByteArray} (hr:Row w0 lo a (l.map .string)) (hM:M≤1048576) (hl:l.length≤M) (hn:∀ s∈l,s.size≤M) (hcap:l.length≤cap∧cap≤maxLen) :
  Calls Tryd.prog 78 #[.slice a l.length cap] w fun e w'=>e=.returned (.bool (namesB l))∧Below w.heap.size w w':=by
 obtain ⟨hcap1,hcap2⟩:=hcap
 unfold maxLen at hcap2
 go_enter Tryd.func78,Tryd.ntmps78
 go_wp2_with fail
 go_loopw [3] (fun i wr=>∃ k:Nat,k≤l.length∧(∀ j (hj:j<l.length),j<k→isName l[j]=true∧hasText (l.take j) l[j]=false)∧i=.int .i64 k∧Since w.heap.size w wr) (fun i _=>l.length - (intOf i).toNat)
 case atStart=>exact ⟨0,Nat.zero_le _,fun j _ h=>absurd h (Nat.not_lt_zero j),rfl,Since.self w⟩
 case round=>
  obtain ⟨k,hk,hall,rfl,hbel⟩:=hrel
  have Hall:=Lib.hid hall
  clear hall
  have hsr:Since lo w0 wr:=hs.trans0 hbel
  by_cases hlt:k<l.length
  ·obtain ⟨b,o,rfl,hb,hb1,hb2,hc⟩:=hr.pos hsr (by simp;omega)
   have c0:=hc k _ (map_at _ hlt)
   have hsz:=hn l[k] (List.getElem_mem hlt)
   have Hrow:Hid (Row w0 lo (some ⟨b,o,none⟩) ((l.take k).map .string)):=Row.sub 0 hr (take_map_at _ _ _)
   clear hc hr hn
   cases hN:isName l[k]
   ·have Hb:=Lib.hid (namesB_bad hlt (fun h=>by rw [hN] at h;simp at h))
    go_wp2_with fail
    go_quiet ((go_at_call 68;exact quietE (isNameS_any _ _ (by unfold maxLen;omega))))
    go_wp2_with fail
    go_ret
    exact ⟨ret_bool Hb.out.symm,(Since.b belS)⟩
   ·cases hT:hasText (l.take k) l[k]
    ·have Hn:=Lib.hid (And.intro hN hT)
     go_wp2_with fail
     go_quiet (first|(go_at_call 68;exact quietE (isNameS_any _ _ (by unfold maxLen;omega)))|(go_at_call 89;exact quietE (containsS_n (by exact (Since.drewN hsr _)) (l.take k) Hrow.out (by rw [List.length_take];unfold maxLen;omega) _ k (by rw [List.length_take];omega))))
     go_wp2_with fail
     go_roundw
     case rel=>exact ⟨k+1,by omega,upto_succ (P:=fun j hj=>isName l[j]=true∧hasText (l.take j) l[j]=false) (fun _=>Hn.out) Hall.out,by go_num,hbel.drewN _⟩
     case measure=>simp [intOf];omega
    ·have Hb:=Lib.hid (namesB_bad hlt (fun h=>by rw [hT] at h;simp at h))
     go_wp2_with fail
     go_quiet (first|(go_at_call 68;exact quietE (isNameS_any _ _ (by unfold maxLen;omega)))|(go_at_call 89;exact quietE (containsS_n (by exact (Since.drewN hsr _)) (l.take k) Hrow.out (by rw [List.length_take];unfold maxLen;omega) _ k (by rw [List.length_take];omega))))
     go_wp2_with fail
     go_ret
     exact ⟨ret_bool Hb.out.symm,(Since.b belS)⟩
  ·go_wp2_with (go_at_call 30;refine (l1In_any _ _ _ _).mono ?_;rintro e w1 ⟨rfl,rfl⟩)
   go_ret
   exact ⟨ret_bool (namesB_end hlt Hall.out).symm,hbel.b⟩
end Go.Proofs.YtaammoodcgfhpaaDoor
namespace Go.Proofs.YtaammoodcgfhpaaDoor
open Go.RowKit
theorem validSeq_any {w0 w:World}{lo:Nat} (hs:Since lo w0 w) {M:Nat} (hM:M≤1048576) (r:R) (hr:r.Ok w0 lo M) :
  Calls Tryd.prog 82 #[.agg #[.string r.name,.int .i64 r.kind,.int .i64 r.size,.bool r.little,.slice r.ba r.bytes.length r.bc,.slice r.na r.names.length r.nc,.slice r.ta r.tags.length r.tc,.slice r.ka r.kids.length r.kc]] w fun e w'=>e=.returned (.bool (seqB r.toRuleD))∧Below w.heap.size w w':=by
 have hln:=hr.ln
 have hlk:=hr.lk
 cases h1:shapeB r.toRuleD false false true false (-1)
 ·have Hb:=Lib.hid (seqB_1 h1)
  go_enter Tryd.func82,Tryd.ntmps82
  go_wp2_with (go_at_call 80;refine (plainI_FFTFm r _).mono ?_;rintro e w1 ⟨rfl,hb1⟩;obtain ⟨hc1,hf1⟩:=bcell hb1)
  go_ret
  exact ⟨ret_bool Hb.out.symm,(Since.b belS)⟩
 ·by_cases h2:r.kids.length=r.names.length
  ·have e1:((r.kids.length:Int)==(r.names.length:Int))=true:=by rw [beq_iff_eq];omega
   have e2:((r.kids.length:Int) != (r.names.length:Int))=false:=by rw [bne_eq_false_iff_eq];omega
   have H1:=Lib.hid h1
   have H2:=Lib.hid h2
   by_cases h3:1≤r.kids.length∧r.kids.length≤8
   ·obtain ⟨h31,h32⟩:=h3
    obtain ⟨nb,no,hna,hnb0,_,_,hnc⟩:=hr.names.pos hs (by simp;omega)
    have Hna:=Lib.hid hna
    clear h2 hna hnc
    go_enter Tryd.func82,Tryd.ntmps82
    go_wp2_with (first|(go_at_call 80;refine (plainI_FFTFm r _).mono ?_;rintro e w1 ⟨rfl,hb1⟩;obtain ⟨hc1,hf1⟩:=bcell hb1;have hna:=Hna.out)|(go_at_call 36;first|(refine (inRange_t _ _ _ _ ?_).mono ?_;omega;rintro e w1 ⟨rfl,rfl⟩)|(refine (inRange_f _ _ _ _ ?_).mono ?_;omega;rintro e w1 ⟨rfl,rfl⟩)|(refine (inRange_any _ _ _ _).mono ?_;rintro e w1 ⟨rfl,rfl⟩)))
    have hsz1:w.heap.size+1≤w1.heap.size:=by have:=hb1.size;simpa using this
    have hbel1:Since w.heap.size w w1:=((Since.self w).alloc _).call hb1
    have cn1:w1.cell? ⟨w.heap.size,5,none⟩=some (.slice (some ⟨nb,no,none⟩) r.names.length r.nc):=by rw [hc1 _ _ (by simp)];simp [go_sem,hna]
    clear hc1 hf1 hb1 h1
    go_loopw [27] (fun i wr=>∃ k:Nat,k≤r.names.length∧(∀ j (hj:j<r.names.length),j<k→isName r.names[j]=true∧hasText (r.names.take j) r.names[j]=false)∧i=.int .i64 k∧wr.cell? ⟨w.heap.size,5,none⟩=some (.slice (some ⟨nb,no,none⟩) r.names.length r.nc)∧w.heap.size+1≤wr.heap.size∧Since w.heap.size w wr) (fun i _=>r.names.length - (intOf i).toNat)
    case atStart=>exact ⟨0,Nat.zero_le _,fun j _ h=>absurd h (Nat.not_lt_zero j),rfl,cn1,hsz1,hbel1⟩
    case round=>
     clear hsz1 hbel1 cn1
     obtain ⟨k,hk,hall,rfl,cn,hsz,hbel⟩:=hrel
     have Hall:=Lib.hid hall
     clear hall
     have hsr:Since lo w0 wr:=hs.trans0 hbel
     have hlt0:w.heap.size<wr.heap.size:=hsz
     by_cases hlt:k<r.names.length
     ·have hrow:=hr.names
      rw [hna] at hrow
      obtain ⟨nb',no',hq,_,hx1,hx2,hc⟩:=hrow.pos hsr (by simp;omega)
      simp only [Option.some.injEq,Addr.mk.injEq,and_true] at hq
      obtain ⟨rfl,rfl⟩:=hq
      have c0:=hc k _ (map_at _ hlt)
      have hsz2:=hr.nm r.names[k] (List.getElem_mem hlt)
      have hcap1:=hr.cn.1
      have hcap2:=hr.cn.2
      unfold maxLen at hcap2
      have Hrow:Hid (Row w0 lo (some ⟨nb,no,none⟩) ((r.names.take k).map .string)):=Row.sub 0 hrow (take_map_at _ _ _)
      clear hc hrow
      have hN0:isName r.names[k]=true∨isName r.names[k]=false:=by cases isName r.names[k]<;>simp
      have hT0:hasText (r.names.take k) r.names[k]=true∨hasText (r.names.take k) r.names[k]=false:=by cases hasText (r.names.take k) r.names[k]<;>simp
      rcases hN0 with hN|hN
      ·rcases hT0 with hT|hT
       ·have Hb:=Lib.hid (seqB_3 (r:=r.toRuleD) (namesB_bad hlt (fun h=>by rw [hT] at h;simp at h)))
        go_wp2_with (first|(go_at_call 71;refine (isNameI_any _ _ (by unfold maxLen;omega)).mono ?_;rintro e w1 ⟨rfl,hb1⟩;obtain ⟨hc1,hf1⟩:=bcell hb1)|(go_at_call 90;refine (containsI_n sinS (r.names.take k) Hrow.out (by rw [List.length_take];unfold maxLen;omega) _ k (by rw [List.length_take];omega)).mono ?_;rintro e w1 ⟨rfl,rfl⟩))
        go_ret
        exact ⟨ret_bool Hb.out.symm,(Since.b belS)⟩
       ·have Hn:=Lib.hid (And.intro hN hT)
        go_wp2_with (first|(go_at_call 71;refine (isNameI_any _ _ (by unfold maxLen;omega)).mono ?_;rintro e w1 ⟨rfl,hb1⟩;obtain ⟨hc1,hf1⟩:=bcell hb1)|(go_at_call 90;refine (containsI_n sinS (r.names.take k) Hrow.out (by rw [List.length_take];unfold maxLen;omega) _ k (by rw [List.length_take];omega)).mono ?_;rintro e w1 ⟨rfl,rfl⟩))
        have cnf:=(hb1.cell (p:=⟨w.heap.size,5,none⟩) (by omega)).trans cn
        have hszf:=hb1.size
        go_roundw
        case rel=>exact ⟨k+1,by omega,upto_succ (P:=fun j hj=>isName r.names[j]=true∧hasText (r.names.take j) r.names[j]=false) (fun _=>Hn.out) Hall.out,by go_num,cnf,by omega,hbel.call hb1⟩
        case measure=>simp [intOf];omega
      ·have Hb:=Lib.hid (seqB_3 (r:=r.toRuleD) (namesB_bad hlt (fun h=>by rw [hN] at h;simp at h)))
       go_wp2_with (first|(go_at_call 71;refine (isNameI_any _ _ (by unfold maxLen;omega)).mono ?_;rintro e w1 ⟨rfl,hb1⟩;obtain ⟨hc1,hf1⟩:=bcell hb1)|(go_at_call 90;refine (containsI_n sinS (r.names.take k) Hrow.out (by rw [List.length_take];unfold maxLen;omega) _ k (by rw [List.length_take];omega)).mono ?_;rintro e w1 ⟨rfl,rfl⟩))
       go_ret
       exact ⟨ret_bool Hb.out.symm,(Since.b belS)⟩
     ·have Hv:=Lib.hid (seqB_4 (r:=r.toRuleD) H1.out H2.out ((namesB_end hlt Hall.out).trans (by have:=H2.out;simp;omega)))
      go_wp2_with fail
      go_ret
      exact ⟨ret_bool Hv.out.symm,(Since.b belS)⟩
   ·have Hb:=Lib.hid (seqB_3 (r:=r.toRuleD) (namesB_len fun h=>h3 (by rw [h2];exact h)))
    clear h2
    go_enter Tryd.func82,Tryd.ntmps82
    go_wp2_with (first|(go_at_call 80;refine (plainI_FFTFm r _).mono ?_;rintro e w1 ⟨rfl,hb1⟩;obtain ⟨hc1,hf1⟩:=bcell hb1)|(go_at_call 36;first|(refine (inRange_t _ _ _ _ ?_).mono ?_;omega;rintro e w1 ⟨rfl,rfl⟩)|(refine (inRange_f _ _ _ _ ?_).mono ?_;omega;rintro e w1 ⟨rfl,rfl⟩)|(refine (inRange_any _ _ _ _).mono ?_;rintro e w1 ⟨rfl,rfl⟩)))
    go_ret
    exact ⟨ret_bool Hb.out.symm,(Since.b belS)⟩
  ·have e1:((r.kids.length:Int)==(r.names.length:Int))=false:=by rw [beq_eq_false_iff_ne];omega
   have e2:((r.kids.length:Int) != (r.names.length:Int))=true:=by rw [bne_iff_ne];omega
   have Hb:=Lib.hid (seqB_2 h2)
   clear h2
   go_enter Tryd.func82,Tryd.ntmps82
   go_wp2_with (go_at_call 80;refine (plainI_FFTFm r _).mono ?_;rintro e w1 ⟨rfl,hb1⟩;obtain ⟨hc1,hf1⟩:=bcell hb1)
   go_ret
   exact ⟨ret_bool Hb.out.symm,(Since.b belS)⟩
end Go.Proofs.YtaammoodcgfhpaaDoor
namespace Go.Proofs.YtaammoodcgfhpaaDoor
open Go.RowKit
theorem choB_1 {D:List RuleD}{r:RuleD} (h:shapeB r false false false true ((r.tags.length:Int)+1)=false):choB D r=false:=by
 rcases shapeB_cho h with h|h
 ·simp [choB,h]
 ·simp [choB,tagsB_false (D:=D) (r:=r) fun hp=>h hp.1]
theorem choB_2 {D:List RuleD}{r:RuleD} (h:¬tagsP D r):choB D r=false:=by simp [choB,tagsB_false h]
theorem choB_3 {D:List RuleD}{r:RuleD} (h:shapeB r false false false true ((r.tags.length:Int)+1)=true) (h2:tagsP D r):choB D r=true:=by
 simp [choB,(shapeB_cho_t h).1,tagsB_true h2]
theorem Row.i64 {w0 w:World}{lo:Nat} (hs:Since lo w0 w) {b o:Nat}{l:List Int} (h:Row w0 lo (some ⟨b,o,none⟩) (l.map i64v)) (j:Nat) (hj:j<l.length):w.cell? ⟨b,o+j,none⟩=some (.int .i64 l[j]):=by
 obtain ⟨b',o',ha,_,_,_,hc⟩:=h.pos hs (by simp;omega)
 simp only [Option.some.injEq,Addr.mk.injEq,and_true] at ha
 obtain ⟨rfl,rfl⟩:=ha
 exact hc j _ (map_at _ hj)

theorem validCho_any {w0 w:World}{lo:Nat} (hs:Since lo w0 w) {a:Option Addr}{cap M:Nat}{rs:List R} (hD:Ds w0 lo M a cap rs) (hM:M≤1048576) (r:R) (hr:r.Ok w0 lo M) :
  Calls Tryd.prog 83 #[.agg #[.slice a rs.length cap],.agg #[.string r.name,.int .i64 r.kind,.int .i64 r.size,.bool r.little,.slice r.ba r.bytes.length r.bc,.slice r.na r.names.length r.nc,.slice r.ta r.tags.length r.tc,.slice r.ka r.kids.length r.kc]] w fun e w'=>e=.returned (.bool (choB (rs.map R.toRuleD) r.toRuleD))∧Below w.heap.size w w':=by
 have hlt:=hr.lt
 have hlk:=hr.lk
 have hnn:(0:Int)≤(r.tags.length:Int)+1:=by omega
 cases h1:shapeB r.toRuleD false false false true ((r.tags.length:Int)+1)
 ·have Hb:=Lib.hid (choB_1 (D:=rs.map R.toRuleD) h1)
  go_enter Tryd.func83,Tryd.ntmps83
  go_wp2_with (go_at_call 80;refine (plainI_FFFTn r _ _ hnn).mono ?_;rintro e w1 ⟨rfl,hb1⟩;obtain ⟨hc1,hf1⟩:=bcell hb1)
  go_ret
  exact ⟨ret_bool Hb.out.symm,(Since.b belS)⟩
 ·have H1:=Lib.hid h1
  have H2:=Lib.hid (shapeB_cho_t h1).2
  by_cases h3:1≤r.tags.length∧r.tags.length≤8
  ·obtain ⟨h31,h32⟩:=h3
   have g1:0<r.kids.length:=by have:=H2.out;omega
   obtain ⟨kb,ko,hka,hkb0,_,_,_⟩:=hr.kids.pos hs (by simp;omega)
   obtain ⟨tb,to,hta,htb0,_,_,_⟩:=hr.tags.pos hs (by simp;omega)
   have hkr:=hr.kids
   have htr:=hr.tags
   rw [hka] at hkr
   rw [hta] at htr
   have Hka:=Lib.hid hka
   have Hta:=Lib.hid hta
   have K0:Hid (∀ wx,Since lo w0 wx→wx.cell? ⟨kb,ko,none⟩=some (.int .i64 (kid0 r.toRuleD))):=by
    intro wx hx
    have:=Row.i64 hx hkr 0 g1
    have hk0:=kids0 (r:=r.toRuleD) g1
    rw [List.getElem?_eq_getElem g1] at hk0
    rw [Option.some.inj hk0] at this
    exact this
   have Hlim:=Lib.hid (limD_ge (rs.map R.toRuleD) (kid0 r.toRuleD))
   have Hlim2:=limD_le (rs.map R.toRuleD) (kid0 r.toRuleD)
   clear hka hta hkr
   go_enter Tryd.func83,Tryd.ntmps83
   go_wp2_with (first|(go_at_call 80;refine (plainI_FFFTn r _ _ hnn).mono ?_;rintro e w1 ⟨rfl,hb1⟩;obtain ⟨hc1,hf1⟩:=bcell hb1;have hka:=Hka.out;have hta:=Hta.out;have K0w:=K0.out w1 sinS)|(go_at_call 36;first|(refine (inRange_t _ _ _ _ ?_).mono ?_;omega;rintro e w1 ⟨rfl,rfl⟩)|(refine (inRange_f _ _ _ _ ?_).mono ?_;omega;rintro e w1 ⟨rfl,rfl⟩)|(refine (inRange_any _ _ _ _).mono ?_;rintro e w1 ⟨rfl,rfl⟩))|(go_at_call 81;refine (limI_any sinS hD hM _).mono ?_;rintro e w2 ⟨rfl,hb2⟩;obtain ⟨hc2,hf2⟩:=bcell hb2))
   have hsz1:w.heap.size+2≤w1.heap.size:=by have:=hb1.size;simpa using this
   have hbel1:Since w.heap.size w w1:=(((Since.self w).alloc _).alloc _).call hb1
   have cd1:w1.cell? ⟨w.heap.size,0,none⟩=some (.slice a rs.length cap):=by rw [hc1 _ _ (by simp;try omega)];simp [go_sem]
   have ct1:w1.cell? ⟨w.heap.size+1,6,none⟩=some (.slice (some ⟨tb,to,none⟩) r.tags.length r.tc):=by rw [hc1 _ _ (by simp;try omega)];simp [go_sem,hta]
   have ck1:w1.cell? ⟨w.heap.size+1,7,none⟩=some (.slice (some ⟨kb,ko,none⟩) r.kids.length r.kc):=by rw [hc1 _ _ (by simp;try omega)];simp [go_sem,hka]
   clear hc1 hf1 hb1 h1
   have q1:=Ext.cells cd1
   have q2:=Ext.cells ck1
   have q3:=Ext.cells K0w
   have hs1:Since lo w0 w1:=hs.trans0 hbel1
   refine wp_region_ext (by kernel_rfl) (by kernel_rfl) ?_;(repeat (go_big_quiet_step ((go_at_call 81;exact extE (limI_any (by exact hs1.ext _) hD hM _)))));refine wpQuiet_nil ?_;intro _ hw1;obtain ⟨nx,rfl⟩:=hw1
   have hsz2:w.heap.size+2≤nx.W.heap.size:=by have:=nx.h.size;omega
   have hbel2:Since w.heap.size w nx.W:=hbel1.ext nx
   have ct2:=nx.cell ct1
   clear q1 q2 q3 cd1 ct1 ck1 K0w hs1 hbel1 hsz1
   generalize nx.W=w2 at *
   clear nx
   generalize hL:limD (rs.map R.toRuleD) (kid0 r.toRuleD)=L at *
   have HL:=Lib.hid hL
   clear hL
   have hs2:Since lo w0 w2:=hs.trans0 hbel2
   go_wp2_with fail
   go_loop [31] (fun i=>∃ k:Nat,k≤r.tags.length∧(∀ j (hj:j<r.tags.length),j<k→tagOk L r.tags j hj)∧i=.int .i64 k) (fun i=>r.tags.length - (intOf i).toNat)
   case atStart=>exact ⟨0,Nat.zero_le _,fun j _ h=>absurd h (Nat.not_lt_zero j),rfl⟩
   case round=>
    obtain ⟨k,hk,hall,rfl⟩:=hrel
    have Hall:=Lib.hid hall
    clear hall
    by_cases hlt2:k<r.tags.length
    ·have ctk:=Row.i64 hs2 htr k hlt2
     by_cases hrg:0≤r.tags[k]∧r.tags[k]≤L
     ·by_cases hz:0<k
      ·have ctj:=Row.i64 hs2 htr (k - 1) (by omega)
       by_cases hcmp:r.tags[k - 1]<r.tags[k]
       ·have dcmp:decide (r.tags[k]≤r.tags[k - 1])=false:=by simp;omega
        have Hok:Hid (tagOk L r.tags k hlt2):=⟨hrg,fun _=>hcmp⟩
        go_wp2_with (go_at_call 36;refine (inRange_t _ _ _ _ hrg).mono ?_;rintro e w1 ⟨rfl,rfl⟩)
        go_round
        case rel=>exact ⟨k+1,by omega,upto_succ (P:=fun j hj=>tagOk L r.tags j hj) (fun _=>Hok.out) Hall.out,by go_num⟩
        case measure=>simp [intOf];omega
       ·have dcmp:decide (r.tags[k]≤r.tags[k - 1])=true:=by simp;omega
        have Hb:=Lib.hid (choB_2 (D:=rs.map R.toRuleD) (r:=r.toRuleD) fun h=>by have:=(h.2.2 k hlt2).2 hz;exact hcmp this)
        go_wp2_with (go_at_call 36;refine (inRange_t _ _ _ _ hrg).mono ?_;rintro e w1 ⟨rfl,rfl⟩)
        go_ret
        exact ⟨ret_bool Hb.out.symm,hbel2.b⟩
      ·have dk:decide (0<k)=false:=by simp;omega
       have Hok:Hid (tagOk L r.tags k hlt2):=⟨hrg,fun h=>absurd h hz⟩
       go_wp2_with (go_at_call 36;refine (inRange_t _ _ _ _ hrg).mono ?_;rintro e w1 ⟨rfl,rfl⟩)
       go_round
       case rel=>exact ⟨k+1,by omega,upto_succ (P:=fun j hj=>tagOk L r.tags j hj) (fun _=>Hok.out) Hall.out,by go_num⟩
       case measure=>simp [intOf];omega
     ·have Hb:=Lib.hid (choB_2 (D:=rs.map R.toRuleD) (r:=r.toRuleD) fun h=>by have:=(h.2.2 k hlt2).1;rw [HL.out] at this;exact hrg this)
      go_wp2_with (go_at_call 36;refine (inRange_f _ _ _ _ hrg).mono ?_;rintro e w1 ⟨rfl,rfl⟩)
      go_ret
      exact ⟨ret_bool Hb.out.symm,hbel2.b⟩
    ·have hpos:decide (0<L)=true:=by
      have h0:=(Hall.out 0 h31 (by omega)).1
      have:=Hlim.out
      simp
      omega
     have Hv:=Lib.hid (choB_3 (D:=rs.map R.toRuleD) (r:=r.toRuleD) H1.out ⟨H2.out,⟨h31,h32⟩,fun j hj=>by rw [HL.out];exact Hall.out j hj (by omega)⟩)
     go_wp2_with fail
     go_ret
     exact ⟨ret_bool Hv.out.symm,hbel2.b⟩
  ·have Hb:=Lib.hid (choB_2 (D:=rs.map R.toRuleD) (r:=r.toRuleD) fun h=>h3 h.2.1)
   go_enter Tryd.func83,Tryd.ntmps83
   go_wp2_with (first|(go_at_call 80;refine (plainI_FFFTn r _ _ hnn).mono ?_;rintro e w1 ⟨rfl,hb1⟩;obtain ⟨hc1,hf1⟩:=bcell hb1)|(go_at_call 36;first|(refine (inRange_t _ _ _ _ ?_).mono ?_;omega;rintro e w1 ⟨rfl,rfl⟩)|(refine (inRange_f _ _ _ _ ?_).mono ?_;omega;rintro e w1 ⟨rfl,rfl⟩)|(refine (inRange_any _ _ _ _).mono ?_;rintro e w1 ⟨rfl,rfl⟩)))
   go_ret
   exact ⟨ret_bool Hb.out.symm,(Since.b belS)⟩
end Go.Proofs.YtaammoodcgfhpaaDoor
