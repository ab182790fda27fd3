/-
 Contracts: the shape of a rule, twice.

 Contract: the tags of a choice (the reference).
-/
import Derived.Test.YtaammoodcgfhpaaDoorKA
set_option linter.unusedSimpArgs false
set_option linter.unusedVariables false
set_option linter.defProp false
set_option maxRecDepth 100000
set_option maxHeartbeats 4000000
namespace Go.Proofs.YtaammoodcgfhpaaDoor
open Go.RowKit

theorem shapeS_TFFF0 (r:R) (w:World) :
  Calls Tryd.prog 76 #[.agg #[.string r.name,.int .i64 r.kind,.int .i64 r.size,.bool r.little,.slice r.ba r.bytes.length r.bc,.slice r.na r.names.length r.nc,.slice r.ta r.tags.length r.tc,.slice r.ka r.kids.length r.kc],.bool true,.bool false,.bool false,.bool false,.int .i64 (0)] w fun e w'=>e=.returned (.bool (shapeL r.toRuleD true false false false (0)))∧Below w.heap.size w w':=by
 by_cases hb:r.bytes.length=0
 ·have ehb:((r.bytes.length:Int)==0)=true:=by simp [hb]
  by_cases hn:r.names.length=0
  ·have ehn:((r.names.length:Int)==0)=true:=by simp [hn]
   by_cases ht:r.tags.length=0
   ·have eht:((r.tags.length:Int)==0)=true:=by simp [ht]
    by_cases hk:(r.kids.length:Int)=(0)
    ·have ek:((r.kids.length:Int)==(0))=true:=beq_iff_eq.2 hk
     cases hl:r.little
     ·have HH:Hid (shapeL r.toRuleD true false false false (0)=true):=by unfold Hid shapeL shapeB;rw [ek];simp [hb,hn,ht,hl]
      clear hl hb hn ht hk
      go_enter Tryd.func76,Tryd.ntmps76
      go_wp2_with fail
      go_ret
      exact ⟨ret_bool HH.out.symm,(Since.b belS)⟩
     ·by_cases hK:r.kind=1
      ·have eK:(r.kind==1)=true:=by simp [hK]
       have HH:Hid (shapeL r.toRuleD true false false false (0)=true):=by unfold Hid shapeL shapeB;rw [ek];simp [hb,hn,ht,hl,hK]
       clear hl hK hb hn ht hk
       go_enter Tryd.func76,Tryd.ntmps76
       go_wp2_with fail
       go_ret
       exact ⟨ret_bool HH.out.symm,(Since.b belS)⟩
      ·have eK:(r.kind==1)=false:=by simp [hK]
       have HH:Hid (shapeL r.toRuleD true false false false (0)=false):=by unfold Hid shapeL shapeB;rw [ek];simp [hb,hn,ht,hl,hK]
       clear hl hK hb hn ht hk
       go_enter Tryd.func76,Tryd.ntmps76
       go_wp2_with fail
       go_ret
       exact ⟨ret_bool HH.out.symm,(Since.b belS)⟩
    ·have ek:((r.kids.length:Int)==(0))=false:=beq_eq_false_iff_ne.2 hk
     have HH:Hid (shapeL r.toRuleD true false false false (0)=false):=by unfold Hid shapeL shapeB;rw [ek];simp
     clear hb hn ht hk
     go_enter Tryd.func76,Tryd.ntmps76
     go_wp2_with fail
     go_ret
     exact ⟨ret_bool HH.out.symm,(Since.b belS)⟩
   ·have eht:((r.tags.length:Int)==0)=false:=by simp [ht]
    have HH:Hid (shapeL r.toRuleD true false false false (0)=false):=by unfold Hid;simp [shapeL,shapeB,hb,hn,ht]
    clear hb hn ht
    go_enter Tryd.func76,Tryd.ntmps76
    go_wp2_with fail
    go_ret
    exact ⟨ret_bool HH.out.symm,(Since.b belS)⟩
  ·have ehn:((r.names.length:Int)==0)=false:=by simp [hn]
   have HH:Hid (shapeL r.toRuleD true false false false (0)=false):=by unfold Hid;simp [shapeL,shapeB,hb,hn]
   clear hb hn
   go_enter Tryd.func76,Tryd.ntmps76
   go_wp2_with fail
   go_ret
   exact ⟨ret_bool HH.out.symm,(Since.b belS)⟩
 ·have ehb:((r.bytes.length:Int)==0)=false:=by simp [hb]
  have HH:Hid (shapeL r.toRuleD true false false false (0)=false):=by unfold Hid;simp [shapeL,shapeB,hb]
  clear hb
  go_enter Tryd.func76,Tryd.ntmps76
  go_wp2_with fail
  go_ret
  exact ⟨ret_bool HH.out.symm,(Since.b belS)⟩

theorem shapeS_FTFF0 (r:R) (w:World) :
  Calls Tryd.prog 76 #[.agg #[.string r.name,.int .i64 r.kind,.int .i64 r.size,.bool r.little,.slice r.ba r.bytes.length r.bc,.slice r.na r.names.length r.nc,.slice r.ta r.tags.length r.tc,.slice r.ka r.kids.length r.kc],.bool false,.bool true,.bool false,.bool false,.int .i64 (0)] w fun e w'=>e=.returned (.bool (shapeL r.toRuleD false true false false (0)))∧Below w.heap.size w w':=by
 by_cases hz:r.size=0
 ·have ehz:(r.size==0)=true:=by simp [hz]
  by_cases hn:r.names.length=0
  ·have ehn:((r.names.length:Int)==0)=true:=by simp [hn]
   by_cases ht:r.tags.length=0
   ·have eht:((r.tags.length:Int)==0)=true:=by simp [ht]
    by_cases hk:(r.kids.length:Int)=(0)
    ·have ek:((r.kids.length:Int)==(0))=true:=beq_iff_eq.2 hk
     cases hl:r.little
     ·have HH:Hid (shapeL r.toRuleD false true false false (0)=true):=by unfold Hid shapeL shapeB;rw [ek];simp [hz,hn,ht,hl]
      clear hl hz hn ht hk
      go_enter Tryd.func76,Tryd.ntmps76
      go_wp2_with fail
      go_ret
      exact ⟨ret_bool HH.out.symm,(Since.b belS)⟩
     ·by_cases hK:r.kind=1
      ·have eK:(r.kind==1)=true:=by simp [hK]
       have HH:Hid (shapeL r.toRuleD false true false false (0)=true):=by unfold Hid shapeL shapeB;rw [ek];simp [hz,hn,ht,hl,hK]
       clear hl hK hz hn ht hk
       go_enter Tryd.func76,Tryd.ntmps76
       go_wp2_with fail
       go_ret
       exact ⟨ret_bool HH.out.symm,(Since.b belS)⟩
      ·have eK:(r.kind==1)=false:=by simp [hK]
       have HH:Hid (shapeL r.toRuleD false true false false (0)=false):=by unfold Hid shapeL shapeB;rw [ek];simp [hz,hn,ht,hl,hK]
       clear hl hK hz hn ht hk
       go_enter Tryd.func76,Tryd.ntmps76
       go_wp2_with fail
       go_ret
       exact ⟨ret_bool HH.out.symm,(Since.b belS)⟩
    ·have ek:((r.kids.length:Int)==(0))=false:=beq_eq_false_iff_ne.2 hk
     have HH:Hid (shapeL r.toRuleD false true false false (0)=false):=by unfold Hid shapeL shapeB;rw [ek];simp
     clear hz hn ht hk
     go_enter Tryd.func76,Tryd.ntmps76
     go_wp2_with fail
     go_ret
     exact ⟨ret_bool HH.out.symm,(Since.b belS)⟩
   ·have eht:((r.tags.length:Int)==0)=false:=by simp [ht]
    have HH:Hid (shapeL r.toRuleD false true false false (0)=false):=by unfold Hid;simp [shapeL,shapeB,hz,hn,ht]
    clear hz hn ht
    go_enter Tryd.func76,Tryd.ntmps76
    go_wp2_with fail
    go_ret
    exact ⟨ret_bool HH.out.symm,(Since.b belS)⟩
  ·have ehn:((r.names.length:Int)==0)=false:=by simp [hn]
   have HH:Hid (shapeL r.toRuleD false true false false (0)=false):=by unfold Hid;simp [shapeL,shapeB,hz,hn]
   clear hz hn
   go_enter Tryd.func76,Tryd.ntmps76
   go_wp2_with fail
   go_ret
   exact ⟨ret_bool HH.out.symm,(Since.b belS)⟩
 ·have ehz:(r.size==0)=false:=by simp [hz]
  have HH:Hid (shapeL r.toRuleD false true false false (0)=false):=by unfold Hid;simp [shapeL,shapeB,hz]
  clear hz
  go_enter Tryd.func76,Tryd.ntmps76
  go_wp2_with fail
  go_ret
  exact ⟨ret_bool HH.out.symm,(Since.b belS)⟩

theorem shapeS_FFFF1 (r:R) (w:World) :
  Calls Tryd.prog 76 #[.agg #[.string r.name,.int .i64 r.kind,.int .i64 r.size,.bool r.little,.slice r.ba r.bytes.length r.bc,.slice r.na r.names.length r.nc,.slice r.ta r.tags.length r.tc,.slice r.ka r.kids.length r.kc],.bool false,.bool false,.bool false,.bool false,.int .i64 (1)] w fun e w'=>e=.returned (.bool (shapeL r.toRuleD false false false false (1)))∧Below w.heap.size w w':=by
 by_cases hz:r.size=0
 ·have ehz:(r.size==0)=true:=by simp [hz]
  by_cases hb:r.bytes.length=0
  ·have ehb:((r.bytes.length:Int)==0)=true:=by simp [hb]
   by_cases hn:r.names.length=0
   ·have ehn:((r.names.length:Int)==0)=true:=by simp [hn]
    by_cases ht:r.tags.length=0
    ·have eht:((r.tags.length:Int)==0)=true:=by simp [ht]
     by_cases hk:(r.kids.length:Int)=(1)
     ·have ek:((r.kids.length:Int)==(1))=true:=beq_iff_eq.2 hk
      cases hl:r.little
      ·have HH:Hid (shapeL r.toRuleD false false false false (1)=true):=by unfold Hid shapeL shapeB;rw [ek];simp [hz,hb,hn,ht,hl]
       clear hl hz hb hn ht hk
       go_enter Tryd.func76,Tryd.ntmps76
       go_wp2_with fail
       go_ret
       exact ⟨ret_bool HH.out.symm,(Since.b belS)⟩
      ·by_cases hK:r.kind=1
       ·have eK:(r.kind==1)=true:=by simp [hK]
        have HH:Hid (shapeL r.toRuleD false false false false (1)=true):=by unfold Hid shapeL shapeB;rw [ek];simp [hz,hb,hn,ht,hl,hK]
        clear hl hK hz hb hn ht hk
        go_enter Tryd.func76,Tryd.ntmps76
        go_wp2_with fail
        go_ret
        exact ⟨ret_bool HH.out.symm,(Since.b belS)⟩
       ·have eK:(r.kind==1)=false:=by simp [hK]
        have HH:Hid (shapeL r.toRuleD false false false false (1)=false):=by unfold Hid shapeL shapeB;rw [ek];simp [hz,hb,hn,ht,hl,hK]
        clear hl hK hz hb hn ht hk
        go_enter Tryd.func76,Tryd.ntmps76
        go_wp2_with fail
        go_ret
        exact ⟨ret_bool HH.out.symm,(Since.b belS)⟩
     ·have ek:((r.kids.length:Int)==(1))=false:=beq_eq_false_iff_ne.2 hk
      have HH:Hid (shapeL r.toRuleD false false false false (1)=false):=by unfold Hid shapeL shapeB;rw [ek];simp
      clear hz hb hn ht hk
      go_enter Tryd.func76,Tryd.ntmps76
      go_wp2_with fail
      go_ret
      exact ⟨ret_bool HH.out.symm,(Since.b belS)⟩
    ·have eht:((r.tags.length:Int)==0)=false:=by simp [ht]
     have HH:Hid (shapeL r.toRuleD false false false false (1)=false):=by unfold Hid;simp [shapeL,shapeB,hz,hb,hn,ht]
     clear hz hb hn ht
     go_enter Tryd.func76,Tryd.ntmps76
     go_wp2_with fail
     go_ret
     exact ⟨ret_bool HH.out.symm,(Since.b belS)⟩
   ·have ehn:((r.names.length:Int)==0)=false:=by simp [hn]
    have HH:Hid (shapeL r.toRuleD false false false false (1)=false):=by unfold Hid;simp [shapeL,shapeB,hz,hb,hn]
    clear hz hb hn
    go_enter Tryd.func76,Tryd.ntmps76
    go_wp2_with fail
    go_ret
    exact ⟨ret_bool HH.out.symm,(Since.b belS)⟩
  ·have ehb:((r.bytes.length:Int)==0)=false:=by simp [hb]
   have HH:Hid (shapeL r.toRuleD false false false false (1)=false):=by unfold Hid;simp [shapeL,shapeB,hz,hb]
   clear hz hb
   go_enter Tryd.func76,Tryd.ntmps76
   go_wp2_with fail
   go_ret
   exact ⟨ret_bool HH.out.symm,(Since.b belS)⟩
 ·have ehz:(r.size==0)=false:=by simp [hz]
  have HH:Hid (shapeL r.toRuleD false false false false (1)=false):=by unfold Hid;simp [shapeL,shapeB,hz]
  clear hz
  go_enter Tryd.func76,Tryd.ntmps76
  go_wp2_with fail
  go_ret
  exact ⟨ret_bool HH.out.symm,(Since.b belS)⟩

theorem shapeS_FFFF2 (r:R) (w:World) :
  Calls Tryd.prog 76 #[.agg #[.string r.name,.int .i64 r.kind,.int .i64 r.size,.bool r.little,.slice r.ba r.bytes.length r.bc,.slice r.na r.names.length r.nc,.slice r.ta r.tags.length r.tc,.slice r.ka r.kids.length r.kc],.bool false,.bool false,.bool false,.bool false,.int .i64 (2)] w fun e w'=>e=.returned (.bool (shapeL r.toRuleD false false false false (2)))∧Below w.heap.size w w':=by
 by_cases hz:r.size=0
 ·have ehz:(r.size==0)=true:=by simp [hz]
  by_cases hb:r.bytes.length=0
  ·have ehb:((r.bytes.length:Int)==0)=true:=by simp [hb]
   by_cases hn:r.names.length=0
   ·have ehn:((r.names.length:Int)==0)=true:=by simp [hn]
    by_cases ht:r.tags.length=0
    ·have eht:((r.tags.length:Int)==0)=true:=by simp [ht]
     by_cases hk:(r.kids.length:Int)=(2)
     ·have ek:((r.kids.length:Int)==(2))=true:=beq_iff_eq.2 hk
      cases hl:r.little
      ·have HH:Hid (shapeL r.toRuleD false false false false (2)=true):=by unfold Hid shapeL shapeB;rw [ek];simp [hz,hb,hn,ht,hl]
       clear hl hz hb hn ht hk
       go_enter Tryd.func76,Tryd.ntmps76
       go_wp2_with fail
       go_ret
       exact ⟨ret_bool HH.out.symm,(Since.b belS)⟩
      ·by_cases hK:r.kind=1
       ·have eK:(r.kind==1)=true:=by simp [hK]
        have HH:Hid (shapeL r.toRuleD false false false false (2)=true):=by unfold Hid shapeL shapeB;rw [ek];simp [hz,hb,hn,ht,hl,hK]
        clear hl hK hz hb hn ht hk
        go_enter Tryd.func76,Tryd.ntmps76
        go_wp2_with fail
        go_ret
        exact ⟨ret_bool HH.out.symm,(Since.b belS)⟩
       ·have eK:(r.kind==1)=false:=by simp [hK]
        have HH:Hid (shapeL r.toRuleD false false false false (2)=false):=by unfold Hid shapeL shapeB;rw [ek];simp [hz,hb,hn,ht,hl,hK]
        clear hl hK hz hb hn ht hk
        go_enter Tryd.func76,Tryd.ntmps76
        go_wp2_with fail
        go_ret
        exact ⟨ret_bool HH.out.symm,(Since.b belS)⟩
     ·have ek:((r.kids.length:Int)==(2))=false:=beq_eq_false_iff_ne.2 hk
      have HH:Hid (shapeL r.toRuleD false false false false (2)=false):=by unfold Hid shapeL shapeB;rw [ek];simp
      clear hz hb hn ht hk
      go_enter Tryd.func76,Tryd.ntmps76
      go_wp2_with fail
      go_ret
      exact ⟨ret_bool HH.out.symm,(Since.b belS)⟩
    ·have eht:((r.tags.length:Int)==0)=false:=by simp [ht]
     have HH:Hid (shapeL r.toRuleD false false false false (2)=false):=by unfold Hid;simp [shapeL,shapeB,hz,hb,hn,ht]
     clear hz hb hn ht
     go_enter Tryd.func76,Tryd.ntmps76
     go_wp2_with fail
     go_ret
     exact ⟨ret_bool HH.out.symm,(Since.b belS)⟩
   ·have ehn:((r.names.length:Int)==0)=false:=by simp [hn]
    have HH:Hid (shapeL r.toRuleD false false false false (2)=false):=by unfold Hid;simp [shapeL,shapeB,hz,hb,hn]
    clear hz hb hn
    go_enter Tryd.func76,Tryd.ntmps76
    go_wp2_with fail
    go_ret
    exact ⟨ret_bool HH.out.symm,(Since.b belS)⟩
  ·have ehb:((r.bytes.length:Int)==0)=false:=by simp [hb]
   have HH:Hid (shapeL r.toRuleD false false false false (2)=false):=by unfold Hid;simp [shapeL,shapeB,hz,hb]
   clear hz hb
   go_enter Tryd.func76,Tryd.ntmps76
   go_wp2_with fail
   go_ret
   exact ⟨ret_bool HH.out.symm,(Since.b belS)⟩
 ·have ehz:(r.size==0)=false:=by simp [hz]
  have HH:Hid (shapeL r.toRuleD false false false false (2)=false):=by unfold Hid;simp [shapeL,shapeB,hz]
  clear hz
  go_enter Tryd.func76,Tryd.ntmps76
  go_wp2_with fail
  go_ret
  exact ⟨ret_bool HH.out.symm,(Since.b belS)⟩

theorem shapeS_FFTFn (r:R) (w:World) (n:Int) (hn0:0≤n) :
  Calls Tryd.prog 76 #[.agg #[.string r.name,.int .i64 r.kind,.int .i64 r.size,.bool r.little,.slice r.ba r.bytes.length r.bc,.slice r.na r.names.length r.nc,.slice r.ta r.tags.length r.tc,.slice r.ka r.kids.length r.kc],.bool false,.bool false,.bool true,.bool false,.int .i64 n] w fun e w'=>e=.returned (.bool (shapeL r.toRuleD false false true false n))∧Below w.heap.size w w':=by
 have dn:decide (n<0)=false:=by simp;omega
 by_cases hz:r.size=0
 ·have ehz:(r.size==0)=true:=by simp [hz]
  by_cases hb:r.bytes.length=0
  ·have ehb:((r.bytes.length:Int)==0)=true:=by simp [hb]
   by_cases ht:r.tags.length=0
   ·have eht:((r.tags.length:Int)==0)=true:=by simp [ht]
    by_cases hk:(r.kids.length:Int)=n
    ·have ek:((r.kids.length:Int)==n)=true:=beq_iff_eq.2 hk
     cases hl:r.little
     ·have HH:Hid (shapeL r.toRuleD false false true false n=true):=by unfold Hid shapeL shapeB;rw [ek];simp [hz,hb,ht,hl]
      clear hl hz hb ht hk
      go_enter Tryd.func76,Tryd.ntmps76
      go_wp2_with fail
      go_ret
      exact ⟨ret_bool HH.out.symm,(Since.b belS)⟩
     ·by_cases hK:r.kind=1
      ·have eK:(r.kind==1)=true:=by simp [hK]
       have HH:Hid (shapeL r.toRuleD false false true false n=true):=by unfold Hid shapeL shapeB;rw [ek];simp [hz,hb,ht,hl,hK]
       clear hl hK hz hb ht hk
       go_enter Tryd.func76,Tryd.ntmps76
       go_wp2_with fail
       go_ret
       exact ⟨ret_bool HH.out.symm,(Since.b belS)⟩
      ·have eK:(r.kind==1)=false:=by simp [hK]
       have HH:Hid (shapeL r.toRuleD false false true false n=false):=by unfold Hid shapeL shapeB;rw [ek];simp [hz,hb,ht,hl,hK]
       clear hl hK hz hb ht hk
       go_enter Tryd.func76,Tryd.ntmps76
       go_wp2_with fail
       go_ret
       exact ⟨ret_bool HH.out.symm,(Since.b belS)⟩
    ·have ek:((r.kids.length:Int)==n)=false:=beq_eq_false_iff_ne.2 hk
     have HH:Hid (shapeL r.toRuleD false false true false n=false):=by unfold Hid shapeL shapeB;rw [ek,show decide (n<0)=false from dn];simp
     clear hz hb ht hk
     go_enter Tryd.func76,Tryd.ntmps76
     go_wp2_with fail
     go_ret
     exact ⟨ret_bool HH.out.symm,(Since.b belS)⟩
   ·have eht:((r.tags.length:Int)==0)=false:=by simp [ht]
    have HH:Hid (shapeL r.toRuleD false false true false n=false):=by unfold Hid;simp [shapeL,shapeB,hz,hb,ht]
    clear hz hb ht
    go_enter Tryd.func76,Tryd.ntmps76
    go_wp2_with fail
    go_ret
    exact ⟨ret_bool HH.out.symm,(Since.b belS)⟩
  ·have ehb:((r.bytes.length:Int)==0)=false:=by simp [hb]
   have HH:Hid (shapeL r.toRuleD false false true false n=false):=by unfold Hid;simp [shapeL,shapeB,hz,hb]
   clear hz hb
   go_enter Tryd.func76,Tryd.ntmps76
   go_wp2_with fail
   go_ret
   exact ⟨ret_bool HH.out.symm,(Since.b belS)⟩
 ·have ehz:(r.size==0)=false:=by simp [hz]
  have HH:Hid (shapeL r.toRuleD false false true false n=false):=by unfold Hid;simp [shapeL,shapeB,hz]
  clear hz
  go_enter Tryd.func76,Tryd.ntmps76
  go_wp2_with fail
  go_ret
  exact ⟨ret_bool HH.out.symm,(Since.b belS)⟩

theorem shapeS_FFFTm (r:R) (w:World) :
  Calls Tryd.prog 76 #[.agg #[.string r.name,.int .i64 r.kind,.int .i64 r.size,.bool r.little,.slice r.ba r.bytes.length r.bc,.slice r.na r.names.length r.nc,.slice r.ta r.tags.length r.tc,.slice r.ka r.kids.length r.kc],.bool false,.bool false,.bool false,.bool true,.int .i64 (-1)] w fun e w'=>e=.returned (.bool (shapeL r.toRuleD false false false true (-1)))∧Below w.heap.size w w':=by
 by_cases hz:r.size=0
 ·have ehz:(r.size==0)=true:=by simp [hz]
  by_cases hb:r.bytes.length=0
  ·have ehb:((r.bytes.length:Int)==0)=true:=by simp [hb]
   by_cases hn:r.names.length=0
   ·have ehn:((r.names.length:Int)==0)=true:=by simp [hn]
    cases hl:r.little
    ·have HH:Hid (shapeL r.toRuleD false false false true (-1)=true):=by unfold Hid shapeL shapeB;simp [hz,hb,hn,hl]
     clear hl hz hb hn
     go_enter Tryd.func76,Tryd.ntmps76
     go_wp2_with fail
     go_ret
     exact ⟨ret_bool HH.out.symm,(Since.b belS)⟩
    ·by_cases hK:r.kind=1
     ·have eK:(r.kind==1)=true:=by simp [hK]
      have HH:Hid (shapeL r.toRuleD false false false true (-1)=true):=by unfold Hid shapeL shapeB;simp [hz,hb,hn,hl,hK]
      clear hl hK hz hb hn
      go_enter Tryd.func76,Tryd.ntmps76
      go_wp2_with fail
      go_ret
      exact ⟨ret_bool HH.out.symm,(Since.b belS)⟩
     ·have eK:(r.kind==1)=false:=by simp [hK]
      have HH:Hid (shapeL r.toRuleD false false false true (-1)=false):=by unfold Hid shapeL shapeB;simp [hz,hb,hn,hl,hK]
      clear hl hK hz hb hn
      go_enter Tryd.func76,Tryd.ntmps76
      go_wp2_with fail
      go_ret
      exact ⟨ret_bool HH.out.symm,(Since.b belS)⟩
   ·have ehn:((r.names.length:Int)==0)=false:=by simp [hn]
    have HH:Hid (shapeL r.toRuleD false false false true (-1)=false):=by unfold Hid;simp [shapeL,shapeB,hz,hb,hn]
    clear hz hb hn
    go_enter Tryd.func76,Tryd.ntmps76
    go_wp2_with fail
    go_ret
    exact ⟨ret_bool HH.out.symm,(Since.b belS)⟩
  ·have ehb:((r.bytes.length:Int)==0)=false:=by simp [hb]
   have HH:Hid (shapeL r.toRuleD false false false true (-1)=false):=by unfold Hid;simp [shapeL,shapeB,hz,hb]
   clear hz hb
   go_enter Tryd.func76,Tryd.ntmps76
   go_wp2_with fail
   go_ret
   exact ⟨ret_bool HH.out.symm,(Since.b belS)⟩
 ·have ehz:(r.size==0)=false:=by simp [hz]
  have HH:Hid (shapeL r.toRuleD false false false true (-1)=false):=by unfold Hid;simp [shapeL,shapeB,hz]
  clear hz
  go_enter Tryd.func76,Tryd.ntmps76
  go_wp2_with fail
  go_ret
  exact ⟨ret_bool HH.out.symm,(Since.b belS)⟩

end Go.Proofs.YtaammoodcgfhpaaDoor
namespace Go.Proofs.YtaammoodcgfhpaaDoor
open Go.RowKit
theorem l4Tags_any {w0 w:World}{lo:Nat} (hs:Since lo w0 w) {a:Option Addr}{cap M:Nat}{rs:List R} (hD:Ds w0 lo M a cap rs) (hM:M≤1048576) (r:R) (hr:r.Ok w0 lo M) :
  Calls Tryd.prog 79 #[.agg #[.slice a rs.length cap],.agg #[.string r.name,.int .i64 r.kind,.int .i64 r.size,.bool r.little,.slice r.ba r.bytes.length r.bc,.slice r.na r.names.length r.nc,.slice r.ta r.tags.length r.tc,.slice r.ka r.kids.length r.kc]] w fun e w'=>e=.returned (.bool (tagsB (rs.map R.toRuleD) r.toRuleD))∧Below w.heap.size w w':=by
 have hlt:=hr.lt
 have hlk:=hr.lk
 by_cases h1:r.kids.length=r.tags.length+1
 ·have e1:((r.kids.length:Int)==(r.tags.length:Int)+1)=true:=by rw [beq_iff_eq];omega
  have e2:((r.kids.length:Int) != (r.tags.length:Int)+1)=false:=by rw [bne_eq_false_iff_eq];omega
  by_cases h2:1≤r.tags.length∧r.tags.length≤8
  ·have hkp:=hr.kids
   have htp:=hr.tags
   obtain ⟨kb,ko,hka,hkb0,_,_,hkc⟩:=hkp.pos hs (by simp;omega)
   obtain ⟨tb,to,hta,htb0,_,_,htc⟩:=htp.pos hs (by simp;omega)
   have K0:Hid (∀ wx,Since lo w0 wx→wx.cell? ⟨kb,ko,none⟩=some (.int .i64 (kid0 r.toRuleD))):=by
    intro wx hx
    obtain ⟨kb',ko',hka',_,_,_,hkc'⟩:=hkp.pos hx (by simp;omega)
    rw [hka] at hka'
    simp only [Option.some.injEq,Addr.mk.injEq,and_true] at hka'
    obtain ⟨rfl,rfl⟩:=hka'
    have hk0:r.kids[0]?=some (kid0 r.toRuleD):=kids0 (by omega)
    have:=hkc' 0 (.int .i64 (kid0 r.toRuleD)) (by simp [hk0])
    simpa using this
   have K1:Hid (∀ wx,Since lo w0 wx→∀ j (h:j<r.tags.length),wx.cell? ⟨tb,to+j,none⟩=some (.int .i64 r.tags[j])):=by
    intro wx hx j hj
    obtain ⟨tb',to',hta',_,_,_,htc'⟩:=htp.pos hx (by simp;omega)
    rw [hta] at hta'
    simp only [Option.some.injEq,Addr.mk.injEq,and_true] at hta'
    obtain ⟨rfl,rfl⟩:=hta'
    exact htc' j _ (map_at _ hj)
   clear hkc htc hkp htp
   have Hlim:=Lib.hid (limD_le (rs.map R.toRuleD) (kid0 r.toRuleD))
   rw [hka,hta]
   clear hka hta
   obtain ⟨h21,h22⟩:=h2
   have H1:=Lib.hid h1
   clear h1
   go_enter Tryd.func79,Tryd.ntmps79
   go_wp2_with (go_at_call 30;first|(refine (l1In_t _ _ _ _ ?_).mono ?_;omega;rintro e w1 ⟨rfl,rfl⟩)|(refine (l1In_f _ _ _ _ ?_).mono ?_;omega;rintro e w1 ⟨rfl,rfl⟩)|(refine (l1In_any _ _ _ _).mono ?_;rintro e w1 ⟨rfl,rfl⟩))
   go_loopw [5] (fun i wr=>∃ k:Nat,k≤r.tags.length∧(∀ j (hj:j<r.tags.length),j<k→tagOk (limD (rs.map R.toRuleD) (kid0 r.toRuleD)) r.tags j hj)∧i=.int .i64 k∧wr.cell? ⟨w.heap.size,0,none⟩=some (.slice a rs.length cap)∧wr.cell? ⟨w.heap.size+1,6,none⟩=some (.slice (some ⟨tb,to,none⟩) r.tags.length r.tc)∧wr.cell? ⟨w.heap.size+1,7,none⟩=some (.slice (some ⟨kb,ko,none⟩) r.kids.length r.kc)∧w.heap.size+2≤wr.heap.size∧Since w.heap.size w wr) (fun i _=>r.tags.length - (intOf i).toNat)
   case atStart=>exact ⟨0,Nat.zero_le _,fun j _ h=>absurd h (Nat.not_lt_zero j),rfl,by simp [go_sem],by simp [go_sem],by simp [go_sem,H1.out],by simp,((Since.self w).alloc _).alloc _⟩
   case round=>
    obtain ⟨k,hk,hall,rfl,cd,ct,ck,hsz,hbel⟩:=hrel
    have Hall:=Lib.hid hall
    clear hall
    have hsr:Since lo w0 wr:=hs.trans0 hbel
    by_cases hlt2:k<r.tags.length
    ·have ctk:=K1.out _ hsr k hlt2
     have g1:0<r.kids.length:=by have:=H1.out;omega
     by_cases hrg:0≤r.tags[k]∧r.tags[k]≤limD (rs.map R.toRuleD) (kid0 r.toRuleD)
     ·by_cases hz:0<k
      ·have q6:=Ext.cells (K1.out wr hsr (k - 1) (by omega))
       have q1:=Ext.cells cd
       have q2:=Ext.cells ct
       have q3:=Ext.cells ck
       have q4:=Ext.cells (K0.out wr hsr)
       have q5:=Ext.cells ctk
       by_cases hcmp:r.tags[k - 1]<r.tags[k]
       ·have dcmp:decide (r.tags[k]≤r.tags[k - 1])=false:=by simp;omega
        have Hok:Hid (tagOk (limD (rs.map R.toRuleD) (kid0 r.toRuleD)) r.tags k hlt2):=⟨hrg,fun _=>hcmp⟩
        go_wp2_with fail
        refine wp_region_ext (by kernel_rfl) (by kernel_rfl) ?_;(repeat (go_big_quiet_step ((first|(go_at_call 77;exact extE (limS_any (by exact hsr.ext _) hD hM _))|(go_at_call 30;exact extQ (l1In_t _ _ _ _ hrg))))));refine wpQuiet_nil ?_;intro _ hw1;obtain ⟨nx,rfl⟩:=hw1
        go_wp2_with fail
        go_roundw
        case rel=>exact ⟨k+1,by omega,upto_succ (P:=fun j hj=>tagOk (limD (rs.map R.toRuleD) (kid0 r.toRuleD)) r.tags j hj) (fun _=>Hok.out) Hall.out,by go_num,nx.cell cd,nx.cell ct,nx.cell ck,by have:=nx.h.size;omega,hbel.ext nx⟩
        case measure=>simp [intOf];omega
       ·have dcmp:decide (r.tags[k]≤r.tags[k - 1])=true:=by simp;omega
        have Hb:=Lib.hid (tagsB_false (D:=rs.map R.toRuleD) (r:=r.toRuleD) fun h=>hcmp ((h.2.2 k hlt2).2 hz))
        go_wp2_with fail
        refine wp_region_ext (by kernel_rfl) (by kernel_rfl) ?_;(repeat (go_big_quiet_step ((first|(go_at_call 77;exact extE (limS_any (by exact hsr.ext _) hD hM _))|(go_at_call 30;exact extQ (l1In_t _ _ _ _ hrg))))));refine wpQuiet_nil ?_;intro _ hw1;obtain ⟨nx,rfl⟩:=hw1
        all_goals (go_wp2_with fail;go_ret;exact ⟨ret_bool Hb.out.symm,(Since.b belS)⟩)
      ·have dk:decide (0<k)=false:=by simp;omega
       have Hok:Hid (tagOk (limD (rs.map R.toRuleD) (kid0 r.toRuleD)) r.tags k hlt2):=⟨hrg,fun h=>absurd h hz⟩
       have q1:=Ext.cells cd
       have q2:=Ext.cells ct
       have q3:=Ext.cells ck
       have q4:=Ext.cells (K0.out wr hsr)
       have q5:=Ext.cells ctk
       go_wp2_with fail
       refine wp_region_ext (by kernel_rfl) (by kernel_rfl) ?_;(repeat (go_big_quiet_step ((first|(go_at_call 77;exact extE (limS_any (by exact hsr.ext _) hD hM _))|(go_at_call 30;exact extQ (l1In_t _ _ _ _ hrg))))));refine wpQuiet_nil ?_;intro _ hw1;obtain ⟨nx,rfl⟩:=hw1
       go_wp2_with fail
       go_roundw
       case rel=>exact ⟨k+1,by omega,upto_succ (P:=fun j hj=>tagOk (limD (rs.map R.toRuleD) (kid0 r.toRuleD)) r.tags j hj) (fun _=>Hok.out) Hall.out,by go_num,nx.cell cd,nx.cell ct,nx.cell ck,by have:=nx.h.size;omega,hbel.ext nx⟩
       case measure=>simp [intOf];omega
     ·have Hb:=Lib.hid (tagsB_false (D:=rs.map R.toRuleD) (r:=r.toRuleD) fun h=>hrg (h.2.2 k hlt2).1)
      go_wp2_with fail
      have q1:=Ext.cells cd
      have q2:=Ext.cells ct
      have q3:=Ext.cells ck
      have q4:=Ext.cells (K0.out wr hsr)
      have q5:=Ext.cells ctk
      refine wp_region_ext (by kernel_rfl) (by kernel_rfl) ?_;(repeat (go_big_quiet_step ((first|(go_at_call 77;exact extE (limS_any (by exact hsr.ext _) hD hM _))|(go_at_call 30;exact extQ (l1In_f _ _ _ _ hrg))))));refine wpQuiet_nil ?_;intro _ hw1;obtain ⟨nx,rfl⟩:=hw1
      all_goals (go_wp2_with fail;go_ret;exact ⟨ret_bool Hb.out.symm,(Since.b belS)⟩)
    ·go_wp2_with fail
     go_ret
     exact ⟨ret_bool (tagsB_true ⟨H1.out,⟨h21,h22⟩,fun j hj=>Hall.out j hj (by omega)⟩).symm,hbel.b⟩
  ·have Hb:=Lib.hid (tagsB_false (D:=rs.map R.toRuleD) (r:=r.toRuleD) fun h=>h2 h.2.1)
   clear h1
   go_enter Tryd.func79,Tryd.ntmps79
   go_wp2_with (go_at_call 30;first|(refine (l1In_t _ _ _ _ ?_).mono ?_;omega;rintro e w1 ⟨rfl,rfl⟩)|(refine (l1In_f _ _ _ _ ?_).mono ?_;omega;rintro e w1 ⟨rfl,rfl⟩)|(refine (l1In_any _ _ _ _).mono ?_;rintro e w1 ⟨rfl,rfl⟩))
   go_ret
   exact ⟨ret_bool Hb.out.symm,(Since.b belS)⟩
 ·have e1:((r.kids.length:Int)==(r.tags.length:Int)+1)=false:=by rw [beq_eq_false_iff_ne];omega
  have e2:((r.kids.length:Int) != (r.tags.length:Int)+1)=true:=by rw [bne_iff_ne];omega
  have Hb:=Lib.hid (tagsB_false (D:=rs.map R.toRuleD) (r:=r.toRuleD) fun h=>h1 h.1)
  clear h1
  go_enter Tryd.func79,Tryd.ntmps79
  go_wp2_with fail
  go_ret
  exact ⟨ret_bool Hb.out.symm,(Since.b belS)⟩
end Go.Proofs.YtaammoodcgfhpaaDoor
