/-
 Contract: validKind.

 Contract: l4Kind of the reference.
-/
import Derived.Test.YtaammoodcgfhpaaDoorKB1
import Derived.Test.YtaammoodcgfhpaaDoorKP
import Derived.Test.YtaammoodcgfhpaaDoorKB2
set_option linter.unusedSimpArgs false
set_option linter.unusedVariables false
set_option linter.defProp false
set_option maxRecDepth 100000
set_option maxHeartbeats 4000000
namespace Go.Proofs.YtaammoodcgfhpaaDoor
open Go.RowKit
theorem kE1 {x:Int} (h:x=1):(x==1)=true∧(x==2)=false∧(x==3)=false∧(x==4)=false∧(x==5)=false∧(x==6)=false∧(x==7)=false∧(x==8)=false∧(x==9)=false∧(x==10)=false:=by subst h;decide
theorem kE2 {x:Int} (h:x=2):(x==1)=false∧(x==2)=true∧(x==3)=false∧(x==4)=false∧(x==5)=false∧(x==6)=false∧(x==7)=false∧(x==8)=false∧(x==9)=false∧(x==10)=false:=by subst h;decide
theorem kE3 {x:Int} (h:x=3):(x==1)=false∧(x==2)=false∧(x==3)=true∧(x==4)=false∧(x==5)=false∧(x==6)=false∧(x==7)=false∧(x==8)=false∧(x==9)=false∧(x==10)=false:=by subst h;decide
theorem kE4 {x:Int} (h:x=4):(x==1)=false∧(x==2)=false∧(x==3)=false∧(x==4)=true∧(x==5)=false∧(x==6)=false∧(x==7)=false∧(x==8)=false∧(x==9)=false∧(x==10)=false:=by subst h;decide
theorem kE5 {x:Int} (h:x=5):(x==1)=false∧(x==2)=false∧(x==3)=false∧(x==4)=false∧(x==5)=true∧(x==6)=false∧(x==7)=false∧(x==8)=false∧(x==9)=false∧(x==10)=false:=by subst h;decide
theorem kE6 {x:Int} (h:x=6):(x==1)=false∧(x==2)=false∧(x==3)=false∧(x==4)=false∧(x==5)=false∧(x==6)=true∧(x==7)=false∧(x==8)=false∧(x==9)=false∧(x==10)=false:=by subst h;decide
theorem kE7 {x:Int} (h:x=7):(x==1)=false∧(x==2)=false∧(x==3)=false∧(x==4)=false∧(x==5)=false∧(x==6)=false∧(x==7)=true∧(x==8)=false∧(x==9)=false∧(x==10)=false:=by subst h;decide
theorem kE8 {x:Int} (h:x=8):(x==1)=false∧(x==2)=false∧(x==3)=false∧(x==4)=false∧(x==5)=false∧(x==6)=false∧(x==7)=false∧(x==8)=true∧(x==9)=false∧(x==10)=false:=by subst h;decide
theorem kE9 {x:Int} (h:x=9):(x==1)=false∧(x==2)=false∧(x==3)=false∧(x==4)=false∧(x==5)=false∧(x==6)=false∧(x==7)=false∧(x==8)=false∧(x==9)=true∧(x==10)=false:=by subst h;decide
theorem kE10 {x:Int} (h:x=10):(x==1)=false∧(x==2)=false∧(x==3)=false∧(x==4)=false∧(x==5)=false∧(x==6)=false∧(x==7)=false∧(x==8)=false∧(x==9)=false∧(x==10)=true:=by subst h;decide
theorem q9 (w:World) (a:Option Addr) (cap:Nat) (rs:List R) (r:R) (x:Option Addr):(∀ n:Ext ((w.alloc (.cells #[.slice a rs.length cap] 30)).alloc (.cells #[.string r.name,.int .i64 r.kind,.int .i64 r.size,.bool r.little,.slice r.ba r.bytes.length r.bc,.slice r.na r.names.length r.nc,.slice r.ta r.tags.length r.tc,.slice x r.kids.length r.kc] 61)),n.W.cell? ⟨w.heap.size,0,none⟩=some (.slice a rs.length cap))∧(∀ n:Ext ((w.alloc (.cells #[.slice a rs.length cap] 30)).alloc (.cells #[.string r.name,.int .i64 r.kind,.int .i64 r.size,.bool r.little,.slice r.ba r.bytes.length r.bc,.slice r.na r.names.length r.nc,.slice r.ta r.tags.length r.tc,.slice x r.kids.length r.kc] 61)),n.W.cell? ⟨w.heap.size+1,0,none⟩=some (.string r.name))∧(∀ n:Ext ((w.alloc (.cells #[.slice a rs.length cap] 30)).alloc (.cells #[.string r.name,.int .i64 r.kind,.int .i64 r.size,.bool r.little,.slice r.ba r.bytes.length r.bc,.slice r.na r.names.length r.nc,.slice r.ta r.tags.length r.tc,.slice x r.kids.length r.kc] 61)),n.W.cell? ⟨w.heap.size+1,1,none⟩=some (.int .i64 r.kind))∧(∀ n:Ext ((w.alloc (.cells #[.slice a rs.length cap] 30)).alloc (.cells #[.string r.name,.int .i64 r.kind,.int .i64 r.size,.bool r.little,.slice r.ba r.bytes.length r.bc,.slice r.na r.names.length r.nc,.slice r.ta r.tags.length r.tc,.slice x r.kids.length r.kc] 61)),n.W.cell? ⟨w.heap.size+1,2,none⟩=some (.int .i64 r.size))∧(∀ n:Ext ((w.alloc (.cells #[.slice a rs.length cap] 30)).alloc (.cells #[.string r.name,.int .i64 r.kind,.int .i64 r.size,.bool r.little,.slice r.ba r.bytes.length r.bc,.slice r.na r.names.length r.nc,.slice r.ta r.tags.length r.tc,.slice x r.kids.length r.kc] 61)),n.W.cell? ⟨w.heap.size+1,3,none⟩=some (.bool r.little))∧(∀ n:Ext ((w.alloc (.cells #[.slice a rs.length cap] 30)).alloc (.cells #[.string r.name,.int .i64 r.kind,.int .i64 r.size,.bool r.little,.slice r.ba r.bytes.length r.bc,.slice r.na r.names.length r.nc,.slice r.ta r.tags.length r.tc,.slice x r.kids.length r.kc] 61)),n.W.cell? ⟨w.heap.size+1,4,none⟩=some (.slice r.ba r.bytes.length r.bc))∧(∀ n:Ext ((w.alloc (.cells #[.slice a rs.length cap] 30)).alloc (.cells #[.string r.name,.int .i64 r.kind,.int .i64 r.size,.bool r.little,.slice r.ba r.bytes.length r.bc,.slice r.na r.names.length r.nc,.slice r.ta r.tags.length r.tc,.slice x r.kids.length r.kc] 61)),n.W.cell? ⟨w.heap.size+1,5,none⟩=some (.slice r.na r.names.length r.nc))∧(∀ n:Ext ((w.alloc (.cells #[.slice a rs.length cap] 30)).alloc (.cells #[.string r.name,.int .i64 r.kind,.int .i64 r.size,.bool r.little,.slice r.ba r.bytes.length r.bc,.slice r.na r.names.length r.nc,.slice r.ta r.tags.length r.tc,.slice x r.kids.length r.kc] 61)),n.W.cell? ⟨w.heap.size+1,6,none⟩=some (.slice r.ta r.tags.length r.tc))∧(∀ n:Ext ((w.alloc (.cells #[.slice a rs.length cap] 30)).alloc (.cells #[.string r.name,.int .i64 r.kind,.int .i64 r.size,.bool r.little,.slice r.ba r.bytes.length r.bc,.slice r.na r.names.length r.nc,.slice r.ta r.tags.length r.tc,.slice x r.kids.length r.kc] 61)),n.W.cell? ⟨w.heap.size+1,7,none⟩=some (.slice x r.kids.length r.kc)):=⟨Ext.cells (by simp [go_sem]),Ext.cells (by simp [go_sem]),Ext.cells (by simp [go_sem]),Ext.cells (by simp [go_sem]),Ext.cells (by simp [go_sem]),Ext.cells (by simp [go_sem]),Ext.cells (by simp [go_sem]),Ext.cells (by simp [go_sem]),Ext.cells (by simp [go_sem])⟩

theorem call_bool {P:Program}{f:FuncId}{args:Array Value}{w:World}{X:World→Prop}{x b:Bool} (hx:x=b) (h:Calls P f args w fun e w'=>e=.returned (.bool x)∧X w'):Calls P f args w fun e w'=>e=.returned (.bool b)∧X w':=hx▸h

theorem plainI_FFFF1_k (r:R) (w:World) (x:Option Addr) (h:r.ka=x) :
  Calls Tryd.prog 80 #[.agg #[.string r.name,.int .i64 r.kind,.int .i64 r.size,.bool r.little,.slice r.ba r.bytes.length r.bc,.slice r.na r.names.length r.nc,.slice r.ta r.tags.length r.tc,.slice x r.kids.length r.kc],.bool false,.bool false,.bool false,.bool false,.int .i64 1] w fun e w'=>e=.returned (.bool (shapeB r.toRuleD false false false false 1))∧Below w.heap.size w w':=by
 subst h
 exact plainI_FFFF1 r w

theorem plainI_FFFF2_k (r:R) (w:World) (x:Option Addr) (h:r.ka=x) :
  Calls Tryd.prog 80 #[.agg #[.string r.name,.int .i64 r.kind,.int .i64 r.size,.bool r.little,.slice r.ba r.bytes.length r.bc,.slice r.na r.names.length r.nc,.slice r.ta r.tags.length r.tc,.slice x r.kids.length r.kc],.bool false,.bool false,.bool false,.bool false,.int .i64 2] w fun e w'=>e=.returned (.bool (shapeB r.toRuleD false false false false 2))∧Below w.heap.size w w':=by
 subst h
 exact plainI_FFFF2 r w

theorem head_get {α:Type} [OfNat α 0] {l:List α} (h:0<l.length):l[0]=l.headD 0:=by
 cases l with
 | nil=>simp at h
 | cons x y=>rfl

theorem vk_1 {w0 w:World}{lo:Nat} (hs:Since lo w0 w) {a:Option Addr}{cap M:Nat}{rs:List R} (hD:Ds w0 lo M a cap rs) (hM:M≤1048576) (r:R) (hr:r.Ok w0 lo M) (hk:r.kind=1) :
  Calls Tryd.prog 72 #[.agg #[.slice a rs.length cap],.agg #[.string r.name,.int .i64 r.kind,.int .i64 r.size,.bool r.little,.slice r.ba r.bytes.length r.bc,.slice r.na r.names.length r.nc,.slice r.ta r.tags.length r.tc,.slice r.ka r.kids.length r.kc]] w fun e w'=>e=.returned (.bool (kindB (rs.map R.toRuleD) r.toRuleD))∧Below w.heap.size w w':=by
 have hlb:=hr.lb
 have hlk:=hr.lk
 cases h1:shapeB r.toRuleD true false false false 0
 ·have Hb:Hid (kindB (rs.map R.toRuleD) r.toRuleD=false):=by unfold Hid;unfold kindB;rw [if_pos hk];simp [h1]
  obtain ⟨e1,e2,e3,e4,e5,e6,e7,e8,e9,e10⟩:=kE1 hk
  clear hk
  go_enter Tryd.func72,Tryd.ntmps72
  go_wp2_with (first|(go_at_call 80;refine (plainI_TFFF0 r _).mono ?_;rintro e w1 ⟨rfl,hb1⟩;obtain ⟨hc1,hf1⟩:=bcell hb1))
  go_ret
  exact ⟨ret_bool Hb.out.symm,(Since.b belS)⟩
 ·by_cases h2:1≤r.size∧r.size≤4
  ·rcases (show r.little=false∨r.little=true by cases r.little<;>simp) with h3|h3
   ·have Hb:Hid (kindB (rs.map R.toRuleD) r.toRuleD=true):=by unfold Hid;unfold kindB;rw [if_pos hk];simp [h1,h2,h3]
    obtain ⟨e1,e2,e3,e4,e5,e6,e7,e8,e9,e10⟩:=kE1 hk
    clear hk
    have HH2:=Lib.hid h2
    clear h2
    have H3:=Lib.hid h3
    clear h3
    go_enter Tryd.func72,Tryd.ntmps72
    go_wp2_with (first|(go_at_call 80;refine (plainI_TFFF0 r _).mono ?_;rintro e w1 ⟨rfl,hb1⟩;obtain ⟨hc1,hf1⟩:=bcell hb1;have h3:=H3.out)|(go_at_call 36;refine (inRange_t _ _ _ _ HH2.out).mono ?_;rintro e w2 ⟨rfl,rfl⟩))
    go_ret
    exact ⟨ret_bool Hb.out.symm,(Since.b belS)⟩
   ·by_cases h4:1<r.size
    ·have Hb:Hid (kindB (rs.map R.toRuleD) r.toRuleD=true):=by unfold Hid;unfold kindB;rw [if_pos hk];simp [h1,h2,h3,h4]
     obtain ⟨e1,e2,e3,e4,e5,e6,e7,e8,e9,e10⟩:=kE1 hk
     have d4:decide (1<r.size)=true:=by simp [h4]
     clear hk h4
     have HH2:=Lib.hid h2
     clear h2
     have H3:=Lib.hid h3
     clear h3
     go_enter Tryd.func72,Tryd.ntmps72
     go_wp2_with (first|(go_at_call 80;refine (plainI_TFFF0 r _).mono ?_;rintro e w1 ⟨rfl,hb1⟩;obtain ⟨hc1,hf1⟩:=bcell hb1;have h3:=H3.out)|(go_at_call 36;refine (inRange_t _ _ _ _ HH2.out).mono ?_;rintro e w2 ⟨rfl,rfl⟩))
     go_ret
     exact ⟨ret_bool Hb.out.symm,(Since.b belS)⟩
    ·have Hb:Hid (kindB (rs.map R.toRuleD) r.toRuleD=false):=by unfold Hid;unfold kindB;rw [if_pos hk];simp [h1,h2,h3,h4]
     obtain ⟨e1,e2,e3,e4,e5,e6,e7,e8,e9,e10⟩:=kE1 hk
     have d4:decide (1<r.size)=false:=by simp;omega
     clear hk h4
     have HH2:=Lib.hid h2
     clear h2
     have H3:=Lib.hid h3
     clear h3
     go_enter Tryd.func72,Tryd.ntmps72
     go_wp2_with (first|(go_at_call 80;refine (plainI_TFFF0 r _).mono ?_;rintro e w1 ⟨rfl,hb1⟩;obtain ⟨hc1,hf1⟩:=bcell hb1;have h3:=H3.out)|(go_at_call 36;refine (inRange_t _ _ _ _ HH2.out).mono ?_;rintro e w2 ⟨rfl,rfl⟩))
     go_ret
     exact ⟨ret_bool Hb.out.symm,(Since.b belS)⟩
  ·have Hb:Hid (kindB (rs.map R.toRuleD) r.toRuleD=false):=by unfold Hid;unfold kindB;rw [if_pos hk];simp [h1,h2]
   obtain ⟨e1,e2,e3,e4,e5,e6,e7,e8,e9,e10⟩:=kE1 hk
   clear hk
   have HH2:=Lib.hid h2
   clear h2
   go_enter Tryd.func72,Tryd.ntmps72
   go_wp2_with (first|(go_at_call 80;refine (plainI_TFFF0 r _).mono ?_;rintro e w1 ⟨rfl,hb1⟩;obtain ⟨hc1,hf1⟩:=bcell hb1)|(go_at_call 36;refine (inRange_f _ _ _ _ HH2.out).mono ?_;rintro e w2 ⟨rfl,rfl⟩))
   go_ret
   exact ⟨ret_bool Hb.out.symm,(Since.b belS)⟩

theorem vk_2 {w0 w:World}{lo:Nat} (hs:Since lo w0 w) {a:Option Addr}{cap M:Nat}{rs:List R} (hD:Ds w0 lo M a cap rs) (hM:M≤1048576) (r:R) (hr:r.Ok w0 lo M) (hk:r.kind=2) :
  Calls Tryd.prog 72 #[.agg #[.slice a rs.length cap],.agg #[.string r.name,.int .i64 r.kind,.int .i64 r.size,.bool r.little,.slice r.ba r.bytes.length r.bc,.slice r.na r.names.length r.nc,.slice r.ta r.tags.length r.tc,.slice r.ka r.kids.length r.kc]] w fun e w'=>e=.returned (.bool (kindB (rs.map R.toRuleD) r.toRuleD))∧Below w.heap.size w w':=by
 have hlb:=hr.lb
 have hlk:=hr.lk
 cases h1:shapeB r.toRuleD false true false false 0
 ·have Hb:Hid (kindB (rs.map R.toRuleD) r.toRuleD=false):=by unfold Hid;unfold kindB;rw [if_neg (by omega)];rw [if_pos hk];simp [h1]
  obtain ⟨e1,e2,e3,e4,e5,e6,e7,e8,e9,e10⟩:=kE2 hk
  clear hk
  go_enter Tryd.func72,Tryd.ntmps72
  go_wp2_with (first|(go_at_call 80;refine (plainI_FTFF0 r _).mono ?_;rintro e w1 ⟨rfl,hb1⟩;obtain ⟨hc1,hf1⟩:=bcell hb1))
  go_ret
  exact ⟨ret_bool Hb.out.symm,(Since.b belS)⟩
 ·by_cases h2:1≤(r.bytes.length:Int)∧(r.bytes.length:Int)≤16
  ·have Hb:Hid (kindB (rs.map R.toRuleD) r.toRuleD=true):=by unfold Hid;unfold kindB;rw [if_neg (by omega)];rw [if_pos hk];simp [h1];omega
   obtain ⟨e1,e2,e3,e4,e5,e6,e7,e8,e9,e10⟩:=kE2 hk
   clear hk
   have HH2:=Lib.hid h2
   clear h2
   go_enter Tryd.func72,Tryd.ntmps72
   go_wp2_with (first|(go_at_call 80;refine (plainI_FTFF0 r _).mono ?_;rintro e w1 ⟨rfl,hb1⟩;obtain ⟨hc1,hf1⟩:=bcell hb1)|(go_at_call 36;refine (inRange_t _ _ _ _ HH2.out).mono ?_;rintro e w2 ⟨rfl,rfl⟩))
   go_ret
   exact ⟨ret_bool Hb.out.symm,(Since.b belS)⟩
  ·have Hb:Hid (kindB (rs.map R.toRuleD) r.toRuleD=false):=by unfold Hid;unfold kindB;rw [if_neg (by omega)];rw [if_pos hk];simp [h1];omega
   obtain ⟨e1,e2,e3,e4,e5,e6,e7,e8,e9,e10⟩:=kE2 hk
   clear hk
   have HH2:=Lib.hid h2
   clear h2
   go_enter Tryd.func72,Tryd.ntmps72
   go_wp2_with (first|(go_at_call 80;refine (plainI_FTFF0 r _).mono ?_;rintro e w1 ⟨rfl,hb1⟩;obtain ⟨hc1,hf1⟩:=bcell hb1)|(go_at_call 36;refine (inRange_f _ _ _ _ HH2.out).mono ?_;rintro e w2 ⟨rfl,rfl⟩))
   go_ret
   exact ⟨ret_bool Hb.out.symm,(Since.b belS)⟩

theorem vk_3 {w0 w:World}{lo:Nat} (hs:Since lo w0 w) {a:Option Addr}{cap M:Nat}{rs:List R} (hD:Ds w0 lo M a cap rs) (hM:M≤1048576) (r:R) (hr:r.Ok w0 lo M) (hk:r.kind=3) :
  Calls Tryd.prog 72 #[.agg #[.slice a rs.length cap],.agg #[.string r.name,.int .i64 r.kind,.int .i64 r.size,.bool r.little,.slice r.ba r.bytes.length r.bc,.slice r.na r.names.length r.nc,.slice r.ta r.tags.length r.tc,.slice r.ka r.kids.length r.kc]] w fun e w'=>e=.returned (.bool (kindB (rs.map R.toRuleD) r.toRuleD))∧Below w.heap.size w w':=by
 have hlb:=hr.lb
 have hlk:=hr.lk
 cases h1:shapeB r.toRuleD true false false false 0
 ·have Hb:Hid (kindB (rs.map R.toRuleD) r.toRuleD=false):=by unfold Hid;unfold kindB;rw [if_neg (by omega)];rw [if_neg (by omega)];rw [if_pos hk];simp [h1]
  obtain ⟨e1,e2,e3,e4,e5,e6,e7,e8,e9,e10⟩:=kE3 hk
  clear hk
  go_enter Tryd.func72,Tryd.ntmps72
  go_wp2_with (first|(go_at_call 80;refine (plainI_TFFF0 r _).mono ?_;rintro e w1 ⟨rfl,hb1⟩;obtain ⟨hc1,hf1⟩:=bcell hb1))
  go_ret
  exact ⟨ret_bool Hb.out.symm,(Since.b belS)⟩
 ·by_cases h2:1≤r.size∧r.size≤64
  ·have Hb:Hid (kindB (rs.map R.toRuleD) r.toRuleD=true):=by unfold Hid;unfold kindB;rw [if_neg (by omega)];rw [if_neg (by omega)];rw [if_pos hk];simp [h1];omega
   obtain ⟨e1,e2,e3,e4,e5,e6,e7,e8,e9,e10⟩:=kE3 hk
   clear hk
   have HH2:=Lib.hid h2
   clear h2
   go_enter Tryd.func72,Tryd.ntmps72
   go_wp2_with (first|(go_at_call 80;refine (plainI_TFFF0 r _).mono ?_;rintro e w1 ⟨rfl,hb1⟩;obtain ⟨hc1,hf1⟩:=bcell hb1)|(go_at_call 36;refine (inRange_t _ _ _ _ HH2.out).mono ?_;rintro e w2 ⟨rfl,rfl⟩))
   go_ret
   exact ⟨ret_bool Hb.out.symm,(Since.b belS)⟩
  ·have Hb:Hid (kindB (rs.map R.toRuleD) r.toRuleD=false):=by unfold Hid;unfold kindB;rw [if_neg (by omega)];rw [if_neg (by omega)];rw [if_pos hk];simp [h1];omega
   obtain ⟨e1,e2,e3,e4,e5,e6,e7,e8,e9,e10⟩:=kE3 hk
   clear hk
   have HH2:=Lib.hid h2
   clear h2
   go_enter Tryd.func72,Tryd.ntmps72
   go_wp2_with (first|(go_at_call 80;refine (plainI_TFFF0 r _).mono ?_;rintro e w1 ⟨rfl,hb1⟩;obtain ⟨hc1,hf1⟩:=bcell hb1)|(go_at_call 36;refine (inRange_f _ _ _ _ HH2.out).mono ?_;rintro e w2 ⟨rfl,rfl⟩))
   go_ret
   exact ⟨ret_bool Hb.out.symm,(Since.b belS)⟩

theorem vk_4 {w0 w:World}{lo:Nat} (hs:Since lo w0 w) {a:Option Addr}{cap M:Nat}{rs:List R} (hD:Ds w0 lo M a cap rs) (hM:M≤1048576) (r:R) (hr:r.Ok w0 lo M) (hk:r.kind=4) :
  Calls Tryd.prog 72 #[.agg #[.slice a rs.length cap],.agg #[.string r.name,.int .i64 r.kind,.int .i64 r.size,.bool r.little,.slice r.ba r.bytes.length r.bc,.slice r.na r.names.length r.nc,.slice r.ta r.tags.length r.tc,.slice r.ka r.kids.length r.kc]] w fun e w'=>e=.returned (.bool (kindB (rs.map R.toRuleD) r.toRuleD))∧Below w.heap.size w w':=by
 have hlb:=hr.lb
 have hlk:=hr.lk
 cases h1:shapeB r.toRuleD false false false false 1
 ·have Hb:Hid (kindB (rs.map R.toRuleD) r.toRuleD=false):=by unfold Hid;unfold kindB;rw [if_neg (by omega)];rw [if_neg (by omega)];rw [if_neg (by omega)];rw [if_pos hk];simp [h1]
  obtain ⟨e1,e2,e3,e4,e5,e6,e7,e8,e9,e10⟩:=kE4 hk
  clear hk
  go_enter Tryd.func72,Tryd.ntmps72
  go_wp2_with fail
  have hs2:Since lo w0 ((w.alloc (.cells #[.slice a rs.length cap] 30)).alloc (.cells #[.string r.name,.int .i64 r.kind,.int .i64 r.size,.bool r.little,.slice r.ba r.bytes.length r.bc,.slice r.na r.names.length r.nc,.slice r.ta r.tags.length r.tc,.slice r.ka r.kids.length r.kc] 61)):=(hs.alloc _).alloc _
  obtain ⟨qd,q0,q1,q2,q3,q4,q5,q6,q7⟩:=q9 w a cap rs r r.ka
  refine wp_region_ext (by kernel_rfl) (by kernel_rfl) ?_;(repeat (go_big_quiet_step ((go_at_call 80;exact extE (call_bool h1 (plainI_FFFF1 r _))))));refine wpQuiet_nil ?_;intro _ hw1;obtain ⟨nx,rfl⟩:=hw1
  go_wp2_with fail
  go_ret
  exact ⟨ret_bool Hb.out.symm,(((Since.self w).alloc _).alloc _).ext nx |>.b⟩
 ·have g1:0<r.kids.length:=by have:=shape_len (by omega) h1;omega
  obtain ⟨kb,ko,hka,hkb0,_,_,_⟩:=hr.kids.pos hs (by simp;omega)
  have hkr:=hr.kids
  rw [hka] at hkr
  have Hka:=Lib.hid hka
  have K0:Hid (∀ wx,Since lo w0 wx→wx.cell? ⟨kb,ko,none⟩=some (.int .i64 (kid0 r.toRuleD))):=by
   intro wx hx
   have:=Row.i64 hx hkr 0 g1
   have hk0:=kids0 (r:=r.toRuleD) g1
   rw [List.getElem?_eq_getElem g1] at hk0
   rw [Option.some.inj hk0] at this
   exact this
  clear hka hkr
  by_cases h2:0<limD (rs.map R.toRuleD) (kid0 r.toRuleD)
  ·have Hb:Hid (kindB (rs.map R.toRuleD) r.toRuleD=true):=by unfold Hid;unfold kindB;rw [if_neg (by omega)];rw [if_neg (by omega)];rw [if_neg (by omega)];rw [if_pos hk];simp [h1,h2]
   have d2:decide (0<limD (rs.map R.toRuleD) (kid0 r.toRuleD))=true:=by simp [h2]
   obtain ⟨e1,e2,e3,e4,e5,e6,e7,e8,e9,e10⟩:=kE4 hk
   clear hk h2
   go_enter Tryd.func72,Tryd.ntmps72
   go_wp2_with fail
   have hs2:Since lo w0 ((w.alloc (.cells #[.slice a rs.length cap] 30)).alloc (.cells #[.string r.name,.int .i64 r.kind,.int .i64 r.size,.bool r.little,.slice r.ba r.bytes.length r.bc,.slice r.na r.names.length r.nc,.slice r.ta r.tags.length r.tc,.slice r.ka r.kids.length r.kc] 61)):=(hs.alloc _).alloc _
   have hka:=Hka.out
   obtain ⟨qd,q0,q1,q2,q3,q4,q5,q6,-⟩:=q9 w a cap rs r r.ka
   have q7:∀ n:Ext ((w.alloc (.cells #[.slice a rs.length cap] 30)).alloc (.cells #[.string r.name,.int .i64 r.kind,.int .i64 r.size,.bool r.little,.slice r.ba r.bytes.length r.bc,.slice r.na r.names.length r.nc,.slice r.ta r.tags.length r.tc,.slice r.ka r.kids.length r.kc] 61)),n.W.cell? ⟨w.heap.size+1,7,none⟩=some (.slice (some ⟨kb,ko,none⟩) r.kids.length r.kc):=Ext.cells (by simp [go_sem,hka])
   have qk:=Ext.cells (K0.out _ hs2)
   refine wp_region_ext (by kernel_rfl) (by kernel_rfl) ?_;(repeat (go_big_quiet_step ((first|(go_at_call 80;exact extE (call_bool h1 (plainI_FFFF1_k r _ _ hka)))|(go_at_call 81;exact extE (limI_any (by exact hs2.ext _) hD hM _))))));refine wpQuiet_nil ?_;intro _ hw1;obtain ⟨nx,rfl⟩:=hw1
   go_wp2_with fail
   go_ret
   exact ⟨ret_bool Hb.out.symm,(((Since.self w).alloc _).alloc _).ext nx |>.b⟩
  ·have Hb:Hid (kindB (rs.map R.toRuleD) r.toRuleD=false):=by unfold Hid;unfold kindB;rw [if_neg (by omega)];rw [if_neg (by omega)];rw [if_neg (by omega)];rw [if_pos hk];simp [h1,h2]
   have d2:decide (0<limD (rs.map R.toRuleD) (kid0 r.toRuleD))=false:=by simp [h2]
   obtain ⟨e1,e2,e3,e4,e5,e6,e7,e8,e9,e10⟩:=kE4 hk
   clear hk h2
   go_enter Tryd.func72,Tryd.ntmps72
   go_wp2_with fail
   have hs2:Since lo w0 ((w.alloc (.cells #[.slice a rs.length cap] 30)).alloc (.cells #[.string r.name,.int .i64 r.kind,.int .i64 r.size,.bool r.little,.slice r.ba r.bytes.length r.bc,.slice r.na r.names.length r.nc,.slice r.ta r.tags.length r.tc,.slice r.ka r.kids.length r.kc] 61)):=(hs.alloc _).alloc _
   have hka:=Hka.out
   obtain ⟨qd,q0,q1,q2,q3,q4,q5,q6,-⟩:=q9 w a cap rs r r.ka
   have q7:∀ n:Ext ((w.alloc (.cells #[.slice a rs.length cap] 30)).alloc (.cells #[.string r.name,.int .i64 r.kind,.int .i64 r.size,.bool r.little,.slice r.ba r.bytes.length r.bc,.slice r.na r.names.length r.nc,.slice r.ta r.tags.length r.tc,.slice r.ka r.kids.length r.kc] 61)),n.W.cell? ⟨w.heap.size+1,7,none⟩=some (.slice (some ⟨kb,ko,none⟩) r.kids.length r.kc):=Ext.cells (by simp [go_sem,hka])
   have qk:=Ext.cells (K0.out _ hs2)
   refine wp_region_ext (by kernel_rfl) (by kernel_rfl) ?_;(repeat (go_big_quiet_step ((first|(go_at_call 80;exact extE (call_bool h1 (plainI_FFFF1_k r _ _ hka)))|(go_at_call 81;exact extE (limI_any (by exact hs2.ext _) hD hM _))))));refine wpQuiet_nil ?_;intro _ hw1;obtain ⟨nx,rfl⟩:=hw1
   go_wp2_with fail
   go_ret
   exact ⟨ret_bool Hb.out.symm,(((Since.self w).alloc _).alloc _).ext nx |>.b⟩

theorem vk_5 {w0 w:World}{lo:Nat} (hs:Since lo w0 w) {a:Option Addr}{cap M:Nat}{rs:List R} (hD:Ds w0 lo M a cap rs) (hM:M≤1048576) (r:R) (hr:r.Ok w0 lo M) (hk:r.kind=5) :
  Calls Tryd.prog 72 #[.agg #[.slice a rs.length cap],.agg #[.string r.name,.int .i64 r.kind,.int .i64 r.size,.bool r.little,.slice r.ba r.bytes.length r.bc,.slice r.na r.names.length r.nc,.slice r.ta r.tags.length r.tc,.slice r.ka r.kids.length r.kc]] w fun e w'=>e=.returned (.bool (kindB (rs.map R.toRuleD) r.toRuleD))∧Below w.heap.size w w':=by
 have hlb:=hr.lb
 have hlk:=hr.lk
 cases h1:shapeB r.toRuleD false false false false 2
 ·have Hb:Hid (kindB (rs.map R.toRuleD) r.toRuleD=false):=by unfold Hid;unfold kindB;rw [if_neg (by omega)];rw [if_neg (by omega)];rw [if_neg (by omega)];rw [if_neg (by omega)];rw [if_pos hk];simp [h1]
  obtain ⟨e1,e2,e3,e4,e5,e6,e7,e8,e9,e10⟩:=kE5 hk
  clear hk
  go_enter Tryd.func72,Tryd.ntmps72
  go_wp2_with fail
  have hs2:Since lo w0 ((w.alloc (.cells #[.slice a rs.length cap] 30)).alloc (.cells #[.string r.name,.int .i64 r.kind,.int .i64 r.size,.bool r.little,.slice r.ba r.bytes.length r.bc,.slice r.na r.names.length r.nc,.slice r.ta r.tags.length r.tc,.slice r.ka r.kids.length r.kc] 61)):=(hs.alloc _).alloc _
  obtain ⟨qd,q0,q1,q2,q3,q4,q5,q6,q7⟩:=q9 w a cap rs r r.ka
  refine wp_region_ext (by kernel_rfl) (by kernel_rfl) ?_;(repeat (go_big_quiet_step ((go_at_call 80;exact extE (call_bool h1 (plainI_FFFF2 r _))))));refine wpQuiet_nil ?_;intro _ hw1;obtain ⟨nx,rfl⟩:=hw1
  go_wp2_with fail
  go_ret
  exact ⟨ret_bool Hb.out.symm,(((Since.self w).alloc _).alloc _).ext nx |>.b⟩
 ·have g1:0<r.kids.length:=by have:=shape_len (by omega) h1;omega
  obtain ⟨kb,ko,hka,hkb0,_,_,_⟩:=hr.kids.pos hs (by simp;omega)
  have hkr:=hr.kids
  rw [hka] at hkr
  have Hka:=Lib.hid hka
  have K0:Hid (∀ wx,Since lo w0 wx→wx.cell? ⟨kb,ko,none⟩=some (.int .i64 (kid0 r.toRuleD))):=by
   intro wx hx
   have:=Row.i64 hx hkr 0 g1
   have hk0:=kids0 (r:=r.toRuleD) g1
   rw [List.getElem?_eq_getElem g1] at hk0
   rw [Option.some.inj hk0] at this
   exact this
  clear hka hkr
  by_cases h2:0<limD (rs.map R.toRuleD) (kid0 r.toRuleD)
  ·have Hb:Hid (kindB (rs.map R.toRuleD) r.toRuleD=true):=by unfold Hid;unfold kindB;rw [if_neg (by omega)];rw [if_neg (by omega)];rw [if_neg (by omega)];rw [if_neg (by omega)];rw [if_pos hk];simp [h1,h2]
   have d2:decide (0<limD (rs.map R.toRuleD) (kid0 r.toRuleD))=true:=by simp [h2]
   obtain ⟨e1,e2,e3,e4,e5,e6,e7,e8,e9,e10⟩:=kE5 hk
   clear hk h2
   go_enter Tryd.func72,Tryd.ntmps72
   go_wp2_with fail
   have hs2:Since lo w0 ((w.alloc (.cells #[.slice a rs.length cap] 30)).alloc (.cells #[.string r.name,.int .i64 r.kind,.int .i64 r.size,.bool r.little,.slice r.ba r.bytes.length r.bc,.slice r.na r.names.length r.nc,.slice r.ta r.tags.length r.tc,.slice r.ka r.kids.length r.kc] 61)):=(hs.alloc _).alloc _
   have hka:=Hka.out
   obtain ⟨qd,q0,q1,q2,q3,q4,q5,q6,-⟩:=q9 w a cap rs r r.ka
   have q7:∀ n:Ext ((w.alloc (.cells #[.slice a rs.length cap] 30)).alloc (.cells #[.string r.name,.int .i64 r.kind,.int .i64 r.size,.bool r.little,.slice r.ba r.bytes.length r.bc,.slice r.na r.names.length r.nc,.slice r.ta r.tags.length r.tc,.slice r.ka r.kids.length r.kc] 61)),n.W.cell? ⟨w.heap.size+1,7,none⟩=some (.slice (some ⟨kb,ko,none⟩) r.kids.length r.kc):=Ext.cells (by simp [go_sem,hka])
   have qk:=Ext.cells (K0.out _ hs2)
   refine wp_region_ext (by kernel_rfl) (by kernel_rfl) ?_;(repeat (go_big_quiet_step ((first|(go_at_call 80;exact extE (call_bool h1 (plainI_FFFF2_k r _ _ hka)))|(go_at_call 81;exact extE (limI_any (by exact hs2.ext _) hD hM _))))));refine wpQuiet_nil ?_;intro _ hw1;obtain ⟨nx,rfl⟩:=hw1
   go_wp2_with fail
   go_ret
   exact ⟨ret_bool Hb.out.symm,(((Since.self w).alloc _).alloc _).ext nx |>.b⟩
  ·have Hb:Hid (kindB (rs.map R.toRuleD) r.toRuleD=false):=by unfold Hid;unfold kindB;rw [if_neg (by omega)];rw [if_neg (by omega)];rw [if_neg (by omega)];rw [if_neg (by omega)];rw [if_pos hk];simp [h1,h2]
   have d2:decide (0<limD (rs.map R.toRuleD) (kid0 r.toRuleD))=false:=by simp [h2]
   obtain ⟨e1,e2,e3,e4,e5,e6,e7,e8,e9,e10⟩:=kE5 hk
   clear hk h2
   go_enter Tryd.func72,Tryd.ntmps72
   go_wp2_with fail
   have hs2:Since lo w0 ((w.alloc (.cells #[.slice a rs.length cap] 30)).alloc (.cells #[.string r.name,.int .i64 r.kind,.int .i64 r.size,.bool r.little,.slice r.ba r.bytes.length r.bc,.slice r.na r.names.length r.nc,.slice r.ta r.tags.length r.tc,.slice r.ka r.kids.length r.kc] 61)):=(hs.alloc _).alloc _
   have hka:=Hka.out
   obtain ⟨qd,q0,q1,q2,q3,q4,q5,q6,-⟩:=q9 w a cap rs r r.ka
   have q7:∀ n:Ext ((w.alloc (.cells #[.slice a rs.length cap] 30)).alloc (.cells #[.string r.name,.int .i64 r.kind,.int .i64 r.size,.bool r.little,.slice r.ba r.bytes.length r.bc,.slice r.na r.names.length r.nc,.slice r.ta r.tags.length r.tc,.slice r.ka r.kids.length r.kc] 61)),n.W.cell? ⟨w.heap.size+1,7,none⟩=some (.slice (some ⟨kb,ko,none⟩) r.kids.length r.kc):=Ext.cells (by simp [go_sem,hka])
   have qk:=Ext.cells (K0.out _ hs2)
   refine wp_region_ext (by kernel_rfl) (by kernel_rfl) ?_;(repeat (go_big_quiet_step ((first|(go_at_call 80;exact extE (call_bool h1 (plainI_FFFF2_k r _ _ hka)))|(go_at_call 81;exact extE (limI_any (by exact hs2.ext _) hD hM _))))));refine wpQuiet_nil ?_;intro _ hw1;obtain ⟨nx,rfl⟩:=hw1
   go_wp2_with fail
   go_ret
   exact ⟨ret_bool Hb.out.symm,(((Since.self w).alloc _).alloc _).ext nx |>.b⟩

theorem vk_6 {w0 w:World}{lo:Nat} (hs:Since lo w0 w) {a:Option Addr}{cap M:Nat}{rs:List R} (hD:Ds w0 lo M a cap rs) (hM:M≤1048576) (r:R) (hr:r.Ok w0 lo M) (hk:r.kind=6) :
  Calls Tryd.prog 72 #[.agg #[.slice a rs.length cap],.agg #[.string r.name,.int .i64 r.kind,.int .i64 r.size,.bool r.little,.slice r.ba r.bytes.length r.bc,.slice r.na r.names.length r.nc,.slice r.ta r.tags.length r.tc,.slice r.ka r.kids.length r.kc]] w fun e w'=>e=.returned (.bool (kindB (rs.map R.toRuleD) r.toRuleD))∧Below w.heap.size w w':=by
 have hlb:=hr.lb
 have hlk:=hr.lk
 have Hb:Hid (kindB (rs.map R.toRuleD) r.toRuleD=seqB r.toRuleD):=by unfold Hid;unfold kindB;rw [if_neg (by omega)];rw [if_neg (by omega)];rw [if_neg (by omega)];rw [if_neg (by omega)];rw [if_neg (by omega)];rw [if_pos hk]
 obtain ⟨e1,e2,e3,e4,e5,e6,e7,e8,e9,e10⟩:=kE6 hk
 clear hk
 go_enter Tryd.func72,Tryd.ntmps72
 go_wp2_with (first|(go_at_call 82;refine (validSeq_any sinS hM r hr).mono ?_;rintro e w1 ⟨rfl,hb1⟩;obtain ⟨hc1,hf1⟩:=bcell hb1))
 go_ret
 exact ⟨ret_bool Hb.out.symm,(Since.b belS)⟩

theorem vk_7 {w0 w:World}{lo:Nat} (hs:Since lo w0 w) {a:Option Addr}{cap M:Nat}{rs:List R} (hD:Ds w0 lo M a cap rs) (hM:M≤1048576) (r:R) (hr:r.Ok w0 lo M) (hk:r.kind=7) :
  Calls Tryd.prog 72 #[.agg #[.slice a rs.length cap],.agg #[.string r.name,.int .i64 r.kind,.int .i64 r.size,.bool r.little,.slice r.ba r.bytes.length r.bc,.slice r.na r.names.length r.nc,.slice r.ta r.tags.length r.tc,.slice r.ka r.kids.length r.kc]] w fun e w'=>e=.returned (.bool (kindB (rs.map R.toRuleD) r.toRuleD))∧Below w.heap.size w w':=by
 have hlb:=hr.lb
 have hlk:=hr.lk
 have Hb:Hid (kindB (rs.map R.toRuleD) r.toRuleD=choB (rs.map R.toRuleD) r.toRuleD):=by unfold Hid;unfold kindB;rw [if_neg (by omega)];rw [if_neg (by omega)];rw [if_neg (by omega)];rw [if_neg (by omega)];rw [if_neg (by omega)];rw [if_neg (by omega)];rw [if_pos hk]
 obtain ⟨e1,e2,e3,e4,e5,e6,e7,e8,e9,e10⟩:=kE7 hk
 clear hk
 go_enter Tryd.func72,Tryd.ntmps72
 go_wp2_with (first|(go_at_call 83;refine (validCho_any sinS hD hM r hr).mono ?_;rintro e w1 ⟨rfl,hb1⟩;obtain ⟨hc1,hf1⟩:=bcell hb1))
 go_ret
 exact ⟨ret_bool Hb.out.symm,(Since.b belS)⟩

theorem vk_8 {w0 w:World}{lo:Nat} (hs:Since lo w0 w) {a:Option Addr}{cap M:Nat}{rs:List R} (hD:Ds w0 lo M a cap rs) (hM:M≤1048576) (r:R) (hr:r.Ok w0 lo M) (hk:r.kind=8) :
  Calls Tryd.prog 72 #[.agg #[.slice a rs.length cap],.agg #[.string r.name,.int .i64 r.kind,.int .i64 r.size,.bool r.little,.slice r.ba r.bytes.length r.bc,.slice r.na r.names.length r.nc,.slice r.ta r.tags.length r.tc,.slice r.ka r.kids.length r.kc]] w fun e w'=>e=.returned (.bool (kindB (rs.map R.toRuleD) r.toRuleD))∧Below w.heap.size w w':=by
 have hlb:=hr.lb
 have hlk:=hr.lk
 have Hb:Hid (kindB (rs.map R.toRuleD) r.toRuleD=shapeB r.toRuleD false false false false 1):=by unfold Hid;unfold kindB;rw [if_neg (by omega)];rw [if_neg (by omega)];rw [if_neg (by omega)];rw [if_neg (by omega)];rw [if_neg (by omega)];rw [if_neg (by omega)];rw [if_neg (by omega)];rw [if_pos hk]
 obtain ⟨e1,e2,e3,e4,e5,e6,e7,e8,e9,e10⟩:=kE8 hk
 clear hk
 go_enter Tryd.func72,Tryd.ntmps72
 go_wp2_with (first|(go_at_call 80;refine (plainI_FFFF1 r _).mono ?_;rintro e w1 ⟨rfl,hb1⟩;obtain ⟨hc1,hf1⟩:=bcell hb1))
 go_ret
 exact ⟨ret_bool Hb.out.symm,(Since.b belS)⟩

theorem vk_9 {w0 w:World}{lo:Nat} (hs:Since lo w0 w) {a:Option Addr}{cap M:Nat}{rs:List R} (hD:Ds w0 lo M a cap rs) (hM:M≤1048576) (r:R) (hr:r.Ok w0 lo M) (hk:r.kind=9) :
  Calls Tryd.prog 72 #[.agg #[.slice a rs.length cap],.agg #[.string r.name,.int .i64 r.kind,.int .i64 r.size,.bool r.little,.slice r.ba r.bytes.length r.bc,.slice r.na r.names.length r.nc,.slice r.ta r.tags.length r.tc,.slice r.ka r.kids.length r.kc]] w fun e w'=>e=.returned (.bool (kindB (rs.map R.toRuleD) r.toRuleD))∧Below w.heap.size w w':=by
 have hlb:=hr.lb
 have hlk:=hr.lk
 have Hb:Hid (kindB (rs.map R.toRuleD) r.toRuleD=shapeB r.toRuleD false false false false 1):=by unfold Hid;unfold kindB;rw [if_neg (by omega)];rw [if_neg (by omega)];rw [if_neg (by omega)];rw [if_neg (by omega)];rw [if_neg (by omega)];rw [if_neg (by omega)];rw [if_neg (by omega)];rw [if_neg (by omega)];rw [if_pos hk]
 obtain ⟨e1,e2,e3,e4,e5,e6,e7,e8,e9,e10⟩:=kE9 hk
 clear hk
 go_enter Tryd.func72,Tryd.ntmps72
 go_wp2_with (first|(go_at_call 80;refine (plainI_FFFF1 r _).mono ?_;rintro e w1 ⟨rfl,hb1⟩;obtain ⟨hc1,hf1⟩:=bcell hb1))
 go_ret
 exact ⟨ret_bool Hb.out.symm,(Since.b belS)⟩

theorem vk_10 {w0 w:World}{lo:Nat} (hs:Since lo w0 w) {a:Option Addr}{cap M:Nat}{rs:List R} (hD:Ds w0 lo M a cap rs) (hM:M≤1048576) (r:R) (hr:r.Ok w0 lo M) (hk:r.kind=10) :
  Calls Tryd.prog 72 #[.agg #[.slice a rs.length cap],.agg #[.string r.name,.int .i64 r.kind,.int .i64 r.size,.bool r.little,.slice r.ba r.bytes.length r.bc,.slice r.na r.names.length r.nc,.slice r.ta r.tags.length r.tc,.slice r.ka r.kids.length r.kc]] w fun e w'=>e=.returned (.bool (kindB (rs.map R.toRuleD) r.toRuleD))∧Below w.heap.size w w':=by
 have hlb:=hr.lb
 have hlk:=hr.lk
 cases h1:shapeB r.toRuleD false true false false 0
 ·have Hb:Hid (kindB (rs.map R.toRuleD) r.toRuleD=false):=by unfold Hid;unfold kindB;rw [if_neg (by omega)];rw [if_neg (by omega)];rw [if_neg (by omega)];rw [if_neg (by omega)];rw [if_neg (by omega)];rw [if_neg (by omega)];rw [if_neg (by omega)];rw [if_neg (by omega)];rw [if_neg (by omega)];rw [if_pos hk];simp [h1]
  obtain ⟨e1,e2,e3,e4,e5,e6,e7,e8,e9,e10⟩:=kE10 hk
  clear hk
  go_enter Tryd.func72,Tryd.ntmps72
  go_wp2_with (first|(go_at_call 80;refine (plainI_FTFF0 r _).mono ?_;rintro e w1 ⟨rfl,hb1⟩;obtain ⟨hc1,hf1⟩:=bcell hb1))
  go_ret
  exact ⟨ret_bool Hb.out.symm,(Since.b belS)⟩
 ·by_cases h2:r.bytes.length=1
  ·have hbr:=hr.bytes
   obtain ⟨bb,bo,hba,hbb0,_,_,_⟩:=hbr.pos hs (by simp;omega)
   rw [hba] at hbr
   have Hba:=Lib.hid hba
   have g2:0<r.bytes.length:=by omega
   have K0:Hid (∀ wx,Since lo w0 wx→wx.cell? ⟨bb,bo,none⟩=some (.int .u8 (r.bytes.headD 0).toNat)):=by
    intro wx hx
    obtain ⟨b',o',ha,_,_,_,hc⟩:=hbr.pos hx (by simp;omega)
    simp only [Option.some.injEq,Addr.mk.injEq,and_true] at ha
    obtain ⟨rfl,rfl⟩:=ha
    have:=hc 0 _ (map_at u8v g2)
    have hh:r.bytes[0]=r.bytes.headD 0:=head_get g2
    rw [hh] at this
    exact this
   clear hba hbr
   have E1:Hid (((r.bytes.length:Int)==1)=true):=by unfold Hid;rw [beq_iff_eq];omega
   generalize hB0:r.bytes.headD 0=B0 at *
   by_cases h3:B0=92
   ·have E2:Hid (((B0.toNat:Int)==92)=true∧((B0.toNat:Int) != 92)=false):=by subst h3;exact ⟨rfl,rfl⟩
    have Hb:Hid (kindB (rs.map R.toRuleD) r.toRuleD=false):=by unfold Hid;unfold kindB;rw [if_neg (by omega)];rw [if_neg (by omega)];rw [if_neg (by omega)];rw [if_neg (by omega)];rw [if_neg (by omega)];rw [if_neg (by omega)];rw [if_neg (by omega)];rw [if_neg (by omega)];rw [if_neg (by omega)];rw [if_pos hk];rw [h1,hB0];simp [h2,h3]
    obtain ⟨e1,e2,e3,e4,e5,e6,e7,e8,e9,e10⟩:=kE10 hk
    clear hk h2 h3
    go_enter Tryd.func72,Tryd.ntmps72
    go_wp2_with (first|(go_at_call 80;refine (plainI_FTFF0 r _).mono ?_;rintro e w1 ⟨rfl,hb1⟩;obtain ⟨hc1,hf1⟩:=bcell hb1;have hba:=Hba.out;have K0w:=K0.out w hs;have E1:=E1.out;obtain ⟨E2,E3⟩:=E2.out))
    go_ret
    exact ⟨ret_bool Hb.out.symm,(Since.b belS)⟩
   ·have E2:Hid (((B0.toNat:Int)==92)=false∧((B0.toNat:Int) != 92)=true):=by
     have:¬((B0.toNat:Int)=92):=fun e=>h3 (UInt8.toNat_inj.1 (by simp;omega))
     exact ⟨by simpa using this,by simpa using this⟩
    have Hb:Hid (kindB (rs.map R.toRuleD) r.toRuleD=true):=by unfold Hid;unfold kindB;rw [if_neg (by omega)];rw [if_neg (by omega)];rw [if_neg (by omega)];rw [if_neg (by omega)];rw [if_neg (by omega)];rw [if_neg (by omega)];rw [if_neg (by omega)];rw [if_neg (by omega)];rw [if_neg (by omega)];rw [if_pos hk];rw [h1,hB0];simp [h2,h3]
    obtain ⟨e1,e2,e3,e4,e5,e6,e7,e8,e9,e10⟩:=kE10 hk
    clear hk h2 h3
    go_enter Tryd.func72,Tryd.ntmps72
    go_wp2_with (first|(go_at_call 80;refine (plainI_FTFF0 r _).mono ?_;rintro e w1 ⟨rfl,hb1⟩;obtain ⟨hc1,hf1⟩:=bcell hb1;have hba:=Hba.out;have K0w:=K0.out w hs;have E1:=E1.out;obtain ⟨E2,E3⟩:=E2.out))
    go_ret
    exact ⟨ret_bool Hb.out.symm,(Since.b belS)⟩
  ·have E1:((r.bytes.length:Int)==1)=false:=by rw [beq_eq_false_iff_ne];omega
   have Hb:Hid (kindB (rs.map R.toRuleD) r.toRuleD=false):=by unfold Hid;unfold kindB;rw [if_neg (by omega)];rw [if_neg (by omega)];rw [if_neg (by omega)];rw [if_neg (by omega)];rw [if_neg (by omega)];rw [if_neg (by omega)];rw [if_neg (by omega)];rw [if_neg (by omega)];rw [if_neg (by omega)];rw [if_pos hk];simp [h1,h2]
   obtain ⟨e1,e2,e3,e4,e5,e6,e7,e8,e9,e10⟩:=kE10 hk
   clear hk h2
   go_enter Tryd.func72,Tryd.ntmps72
   go_wp2_with (first|(go_at_call 80;refine (plainI_FTFF0 r _).mono ?_;rintro e w1 ⟨rfl,hb1⟩;obtain ⟨hc1,hf1⟩:=bcell hb1))
   go_ret
   exact ⟨ret_bool Hb.out.symm,(Since.b belS)⟩

theorem vk_else {w0 w:World}{lo:Nat} (_hs:Since lo w0 w) {a:Option Addr}{cap:Nat}{rs:List R} (r:R) (hk:¬(1≤r.kind∧r.kind≤10)) :
  Calls Tryd.prog 72 #[.agg #[.slice a rs.length cap],.agg #[.string r.name,.int .i64 r.kind,.int .i64 r.size,.bool r.little,.slice r.ba r.bytes.length r.bc,.slice r.na r.names.length r.nc,.slice r.ta r.tags.length r.tc,.slice r.ka r.kids.length r.kc]] w fun e w'=>e=.returned (.bool (kindB (rs.map R.toRuleD) r.toRuleD))∧Below w.heap.size w w':=by
 have Hb:=Lib.hid (kind_not (D:=rs.map R.toRuleD) (r:=r.toRuleD) hk)
 have e1:(r.kind==1)=false:=by rw [beq_eq_false_iff_ne];omega
 have e2:(r.kind==2)=false:=by rw [beq_eq_false_iff_ne];omega
 have e3:(r.kind==3)=false:=by rw [beq_eq_false_iff_ne];omega
 have e4:(r.kind==4)=false:=by rw [beq_eq_false_iff_ne];omega
 have e5:(r.kind==5)=false:=by rw [beq_eq_false_iff_ne];omega
 have e6:(r.kind==6)=false:=by rw [beq_eq_false_iff_ne];omega
 have e7:(r.kind==7)=false:=by rw [beq_eq_false_iff_ne];omega
 have e8:(r.kind==8)=false:=by rw [beq_eq_false_iff_ne];omega
 have e9:(r.kind==9)=false:=by rw [beq_eq_false_iff_ne];omega
 have e10:(r.kind==10)=false:=by rw [beq_eq_false_iff_ne];omega
 clear hk
 go_enter Tryd.func72,Tryd.ntmps72
 go_wp2_with fail
 go_ret
 exact ⟨ret_bool Hb.out.symm,(Since.b belS)⟩

theorem validKind_any {w0 w:World}{lo:Nat} (hs:Since lo w0 w) {a:Option Addr}{cap M:Nat}{rs:List R} (hD:Ds w0 lo M a cap rs) (hM:M≤1048576) (r:R) (hr:r.Ok w0 lo M) :
  Calls Tryd.prog 72 #[.agg #[.slice a rs.length cap],.agg #[.string r.name,.int .i64 r.kind,.int .i64 r.size,.bool r.little,.slice r.ba r.bytes.length r.bc,.slice r.na r.names.length r.nc,.slice r.ta r.tags.length r.tc,.slice r.ka r.kids.length r.kc]] w fun e w'=>e=.returned (.bool (kindB (rs.map R.toRuleD) r.toRuleD))∧Below w.heap.size w w':=by
 by_cases hk:1≤r.kind∧r.kind≤10
 ·have h:r.kind=1∨r.kind=2∨r.kind=3∨r.kind=4∨r.kind=5∨r.kind=6∨r.kind=7∨r.kind=8∨r.kind=9∨r.kind=10:=by omega
  rcases h with h|h|h|h|h|h|h|h|h|h
  ·exact vk_1 hs hD hM r hr h
  ·exact vk_2 hs hD hM r hr h
  ·exact vk_3 hs hD hM r hr h
  ·exact vk_4 hs hD hM r hr h
  ·exact vk_5 hs hD hM r hr h
  ·exact vk_6 hs hD hM r hr h
  ·exact vk_7 hs hD hM r hr h
  ·exact vk_8 hs hD hM r hr h
  ·exact vk_9 hs hD hM r hr h
  ·exact vk_10 hs hD hM r hr h
 ·exact vk_else hs r hk

end Go.Proofs.YtaammoodcgfhpaaDoor
namespace Go.Proofs.YtaammoodcgfhpaaDoor
open Go.RowKit

theorem shapeS_FFFF1_k (r:R) (w:World) (x:Option Addr) (h:r.ka=x) :
  Calls Tryd.prog 76 #[.agg #[.string r.name,.int .i64 r.kind,.int .i64 r.size,.bool r.little,.slice r.ba r.bytes.length r.bc,.slice r.na r.names.length r.nc,.slice r.ta r.tags.length r.tc,.slice x r.kids.length r.kc],.bool false,.bool false,.bool false,.bool false,.int .i64 1] w fun e w'=>e=.returned (.bool (shapeL r.toRuleD false false false false 1))∧Below w.heap.size w w':=by
 subst h
 exact shapeS_FFFF1 r w

theorem shapeS_FFFF2_k (r:R) (w:World) (x:Option Addr) (h:r.ka=x) :
  Calls Tryd.prog 76 #[.agg #[.string r.name,.int .i64 r.kind,.int .i64 r.size,.bool r.little,.slice r.ba r.bytes.length r.bc,.slice r.na r.names.length r.nc,.slice r.ta r.tags.length r.tc,.slice x r.kids.length r.kc],.bool false,.bool false,.bool false,.bool false,.int .i64 2] w fun e w'=>e=.returned (.bool (shapeL r.toRuleD false false false false 2))∧Below w.heap.size w w':=by
 subst h
 exact shapeS_FFFF2 r w

theorem head_get' {α:Type} [OfNat α 0] {l:List α} (h:0<l.length):l[0]=l.headD 0:=by
 cases l with
 | nil=>simp at h
 | cons x y=>rfl

theorem Row.i64s {w0 w:World}{lo:Nat} (hs:Since lo w0 w) {b o:Nat}{l:List Int} (h:Row w0 lo (some ⟨b,o,none⟩) (l.map i64v)) (j:Nat) (hj:j<l.length):w.cell? ⟨b,o+j,none⟩=some (.int .i64 l[j]):=by
 obtain ⟨b',o',ha,_,_,_,hc⟩:=h.pos hs (by simp;omega)
 simp only [Option.some.injEq,Addr.mk.injEq,and_true] at ha
 obtain ⟨rfl,rfl⟩:=ha
 exact hc j _ (map_at _ hj)

theorem sk_1 {w0 w:World}{lo:Nat} (hs:Since lo w0 w) {a:Option Addr}{cap M:Nat}{rs:List R} (hD:Ds w0 lo M a cap rs) (hM:M≤1048576) (r:R) (hr:r.Ok w0 lo M) (hk:r.kind=1) :
  Calls Tryd.prog 69 #[.agg #[.slice a rs.length cap],.agg #[.string r.name,.int .i64 r.kind,.int .i64 r.size,.bool r.little,.slice r.ba r.bytes.length r.bc,.slice r.na r.names.length r.nc,.slice r.ta r.tags.length r.tc,.slice r.ka r.kids.length r.kc]] w fun e w'=>e=.returned (.bool (kindL (rs.map R.toRuleD) r.toRuleD))∧Below w.heap.size w w':=by
 have hlb:=hr.lb
 have hlk:=hr.lk
 cases h1:shapeL r.toRuleD true false false false 0
 ·have Hb:Hid (kindL (rs.map R.toRuleD) r.toRuleD=false):=by unfold Hid;rw [kl_1 hk];simp [h1]
  obtain ⟨e1,e2,e3,e4,e5,e6,e7,e8,e9,e10⟩:=kE1 hk
  clear hk
  go_enter Tryd.func69,Tryd.ntmps69
  go_wp2_with (first|(go_at_call 76;refine (shapeS_TFFF0 r _).mono ?_;rintro e w1 ⟨rfl,hb1⟩;obtain ⟨hc1,hf1⟩:=bcell hb1))
  go_ret
  exact ⟨ret_bool Hb.out.symm,(Since.b belS)⟩
 ·by_cases h2:1≤r.size∧r.size≤4
  ·rcases (show r.little=false∨r.little=true by cases r.little<;>simp) with h3|h3
   ·have Hb:Hid (kindL (rs.map R.toRuleD) r.toRuleD=true):=by unfold Hid;rw [kl_1 hk];simp [h1,h2,h3]
    obtain ⟨e1,e2,e3,e4,e5,e6,e7,e8,e9,e10⟩:=kE1 hk
    clear hk
    have HH2:=Lib.hid h2
    clear h2
    have H3:=Lib.hid h3
    clear h3
    go_enter Tryd.func69,Tryd.ntmps69
    go_wp2_with (first|(go_at_call 76;refine (shapeS_TFFF0 r _).mono ?_;rintro e w1 ⟨rfl,hb1⟩;obtain ⟨hc1,hf1⟩:=bcell hb1;have h3:=H3.out)|(go_at_call 30;refine (l1In_t _ _ _ _ HH2.out).mono ?_;rintro e w2 ⟨rfl,rfl⟩))
    go_ret
    exact ⟨ret_bool Hb.out.symm,(Since.b belS)⟩
   ·by_cases h4:1<r.size
    ·have Hb:Hid (kindL (rs.map R.toRuleD) r.toRuleD=true):=by unfold Hid;rw [kl_1 hk];simp [h1,h2,h3,h4]
     obtain ⟨e1,e2,e3,e4,e5,e6,e7,e8,e9,e10⟩:=kE1 hk
     have d4:decide (1<r.size)=true:=by simp [h4]
     clear hk h4
     have HH2:=Lib.hid h2
     clear h2
     have H3:=Lib.hid h3
     clear h3
     go_enter Tryd.func69,Tryd.ntmps69
     go_wp2_with (first|(go_at_call 76;refine (shapeS_TFFF0 r _).mono ?_;rintro e w1 ⟨rfl,hb1⟩;obtain ⟨hc1,hf1⟩:=bcell hb1;have h3:=H3.out)|(go_at_call 30;refine (l1In_t _ _ _ _ HH2.out).mono ?_;rintro e w2 ⟨rfl,rfl⟩))
     go_ret
     exact ⟨ret_bool Hb.out.symm,(Since.b belS)⟩
    ·have Hb:Hid (kindL (rs.map R.toRuleD) r.toRuleD=false):=by unfold Hid;rw [kl_1 hk];simp [h1,h2,h3,h4]
     obtain ⟨e1,e2,e3,e4,e5,e6,e7,e8,e9,e10⟩:=kE1 hk
     have d4:decide (1<r.size)=false:=by simp;omega
     clear hk h4
     have HH2:=Lib.hid h2
     clear h2
     have H3:=Lib.hid h3
     clear h3
     go_enter Tryd.func69,Tryd.ntmps69
     go_wp2_with (first|(go_at_call 76;refine (shapeS_TFFF0 r _).mono ?_;rintro e w1 ⟨rfl,hb1⟩;obtain ⟨hc1,hf1⟩:=bcell hb1;have h3:=H3.out)|(go_at_call 30;refine (l1In_t _ _ _ _ HH2.out).mono ?_;rintro e w2 ⟨rfl,rfl⟩))
     go_ret
     exact ⟨ret_bool Hb.out.symm,(Since.b belS)⟩
  ·have Hb:Hid (kindL (rs.map R.toRuleD) r.toRuleD=false):=by unfold Hid;rw [kl_1 hk];simp [h1,h2]
   obtain ⟨e1,e2,e3,e4,e5,e6,e7,e8,e9,e10⟩:=kE1 hk
   clear hk
   have HH2:=Lib.hid h2
   clear h2
   go_enter Tryd.func69,Tryd.ntmps69
   go_wp2_with (first|(go_at_call 76;refine (shapeS_TFFF0 r _).mono ?_;rintro e w1 ⟨rfl,hb1⟩;obtain ⟨hc1,hf1⟩:=bcell hb1)|(go_at_call 30;refine (l1In_f _ _ _ _ HH2.out).mono ?_;rintro e w2 ⟨rfl,rfl⟩))
   go_ret
   exact ⟨ret_bool Hb.out.symm,(Since.b belS)⟩

theorem sk_2 {w0 w:World}{lo:Nat} (hs:Since lo w0 w) {a:Option Addr}{cap M:Nat}{rs:List R} (hD:Ds w0 lo M a cap rs) (hM:M≤1048576) (r:R) (hr:r.Ok w0 lo M) (hk:r.kind=2) :
  Calls Tryd.prog 69 #[.agg #[.slice a rs.length cap],.agg #[.string r.name,.int .i64 r.kind,.int .i64 r.size,.bool r.little,.slice r.ba r.bytes.length r.bc,.slice r.na r.names.length r.nc,.slice r.ta r.tags.length r.tc,.slice r.ka r.kids.length r.kc]] w fun e w'=>e=.returned (.bool (kindL (rs.map R.toRuleD) r.toRuleD))∧Below w.heap.size w w':=by
 have hlb:=hr.lb
 have hlk:=hr.lk
 cases h1:shapeL r.toRuleD false true false false 0
 ·have Hb:Hid (kindL (rs.map R.toRuleD) r.toRuleD=false):=by unfold Hid;rw [kl_2 hk];simp [h1]
  obtain ⟨e1,e2,e3,e4,e5,e6,e7,e8,e9,e10⟩:=kE2 hk
  clear hk
  go_enter Tryd.func69,Tryd.ntmps69
  go_wp2_with (first|(go_at_call 76;refine (shapeS_FTFF0 r _).mono ?_;rintro e w1 ⟨rfl,hb1⟩;obtain ⟨hc1,hf1⟩:=bcell hb1))
  go_ret
  exact ⟨ret_bool Hb.out.symm,(Since.b belS)⟩
 ·by_cases h2:1≤(r.bytes.length:Int)∧(r.bytes.length:Int)≤16
  ·have Hb:Hid (kindL (rs.map R.toRuleD) r.toRuleD=true):=by unfold Hid;rw [kl_2 hk];simp [h1];omega
   obtain ⟨e1,e2,e3,e4,e5,e6,e7,e8,e9,e10⟩:=kE2 hk
   clear hk
   have HH2:=Lib.hid h2
   clear h2
   go_enter Tryd.func69,Tryd.ntmps69
   go_wp2_with (first|(go_at_call 76;refine (shapeS_FTFF0 r _).mono ?_;rintro e w1 ⟨rfl,hb1⟩;obtain ⟨hc1,hf1⟩:=bcell hb1)|(go_at_call 30;refine (l1In_t _ _ _ _ HH2.out).mono ?_;rintro e w2 ⟨rfl,rfl⟩))
   go_ret
   exact ⟨ret_bool Hb.out.symm,(Since.b belS)⟩
  ·have Hb:Hid (kindL (rs.map R.toRuleD) r.toRuleD=false):=by unfold Hid;rw [kl_2 hk];simp [h1];omega
   obtain ⟨e1,e2,e3,e4,e5,e6,e7,e8,e9,e10⟩:=kE2 hk
   clear hk
   have HH2:=Lib.hid h2
   clear h2
   go_enter Tryd.func69,Tryd.ntmps69
   go_wp2_with (first|(go_at_call 76;refine (shapeS_FTFF0 r _).mono ?_;rintro e w1 ⟨rfl,hb1⟩;obtain ⟨hc1,hf1⟩:=bcell hb1)|(go_at_call 30;refine (l1In_f _ _ _ _ HH2.out).mono ?_;rintro e w2 ⟨rfl,rfl⟩))
   go_ret
   exact ⟨ret_bool Hb.out.symm,(Since.b belS)⟩

theorem sk_3 {w0 w:World}{lo:Nat} (hs:Since lo w0 w) {a:Option Addr}{cap M:Nat}{rs:List R} (hD:Ds w0 lo M a cap rs) (hM:M≤1048576) (r:R) (hr:r.Ok w0 lo M) (hk:r.kind=3) :
  Calls Tryd.prog 69 #[.agg #[.slice a rs.length cap],.agg #[.string r.name,.int .i64 r.kind,.int .i64 r.size,.bool r.little,.slice r.ba r.bytes.length r.bc,.slice r.na r.names.length r.nc,.slice r.ta r.tags.length r.tc,.slice r.ka r.kids.length r.kc]] w fun e w'=>e=.returned (.bool (kindL (rs.map R.toRuleD) r.toRuleD))∧Below w.heap.size w w':=by
 have hlb:=hr.lb
 have hlk:=hr.lk
 cases h1:shapeL r.toRuleD true false false false 0
 ·have Hb:Hid (kindL (rs.map R.toRuleD) r.toRuleD=false):=by unfold Hid;rw [kl_3 hk];simp [h1]
  obtain ⟨e1,e2,e3,e4,e5,e6,e7,e8,e9,e10⟩:=kE3 hk
  clear hk
  go_enter Tryd.func69,Tryd.ntmps69
  go_wp2_with (first|(go_at_call 76;refine (shapeS_TFFF0 r _).mono ?_;rintro e w1 ⟨rfl,hb1⟩;obtain ⟨hc1,hf1⟩:=bcell hb1))
  go_ret
  exact ⟨ret_bool Hb.out.symm,(Since.b belS)⟩
 ·by_cases h2:1≤r.size∧r.size≤64
  ·have Hb:Hid (kindL (rs.map R.toRuleD) r.toRuleD=true):=by unfold Hid;rw [kl_3 hk];simp [h1];omega
   obtain ⟨e1,e2,e3,e4,e5,e6,e7,e8,e9,e10⟩:=kE3 hk
   clear hk
   have HH2:=Lib.hid h2
   clear h2
   go_enter Tryd.func69,Tryd.ntmps69
   go_wp2_with (first|(go_at_call 76;refine (shapeS_TFFF0 r _).mono ?_;rintro e w1 ⟨rfl,hb1⟩;obtain ⟨hc1,hf1⟩:=bcell hb1)|(go_at_call 30;refine (l1In_t _ _ _ _ HH2.out).mono ?_;rintro e w2 ⟨rfl,rfl⟩))
   go_ret
   exact ⟨ret_bool Hb.out.symm,(Since.b belS)⟩
  ·have Hb:Hid (kindL (rs.map R.toRuleD) r.toRuleD=false):=by unfold Hid;rw [kl_3 hk];simp [h1];omega
   obtain ⟨e1,e2,e3,e4,e5,e6,e7,e8,e9,e10⟩:=kE3 hk
   clear hk
   have HH2:=Lib.hid h2
   clear h2
   go_enter Tryd.func69,Tryd.ntmps69
   go_wp2_with (first|(go_at_call 76;refine (shapeS_TFFF0 r _).mono ?_;rintro e w1 ⟨rfl,hb1⟩;obtain ⟨hc1,hf1⟩:=bcell hb1)|(go_at_call 30;refine (l1In_f _ _ _ _ HH2.out).mono ?_;rintro e w2 ⟨rfl,rfl⟩))
   go_ret
   exact ⟨ret_bool Hb.out.symm,(Since.b belS)⟩

theorem sk_4 {w0 w:World}{lo:Nat} (hs:Since lo w0 w) {a:Option Addr}{cap M:Nat}{rs:List R} (hD:Ds w0 lo M a cap rs) (hM:M≤1048576) (r:R) (hr:r.Ok w0 lo M) (hk:r.kind=4) :
  Calls Tryd.prog 69 #[.agg #[.slice a rs.length cap],.agg #[.string r.name,.int .i64 r.kind,.int .i64 r.size,.bool r.little,.slice r.ba r.bytes.length r.bc,.slice r.na r.names.length r.nc,.slice r.ta r.tags.length r.tc,.slice r.ka r.kids.length r.kc]] w fun e w'=>e=.returned (.bool (kindL (rs.map R.toRuleD) r.toRuleD))∧Below w.heap.size w w':=by
 have hlb:=hr.lb
 have hlk:=hr.lk
 cases h1:shapeL r.toRuleD false false false false 1
 ·have Hb:Hid (kindL (rs.map R.toRuleD) r.toRuleD=false):=by unfold Hid;rw [kl_4 hk];simp [h1]
  obtain ⟨e1,e2,e3,e4,e5,e6,e7,e8,e9,e10⟩:=kE4 hk
  clear hk
  go_enter Tryd.func69,Tryd.ntmps69
  go_wp2_with fail
  have hs2:Since lo w0 ((w.alloc (.cells #[.slice a rs.length cap] 30)).alloc (.cells #[.string r.name,.int .i64 r.kind,.int .i64 r.size,.bool r.little,.slice r.ba r.bytes.length r.bc,.slice r.na r.names.length r.nc,.slice r.ta r.tags.length r.tc,.slice r.ka r.kids.length r.kc] 61)):=(hs.alloc _).alloc _
  obtain ⟨qd,q0,q1,q2,q3,q4,q5,q6,q7⟩:=q9 w a cap rs r r.ka
  refine wp_region_ext (by kernel_rfl) (by kernel_rfl) ?_;(repeat (go_big_quiet_step ((go_at_call 76;exact extE (call_bool h1 (shapeS_FFFF1 r _))))));refine wpQuiet_nil ?_;intro _ hw1;obtain ⟨nx,rfl⟩:=hw1
  go_wp2_with fail
  go_ret
  exact ⟨ret_bool Hb.out.symm,(((Since.self w).alloc _).alloc _).ext nx |>.b⟩
 ·have g1:0<r.kids.length:=by have:=shape_len (by omega) (shapeL_b h1);omega
  obtain ⟨kb,ko,hka,hkb0,_,_,_⟩:=hr.kids.pos hs (by simp;omega)
  have hkr:=hr.kids
  rw [hka] at hkr
  have Hka:=Lib.hid hka
  have K0:Hid (∀ wx,Since lo w0 wx→wx.cell? ⟨kb,ko,none⟩=some (.int .i64 (kid0 r.toRuleD))):=by
   intro wx hx
   have:=Row.i64s hx hkr 0 g1
   have hk0:=kids0 (r:=r.toRuleD) g1
   rw [List.getElem?_eq_getElem g1] at hk0
   rw [Option.some.inj hk0] at this
   exact this
  clear hka hkr
  by_cases h2:0<limD (rs.map R.toRuleD) (kid0 r.toRuleD)
  ·have Hb:Hid (kindL (rs.map R.toRuleD) r.toRuleD=true):=by unfold Hid;rw [kl_4 hk];simp [h1,h2]
   have d2:decide (0<limD (rs.map R.toRuleD) (kid0 r.toRuleD))=true:=by simp [h2]
   obtain ⟨e1,e2,e3,e4,e5,e6,e7,e8,e9,e10⟩:=kE4 hk
   clear hk h2
   go_enter Tryd.func69,Tryd.ntmps69
   go_wp2_with fail
   have hs2:Since lo w0 ((w.alloc (.cells #[.slice a rs.length cap] 30)).alloc (.cells #[.string r.name,.int .i64 r.kind,.int .i64 r.size,.bool r.little,.slice r.ba r.bytes.length r.bc,.slice r.na r.names.length r.nc,.slice r.ta r.tags.length r.tc,.slice r.ka r.kids.length r.kc] 61)):=(hs.alloc _).alloc _
   have hka:=Hka.out
   obtain ⟨qd,q0,q1,q2,q3,q4,q5,q6,-⟩:=q9 w a cap rs r r.ka
   have q7:∀ n:Ext ((w.alloc (.cells #[.slice a rs.length cap] 30)).alloc (.cells #[.string r.name,.int .i64 r.kind,.int .i64 r.size,.bool r.little,.slice r.ba r.bytes.length r.bc,.slice r.na r.names.length r.nc,.slice r.ta r.tags.length r.tc,.slice r.ka r.kids.length r.kc] 61)),n.W.cell? ⟨w.heap.size+1,7,none⟩=some (.slice (some ⟨kb,ko,none⟩) r.kids.length r.kc):=Ext.cells (by simp [go_sem,hka])
   have qk:=Ext.cells (K0.out _ hs2)
   refine wp_region_ext (by kernel_rfl) (by kernel_rfl) ?_;(repeat (go_big_quiet_step ((first|(go_at_call 76;exact extE (call_bool h1 (shapeS_FFFF1_k r _ _ hka)))|(go_at_call 77;exact extE (limS_any (by exact hs2.ext _) hD hM _))))));refine wpQuiet_nil ?_;intro _ hw1;obtain ⟨nx,rfl⟩:=hw1
   go_wp2_with fail
   go_ret
   exact ⟨ret_bool Hb.out.symm,(((Since.self w).alloc _).alloc _).ext nx |>.b⟩
  ·have Hb:Hid (kindL (rs.map R.toRuleD) r.toRuleD=false):=by unfold Hid;rw [kl_4 hk];simp [h1,h2]
   have d2:decide (0<limD (rs.map R.toRuleD) (kid0 r.toRuleD))=false:=by simp [h2]
   obtain ⟨e1,e2,e3,e4,e5,e6,e7,e8,e9,e10⟩:=kE4 hk
   clear hk h2
   go_enter Tryd.func69,Tryd.ntmps69
   go_wp2_with fail
   have hs2:Since lo w0 ((w.alloc (.cells #[.slice a rs.length cap] 30)).alloc (.cells #[.string r.name,.int .i64 r.kind,.int .i64 r.size,.bool r.little,.slice r.ba r.bytes.length r.bc,.slice r.na r.names.length r.nc,.slice r.ta r.tags.length r.tc,.slice r.ka r.kids.length r.kc] 61)):=(hs.alloc _).alloc _
   have hka:=Hka.out
   obtain ⟨qd,q0,q1,q2,q3,q4,q5,q6,-⟩:=q9 w a cap rs r r.ka
   have q7:∀ n:Ext ((w.alloc (.cells #[.slice a rs.length cap] 30)).alloc (.cells #[.string r.name,.int .i64 r.kind,.int .i64 r.size,.bool r.little,.slice r.ba r.bytes.length r.bc,.slice r.na r.names.length r.nc,.slice r.ta r.tags.length r.tc,.slice r.ka r.kids.length r.kc] 61)),n.W.cell? ⟨w.heap.size+1,7,none⟩=some (.slice (some ⟨kb,ko,none⟩) r.kids.length r.kc):=Ext.cells (by simp [go_sem,hka])
   have qk:=Ext.cells (K0.out _ hs2)
   refine wp_region_ext (by kernel_rfl) (by kernel_rfl) ?_;(repeat (go_big_quiet_step ((first|(go_at_call 76;exact extE (call_bool h1 (shapeS_FFFF1_k r _ _ hka)))|(go_at_call 77;exact extE (limS_any (by exact hs2.ext _) hD hM _))))));refine wpQuiet_nil ?_;intro _ hw1;obtain ⟨nx,rfl⟩:=hw1
   go_wp2_with fail
   go_ret
   exact ⟨ret_bool Hb.out.symm,(((Since.self w).alloc _).alloc _).ext nx |>.b⟩

theorem sk_5 {w0 w:World}{lo:Nat} (hs:Since lo w0 w) {a:Option Addr}{cap M:Nat}{rs:List R} (hD:Ds w0 lo M a cap rs) (hM:M≤1048576) (r:R) (hr:r.Ok w0 lo M) (hk:r.kind=5) :
  Calls Tryd.prog 69 #[.agg #[.slice a rs.length cap],.agg #[.string r.name,.int .i64 r.kind,.int .i64 r.size,.bool r.little,.slice r.ba r.bytes.length r.bc,.slice r.na r.names.length r.nc,.slice r.ta r.tags.length r.tc,.slice r.ka r.kids.length r.kc]] w fun e w'=>e=.returned (.bool (kindL (rs.map R.toRuleD) r.toRuleD))∧Below w.heap.size w w':=by
 have hlb:=hr.lb
 have hlk:=hr.lk
 cases h1:shapeL r.toRuleD false false false false 2
 ·have Hb:Hid (kindL (rs.map R.toRuleD) r.toRuleD=false):=by unfold Hid;rw [kl_5 hk];simp [h1]
  obtain ⟨e1,e2,e3,e4,e5,e6,e7,e8,e9,e10⟩:=kE5 hk
  clear hk
  go_enter Tryd.func69,Tryd.ntmps69
  go_wp2_with fail
  have hs2:Since lo w0 ((w.alloc (.cells #[.slice a rs.length cap] 30)).alloc (.cells #[.string r.name,.int .i64 r.kind,.int .i64 r.size,.bool r.little,.slice r.ba r.bytes.length r.bc,.slice r.na r.names.length r.nc,.slice r.ta r.tags.length r.tc,.slice r.ka r.kids.length r.kc] 61)):=(hs.alloc _).alloc _
  obtain ⟨qd,q0,q1,q2,q3,q4,q5,q6,q7⟩:=q9 w a cap rs r r.ka
  refine wp_region_ext (by kernel_rfl) (by kernel_rfl) ?_;(repeat (go_big_quiet_step ((go_at_call 76;exact extE (call_bool h1 (shapeS_FFFF2 r _))))));refine wpQuiet_nil ?_;intro _ hw1;obtain ⟨nx,rfl⟩:=hw1
  go_wp2_with fail
  go_ret
  exact ⟨ret_bool Hb.out.symm,(((Since.self w).alloc _).alloc _).ext nx |>.b⟩
 ·have g1:0<r.kids.length:=by have:=shape_len (by omega) (shapeL_b h1);omega
  obtain ⟨kb,ko,hka,hkb0,_,_,_⟩:=hr.kids.pos hs (by simp;omega)
  have hkr:=hr.kids
  rw [hka] at hkr
  have Hka:=Lib.hid hka
  have K0:Hid (∀ wx,Since lo w0 wx→wx.cell? ⟨kb,ko,none⟩=some (.int .i64 (kid0 r.toRuleD))):=by
   intro wx hx
   have:=Row.i64s hx hkr 0 g1
   have hk0:=kids0 (r:=r.toRuleD) g1
   rw [List.getElem?_eq_getElem g1] at hk0
   rw [Option.some.inj hk0] at this
   exact this
  clear hka hkr
  by_cases h2:0<limD (rs.map R.toRuleD) (kid0 r.toRuleD)
  ·have Hb:Hid (kindL (rs.map R.toRuleD) r.toRuleD=true):=by unfold Hid;rw [kl_5 hk];simp [h1,h2]
   have d2:decide (0<limD (rs.map R.toRuleD) (kid0 r.toRuleD))=true:=by simp [h2]
   obtain ⟨e1,e2,e3,e4,e5,e6,e7,e8,e9,e10⟩:=kE5 hk
   clear hk h2
   go_enter Tryd.func69,Tryd.ntmps69
   go_wp2_with fail
   have hs2:Since lo w0 ((w.alloc (.cells #[.slice a rs.length cap] 30)).alloc (.cells #[.string r.name,.int .i64 r.kind,.int .i64 r.size,.bool r.little,.slice r.ba r.bytes.length r.bc,.slice r.na r.names.length r.nc,.slice r.ta r.tags.length r.tc,.slice r.ka r.kids.length r.kc] 61)):=(hs.alloc _).alloc _
   have hka:=Hka.out
   obtain ⟨qd,q0,q1,q2,q3,q4,q5,q6,-⟩:=q9 w a cap rs r r.ka
   have q7:∀ n:Ext ((w.alloc (.cells #[.slice a rs.length cap] 30)).alloc (.cells #[.string r.name,.int .i64 r.kind,.int .i64 r.size,.bool r.little,.slice r.ba r.bytes.length r.bc,.slice r.na r.names.length r.nc,.slice r.ta r.tags.length r.tc,.slice r.ka r.kids.length r.kc] 61)),n.W.cell? ⟨w.heap.size+1,7,none⟩=some (.slice (some ⟨kb,ko,none⟩) r.kids.length r.kc):=Ext.cells (by simp [go_sem,hka])
   have qk:=Ext.cells (K0.out _ hs2)
   refine wp_region_ext (by kernel_rfl) (by kernel_rfl) ?_;(repeat (go_big_quiet_step ((first|(go_at_call 76;exact extE (call_bool h1 (shapeS_FFFF2_k r _ _ hka)))|(go_at_call 77;exact extE (limS_any (by exact hs2.ext _) hD hM _))))));refine wpQuiet_nil ?_;intro _ hw1;obtain ⟨nx,rfl⟩:=hw1
   go_wp2_with fail
   go_ret
   exact ⟨ret_bool Hb.out.symm,(((Since.self w).alloc _).alloc _).ext nx |>.b⟩
  ·have Hb:Hid (kindL (rs.map R.toRuleD) r.toRuleD=false):=by unfold Hid;rw [kl_5 hk];simp [h1,h2]
   have d2:decide (0<limD (rs.map R.toRuleD) (kid0 r.toRuleD))=false:=by simp [h2]
   obtain ⟨e1,e2,e3,e4,e5,e6,e7,e8,e9,e10⟩:=kE5 hk
   clear hk h2
   go_enter Tryd.func69,Tryd.ntmps69
   go_wp2_with fail
   have hs2:Since lo w0 ((w.alloc (.cells #[.slice a rs.length cap] 30)).alloc (.cells #[.string r.name,.int .i64 r.kind,.int .i64 r.size,.bool r.little,.slice r.ba r.bytes.length r.bc,.slice r.na r.names.length r.nc,.slice r.ta r.tags.length r.tc,.slice r.ka r.kids.length r.kc] 61)):=(hs.alloc _).alloc _
   have hka:=Hka.out
   obtain ⟨qd,q0,q1,q2,q3,q4,q5,q6,-⟩:=q9 w a cap rs r r.ka
   have q7:∀ n:Ext ((w.alloc (.cells #[.slice a rs.length cap] 30)).alloc (.cells #[.string r.name,.int .i64 r.kind,.int .i64 r.size,.bool r.little,.slice r.ba r.bytes.length r.bc,.slice r.na r.names.length r.nc,.slice r.ta r.tags.length r.tc,.slice r.ka r.kids.length r.kc] 61)),n.W.cell? ⟨w.heap.size+1,7,none⟩=some (.slice (some ⟨kb,ko,none⟩) r.kids.length r.kc):=Ext.cells (by simp [go_sem,hka])
   have qk:=Ext.cells (K0.out _ hs2)
   refine wp_region_ext (by kernel_rfl) (by kernel_rfl) ?_;(repeat (go_big_quiet_step ((first|(go_at_call 76;exact extE (call_bool h1 (shapeS_FFFF2_k r _ _ hka)))|(go_at_call 77;exact extE (limS_any (by exact hs2.ext _) hD hM _))))));refine wpQuiet_nil ?_;intro _ hw1;obtain ⟨nx,rfl⟩:=hw1
   go_wp2_with fail
   go_ret
   exact ⟨ret_bool Hb.out.symm,(((Since.self w).alloc _).alloc _).ext nx |>.b⟩

theorem sk_6 {w0 w:World}{lo:Nat} (hs:Since lo w0 w) {a:Option Addr}{cap M:Nat}{rs:List R} (hD:Ds w0 lo M a cap rs) (hM:M≤1048576) (r:R) (hr:r.Ok w0 lo M) (hk:r.kind=6) :
  Calls Tryd.prog 69 #[.agg #[.slice a rs.length cap],.agg #[.string r.name,.int .i64 r.kind,.int .i64 r.size,.bool r.little,.slice r.ba r.bytes.length r.bc,.slice r.na r.names.length r.nc,.slice r.ta r.tags.length r.tc,.slice r.ka r.kids.length r.kc]] w fun e w'=>e=.returned (.bool (kindL (rs.map R.toRuleD) r.toRuleD))∧Below w.heap.size w w':=by
 have hlb:=hr.lb
 have hlk:=hr.lk
 have hnn:(0:Int)≤(r.names.length:Int):=by omega
 cases h1:shapeL r.toRuleD false false true false r.names.length
 ·have Hb:Hid (kindL (rs.map R.toRuleD) r.toRuleD=false):=by unfold Hid;rw [kl_6 hk];simp [h1]
  obtain ⟨e1,e2,e3,e4,e5,e6,e7,e8,e9,e10⟩:=kE6 hk
  clear hk
  go_enter Tryd.func69,Tryd.ntmps69
  go_wp2_with (first|(go_at_call 76;refine (shapeS_FFTFn r _ _ hnn).mono ?_;rintro e w1 ⟨rfl,hb1⟩;obtain ⟨hc1,hf1⟩:=bcell hb1))
  go_ret
  exact ⟨ret_bool Hb.out.symm,(Since.b belS)⟩
 ·have Hb:Hid (kindL (rs.map R.toRuleD) r.toRuleD=namesB r.names):=by unfold Hid;rw [kl_6 hk];rw [h1,Bool.true_and]
  obtain ⟨e1,e2,e3,e4,e5,e6,e7,e8,e9,e10⟩:=kE6 hk
  clear hk
  go_enter Tryd.func69,Tryd.ntmps69
  go_wp2_with (first|(go_at_call 76;refine (shapeS_FFTFn r _ _ hnn).mono ?_;rintro e w1 ⟨rfl,hb1⟩;obtain ⟨hc1,hf1⟩:=bcell hb1)|(go_at_call 78;refine (l4Names_any sinS hr.names hM hr.ln hr.nm hr.cn).mono ?_;rintro e w2 ⟨rfl,hb2⟩))
  go_ret
  exact ⟨ret_bool Hb.out.symm,(Since.b belS)⟩

theorem sk_7 {w0 w:World}{lo:Nat} (hs:Since lo w0 w) {a:Option Addr}{cap M:Nat}{rs:List R} (hD:Ds w0 lo M a cap rs) (hM:M≤1048576) (r:R) (hr:r.Ok w0 lo M) (hk:r.kind=7) :
  Calls Tryd.prog 69 #[.agg #[.slice a rs.length cap],.agg #[.string r.name,.int .i64 r.kind,.int .i64 r.size,.bool r.little,.slice r.ba r.bytes.length r.bc,.slice r.na r.names.length r.nc,.slice r.ta r.tags.length r.tc,.slice r.ka r.kids.length r.kc]] w fun e w'=>e=.returned (.bool (kindL (rs.map R.toRuleD) r.toRuleD))∧Below w.heap.size w w':=by
 have hlb:=hr.lb
 have hlk:=hr.lk
 cases h1:shapeL r.toRuleD false false false true (-1)
 ·have Hb:Hid (kindL (rs.map R.toRuleD) r.toRuleD=false):=by unfold Hid;rw [kl_7 hk];simp [h1]
  obtain ⟨e1,e2,e3,e4,e5,e6,e7,e8,e9,e10⟩:=kE7 hk
  clear hk
  go_enter Tryd.func69,Tryd.ntmps69
  go_wp2_with (first|(go_at_call 76;refine (shapeS_FFFTm r _).mono ?_;rintro e w1 ⟨rfl,hb1⟩;obtain ⟨hc1,hf1⟩:=bcell hb1))
  go_ret
  exact ⟨ret_bool Hb.out.symm,(Since.b belS)⟩
 ·have Hb:Hid (kindL (rs.map R.toRuleD) r.toRuleD=tagsB (rs.map R.toRuleD) r.toRuleD):=by unfold Hid;rw [kl_7 hk];rw [h1,Bool.true_and]
  obtain ⟨e1,e2,e3,e4,e5,e6,e7,e8,e9,e10⟩:=kE7 hk
  clear hk
  go_enter Tryd.func69,Tryd.ntmps69
  go_wp2_with (first|(go_at_call 76;refine (shapeS_FFFTm r _).mono ?_;rintro e w1 ⟨rfl,hb1⟩;obtain ⟨hc1,hf1⟩:=bcell hb1)|(go_at_call 79;refine (l4Tags_any sinS hD hM r hr).mono ?_;rintro e w2 ⟨rfl,hb2⟩))
  go_ret
  exact ⟨ret_bool Hb.out.symm,(Since.b belS)⟩

theorem sk_8 {w0 w:World}{lo:Nat} (hs:Since lo w0 w) {a:Option Addr}{cap M:Nat}{rs:List R} (hD:Ds w0 lo M a cap rs) (hM:M≤1048576) (r:R) (hr:r.Ok w0 lo M) (hk:r.kind=8) :
  Calls Tryd.prog 69 #[.agg #[.slice a rs.length cap],.agg #[.string r.name,.int .i64 r.kind,.int .i64 r.size,.bool r.little,.slice r.ba r.bytes.length r.bc,.slice r.na r.names.length r.nc,.slice r.ta r.tags.length r.tc,.slice r.ka r.kids.length r.kc]] w fun e w'=>e=.returned (.bool (kindL (rs.map R.toRuleD) r.toRuleD))∧Below w.heap.size w w':=by
 have hlb:=hr.lb
 have hlk:=hr.lk
 have Hb:Hid (kindL (rs.map R.toRuleD) r.toRuleD=shapeL r.toRuleD false false false false 1):=by unfold Hid;rw [kl_8 hk]
 obtain ⟨e1,e2,e3,e4,e5,e6,e7,e8,e9,e10⟩:=kE8 hk
 clear hk
 go_enter Tryd.func69,Tryd.ntmps69
 go_wp2_with (first|(go_at_call 76;refine (shapeS_FFFF1 r _).mono ?_;rintro e w1 ⟨rfl,hb1⟩;obtain ⟨hc1,hf1⟩:=bcell hb1))
 go_ret
 exact ⟨ret_bool Hb.out.symm,(Since.b belS)⟩

theorem sk_9 {w0 w:World}{lo:Nat} (hs:Since lo w0 w) {a:Option Addr}{cap M:Nat}{rs:List R} (hD:Ds w0 lo M a cap rs) (hM:M≤1048576) (r:R) (hr:r.Ok w0 lo M) (hk:r.kind=9) :
  Calls Tryd.prog 69 #[.agg #[.slice a rs.length cap],.agg #[.string r.name,.int .i64 r.kind,.int .i64 r.size,.bool r.little,.slice r.ba r.bytes.length r.bc,.slice r.na r.names.length r.nc,.slice r.ta r.tags.length r.tc,.slice r.ka r.kids.length r.kc]] w fun e w'=>e=.returned (.bool (kindL (rs.map R.toRuleD) r.toRuleD))∧Below w.heap.size w w':=by
 have hlb:=hr.lb
 have hlk:=hr.lk
 have Hb:Hid (kindL (rs.map R.toRuleD) r.toRuleD=shapeL r.toRuleD false false false false 1):=by unfold Hid;rw [kl_9 hk]
 obtain ⟨e1,e2,e3,e4,e5,e6,e7,e8,e9,e10⟩:=kE9 hk
 clear hk
 go_enter Tryd.func69,Tryd.ntmps69
 go_wp2_with (first|(go_at_call 76;refine (shapeS_FFFF1 r _).mono ?_;rintro e w1 ⟨rfl,hb1⟩;obtain ⟨hc1,hf1⟩:=bcell hb1))
 go_ret
 exact ⟨ret_bool Hb.out.symm,(Since.b belS)⟩

theorem sk_10 {w0 w:World}{lo:Nat} (hs:Since lo w0 w) {a:Option Addr}{cap M:Nat}{rs:List R} (hD:Ds w0 lo M a cap rs) (hM:M≤1048576) (r:R) (hr:r.Ok w0 lo M) (hk:r.kind=10) :
  Calls Tryd.prog 69 #[.agg #[.slice a rs.length cap],.agg #[.string r.name,.int .i64 r.kind,.int .i64 r.size,.bool r.little,.slice r.ba r.bytes.length r.bc,.slice r.na r.names.length r.nc,.slice r.ta r.tags.length r.tc,.slice r.ka r.kids.length r.kc]] w fun e w'=>e=.returned (.bool (kindL (rs.map R.toRuleD) r.toRuleD))∧Below w.heap.size w w':=by
 have hlb:=hr.lb
 have hlk:=hr.lk
 cases h1:shapeL r.toRuleD false true false false 0
 ·have Hb:Hid (kindL (rs.map R.toRuleD) r.toRuleD=false):=by unfold Hid;rw [kl_10 hk];simp [h1]
  obtain ⟨e1,e2,e3,e4,e5,e6,e7,e8,e9,e10⟩:=kE10 hk
  clear hk
  go_enter Tryd.func69,Tryd.ntmps69
  go_wp2_with (first|(go_at_call 76;refine (shapeS_FTFF0 r _).mono ?_;rintro e w1 ⟨rfl,hb1⟩;obtain ⟨hc1,hf1⟩:=bcell hb1))
  go_ret
  exact ⟨ret_bool Hb.out.symm,(Since.b belS)⟩
 ·by_cases h2:r.bytes.length=1
  ·have hbr:=hr.bytes
   obtain ⟨bb,bo,hba,hbb0,_,_,_⟩:=hbr.pos hs (by simp;omega)
   rw [hba] at hbr
   have Hba:=Lib.hid hba
   have g2:0<r.bytes.length:=by omega
   have K0:Hid (∀ wx,Since lo w0 wx→wx.cell? ⟨bb,bo,none⟩=some (.int .u8 (r.bytes.headD 0).toNat)):=by
    intro wx hx
    obtain ⟨b',o',ha,_,_,_,hc⟩:=hbr.pos hx (by simp;omega)
    simp only [Option.some.injEq,Addr.mk.injEq,and_true] at ha
    obtain ⟨rfl,rfl⟩:=ha
    have:=hc 0 _ (map_at u8v g2)
    have hh:r.bytes[0]=r.bytes.headD 0:=head_get' g2
    rw [hh] at this
    exact this
   clear hba hbr
   have E1:Hid (((r.bytes.length:Int)==1)=true):=by unfold Hid;rw [beq_iff_eq];omega
   generalize hB0:r.bytes.headD 0=B0 at *
   by_cases h3:B0=92
   ·have E2:Hid (((B0.toNat:Int)==92)=true∧((B0.toNat:Int) != 92)=false):=by subst h3;exact ⟨rfl,rfl⟩
    have Hb:Hid (kindL (rs.map R.toRuleD) r.toRuleD=false):=by unfold Hid;rw [kl_10 hk];rw [h1,hB0];simp [h2,h3]
    obtain ⟨e1,e2,e3,e4,e5,e6,e7,e8,e9,e10⟩:=kE10 hk
    clear hk h2 h3
    go_enter Tryd.func69,Tryd.ntmps69
    go_wp2_with (first|(go_at_call 76;refine (shapeS_FTFF0 r _).mono ?_;rintro e w1 ⟨rfl,hb1⟩;obtain ⟨hc1,hf1⟩:=bcell hb1;have hba:=Hba.out;have K0w:=K0.out w hs;have E1:=E1.out;obtain ⟨E2,E3⟩:=E2.out))
    go_ret
    exact ⟨ret_bool Hb.out.symm,(Since.b belS)⟩
   ·have E2:Hid (((B0.toNat:Int)==92)=false∧((B0.toNat:Int) != 92)=true):=by
     have:¬((B0.toNat:Int)=92):=fun e=>h3 (UInt8.toNat_inj.1 (by simp;omega))
     exact ⟨by simpa using this,by simpa using this⟩
    have Hb:Hid (kindL (rs.map R.toRuleD) r.toRuleD=true):=by unfold Hid;rw [kl_10 hk];rw [h1,hB0];simp [h2,h3]
    obtain ⟨e1,e2,e3,e4,e5,e6,e7,e8,e9,e10⟩:=kE10 hk
    clear hk h2 h3
    go_enter Tryd.func69,Tryd.ntmps69
    go_wp2_with (first|(go_at_call 76;refine (shapeS_FTFF0 r _).mono ?_;rintro e w1 ⟨rfl,hb1⟩;obtain ⟨hc1,hf1⟩:=bcell hb1;have hba:=Hba.out;have K0w:=K0.out w hs;have E1:=E1.out;obtain ⟨E2,E3⟩:=E2.out))
    go_ret
    exact ⟨ret_bool Hb.out.symm,(Since.b belS)⟩
  ·have E1:((r.bytes.length:Int)==1)=false:=by rw [beq_eq_false_iff_ne];omega
   have Hb:Hid (kindL (rs.map R.toRuleD) r.toRuleD=false):=by unfold Hid;rw [kl_10 hk];simp [h1,h2]
   obtain ⟨e1,e2,e3,e4,e5,e6,e7,e8,e9,e10⟩:=kE10 hk
   clear hk h2
   go_enter Tryd.func69,Tryd.ntmps69
   go_wp2_with (first|(go_at_call 76;refine (shapeS_FTFF0 r _).mono ?_;rintro e w1 ⟨rfl,hb1⟩;obtain ⟨hc1,hf1⟩:=bcell hb1))
   go_ret
   exact ⟨ret_bool Hb.out.symm,(Since.b belS)⟩

theorem sk_else {w0 w:World}{lo:Nat} (_hs:Since lo w0 w) {a:Option Addr}{cap:Nat}{rs:List R} (r:R) (hk:¬(1≤r.kind∧r.kind≤10)) :
  Calls Tryd.prog 69 #[.agg #[.slice a rs.length cap],.agg #[.string r.name,.int .i64 r.kind,.int .i64 r.size,.bool r.little,.slice r.ba r.bytes.length r.bc,.slice r.na r.names.length r.nc,.slice r.ta r.tags.length r.tc,.slice r.ka r.kids.length r.kc]] w fun e w'=>e=.returned (.bool (kindL (rs.map R.toRuleD) r.toRuleD))∧Below w.heap.size w w':=by
 have Hb:=Lib.hid (kindL_not (D:=rs.map R.toRuleD) (r:=r.toRuleD) hk)
 have e1:(r.kind==1)=false:=by rw [beq_eq_false_iff_ne];omega
 have e2:(r.kind==2)=false:=by rw [beq_eq_false_iff_ne];omega
 have e3:(r.kind==3)=false:=by rw [beq_eq_false_iff_ne];omega
 have e4:(r.kind==4)=false:=by rw [beq_eq_false_iff_ne];omega
 have e5:(r.kind==5)=false:=by rw [beq_eq_false_iff_ne];omega
 have e6:(r.kind==6)=false:=by rw [beq_eq_false_iff_ne];omega
 have e7:(r.kind==7)=false:=by rw [beq_eq_false_iff_ne];omega
 have e8:(r.kind==8)=false:=by rw [beq_eq_false_iff_ne];omega
 have e9:(r.kind==9)=false:=by rw [beq_eq_false_iff_ne];omega
 have e10:(r.kind==10)=false:=by rw [beq_eq_false_iff_ne];omega
 clear hk
 go_enter Tryd.func69,Tryd.ntmps69
 go_wp2_with fail
 go_ret
 exact ⟨ret_bool Hb.out.symm,(Since.b belS)⟩

theorem l4Kind_any {w0 w:World}{lo:Nat} (hs:Since lo w0 w) {a:Option Addr}{cap M:Nat}{rs:List R} (hD:Ds w0 lo M a cap rs) (hM:M≤1048576) (r:R) (hr:r.Ok w0 lo M) :
  Calls Tryd.prog 69 #[.agg #[.slice a rs.length cap],.agg #[.string r.name,.int .i64 r.kind,.int .i64 r.size,.bool r.little,.slice r.ba r.bytes.length r.bc,.slice r.na r.names.length r.nc,.slice r.ta r.tags.length r.tc,.slice r.ka r.kids.length r.kc]] w fun e w'=>e=.returned (.bool (kindL (rs.map R.toRuleD) r.toRuleD))∧Below w.heap.size w w':=by
 by_cases hk:1≤r.kind∧r.kind≤10
 ·have h:r.kind=1∨r.kind=2∨r.kind=3∨r.kind=4∨r.kind=5∨r.kind=6∨r.kind=7∨r.kind=8∨r.kind=9∨r.kind=10:=by omega
  rcases h with h|h|h|h|h|h|h|h|h|h
  ·exact sk_1 hs hD hM r hr h
  ·exact sk_2 hs hD hM r hr h
  ·exact sk_3 hs hD hM r hr h
  ·exact sk_4 hs hD hM r hr h
  ·exact sk_5 hs hD hM r hr h
  ·exact sk_6 hs hD hM r hr h
  ·exact sk_7 hs hD hM r hr h
  ·exact sk_8 hs hD hM r hr h
  ·exact sk_9 hs hD hM r hr h
  ·exact sk_10 hs hD hM r hr h
 ·exact sk_else hs r hk

end Go.Proofs.YtaammoodcgfhpaaDoor
