/-
 Numbers as texts: strconv.Itoa.
-/
import Derived.Test.YtndnefealooolaaGreatDoorChecked
import Derived.Test.YtndnefealooolaaGreatDoorKN0
import Derived.Test.YtndnefealooolaaGreatDoorKPD
import Derived.Test.YtndnefealooolaaGreatDoorKE3
import Derived.Test.YtndnefealooolaaGreatDoorKTy
import Derived.Shelf.Strconv.Itoa3
set_option linter.unusedSimpArgs false
set_option linter.unusedVariables false
set_option linter.defProp false
set_option maxRecDepth 100000
set_option maxHeartbeats 4000000
namespace Go.Proofs.YtndnefealooolaaGreatDoor.Eng
open Go Go.RowKit

def itoRen:Go.Shelf.Ren:=⟨fun|171=>66|243=>107|246=>129|283=>135|284=>136|285=>137|286=>138|129=>149|317=>148|318=>150|319=>151|320=>152|337=>157|338=>158|n=>n,fun|3=>3|9=>9|2=>2|4=>4|171=>173|0=>0|53=>174|37=>22|5=>5|173=>177|212=>184|51=>185|20=>20|213=>186|46=>150|232=>191|233=>192|n=>n,fun|17=>1|18=>2|19=>3|n=>n⟩
theorem itoLays:LaysM.n171 Tryz.prog itoRen where
 mixed:=by kernel_rfl
 f129:=Tryz.func149.trans (congrArg some (by kernel_rfl))
 f171:=Tryz.func66.trans (congrArg some (by kernel_rfl))
 f243:=Tryz.func107.trans (congrArg some (by kernel_rfl))
 f246:=Tryz.func129.trans (congrArg some (by kernel_rfl))
 f283:=Tryz.func135.trans (congrArg some (by kernel_rfl))
 f284:=Tryz.func136.trans (congrArg some (by kernel_rfl))
 f285:=Tryz.func137.trans (congrArg some (by kernel_rfl))
 f286:=Tryz.func138.trans (congrArg some (by kernel_rfl))
 f317:=Tryz.func148.trans (congrArg some (by kernel_rfl))
 f318:=Tryz.func150.trans (congrArg some (by kernel_rfl))
 f319:=Tryz.func151.trans (congrArg some (by kernel_rfl))
 f320:=Tryz.func152.trans (congrArg some (by kernel_rfl))
 f337:=Tryz.func157.trans (congrArg some (by kernel_rfl))
 f338:=Tryz.func158.trans (congrArg some (by kernel_rfl))
 t0:=Tryz.underlying0
 a0:=Tryz.isAgg0
 z0:=Tryz.sizeOf0
 v0:=Tryz.zeroValue0
 t2:=Tryz.underlying2
 a2:=Tryz.isAgg2
 z2:=Tryz.sizeOf2
 v2:=Tryz.zeroValue2
 t3:=Tryz.underlying3
 a3:=Tryz.isAgg3
 z3:=Tryz.sizeOf3
 v3:=Tryz.zeroValue3
 t4:=Tryz.underlying4
 a4:=Tryz.isAgg4
 z4:=Tryz.sizeOf4
 v4:=Tryz.zeroValue4
 t5:=Tryz.underlying5
 a5:=Tryz.isAgg5
 z5:=Tryz.sizeOf5
 v5:=Tryz.zeroValue5
 t9:=Tryz.underlying9
 a9:=Tryz.isAgg9
 z9:=Tryz.sizeOf9
 v9:=Tryz.zeroValue9
 t20:=Tryz.underlying20
 a20:=Tryz.isAgg20
 z20:=Tryz.sizeOf20
 v20:=Tryz.zeroValue20
 t37:=Tryz.underlying22
 a37:=Tryz.isAgg22
 z37:=Tryz.sizeOf22
 v37:=Tryz.zeroValue22
 t46:=Tryz.underlying150
 a46:=Tryz.isAgg150
 z46:=Tryz.sizeOf150
 v46:=Tryz.zeroValue150
 t51:=Tryz.underlying185
 a51:=Tryz.isAgg185
 z51:=Tryz.sizeOf185
 v51:=Tryz.zeroValue185
 t53:=Tryz.underlying174
 a53:=Tryz.isAgg174
 z53:=Tryz.sizeOf174
 v53:=Tryz.zeroValue174
 t171:=Tryz.underlying173
 a171:=Tryz.isAgg173
 z171:=Tryz.sizeOf173
 v171:=Tryz.zeroValue173
 t173:=Tryz.underlying177
 a173:=Tryz.isAgg177
 z173:=Tryz.sizeOf177
 v173:=Tryz.zeroValue177
 t212:=Tryz.underlying184
 a212:=Tryz.isAgg184
 z212:=Tryz.sizeOf184
 v212:=Tryz.zeroValue184
 t213:=Tryz.underlying186
 a213:=Tryz.isAgg186
 z213:=Tryz.sizeOf186
 t232:=Tryz.underlying191
 a232:=Tryz.isAgg191
 z232:=Tryz.sizeOf191
 v232:=Tryz.zeroValue191
 t233:=Tryz.underlying192
 a233:=Tryz.isAgg192
 z233:=Tryz.sizeOf192
 v233:=Tryz.zeroValue192
 g17:=by kernel_rfl
 g18:=by kernel_rfl
 g19:=by kernel_rfl
 i0:=by kernel_rfl
 i2:=by kernel_rfl
 i3:=by kernel_rfl
 i4:=by kernel_rfl
 i5:=by kernel_rfl
 i9:=by kernel_rfl
 i20:=by kernel_rfl
 i37:=by kernel_rfl
 i46:=by kernel_rfl
 i51:=by kernel_rfl
 i53:=by kernel_rfl
 i171:=by kernel_rfl
 i173:=by kernel_rfl
 i212:=by kernel_rfl
 i232:=by kernel_rfl
 i233:=by kernel_rfl
 m17:=by kernel_rfl
 m18:=by kernel_rfl
 m19:=by kernel_rfl
theorem tab_is {C : CellR} {w : World} (h : Cok C w) : Lib.TabIs Tryz.prog w "internal/strconv.uint64pow10" .u64 Lib.pow10Tab := by
 obtain ⟨ty,fr,h1⟩:=h.tb
 unfold Lib.TabIs World.var?
 rw [show Tryz.prog.globalNamed "internal/strconv.uint64pow10" = some glP by kernel_rfl]
 simp only [Option.bind_some,h1]
theorem below_itoa (w:World) (k:Nat) (os:Array Obj):Below w.heap.size w (Go.Sort.grow (w.drewN k) os):=
 ⟨rfl,rfl,rfl,by show w.heap.size≤(w.heap++os).size;rw [Array.size_append];omega,fun j hj=>Go.Sort.heap_grow_old w os (by simpa using hj)⟩
def itoB (n:Int):ByteArray:=⟨(Lib.itoa n).toArray⟩
theorem itoa_c {n:Int} (h0:-9223372036854775808≤n) (h1:n≤9223372036854775807):AC Tryz.prog 66 [.d (iD n)] none (fun r _=>r=.d (sD (itoB n))):=
 AC.of_flat Tryz.call66 fun w C vs hC hr=>by
  unfold RepAL at hr
  obtain ⟨u,us,rfl,h2,h3⟩:=hr
  unfold RepAL at h3
  subst h3
  unfold RepA iD RepD at h2
  subst h2
  refine (Any.strconv_Itoa itoLays n h0 h1 w (tab_is hC)).mono fun e w' ⟨q1,k,os,q2⟩=>⟨q1,?_⟩
  rw [q2]
  exact below_itoa w k os
private def tyF:=tg3
theorem fmtI_any {n:Int} (h0:-9223372036854775808≤n) (h1:n≤9223372036854775807):AC Tryz.prog 43 [.d (iD n)] none (fun r' _=>r'=.d (sD (itoB n))):=by
 refine cbS Tryz.func43 rfl Tryz.call43 Tryz.ntmps43 fun en hsz hks hk0=>?_;refine enS ?_
 (repeat (first|refine walkS ?_|refine cS (itoa_c h0 h1) ?_))
 (refine rtS Tryz.results43 ?_;exact ⟨_,_,.inl ⟨rfl,rfl⟩,List.nodup_nil,rfl⟩)
theorem dgt_is (n:Nat):dgt n=⟨#[UInt8.ofNat (48+n % 10)]⟩:=by
 unfold dgt
 have h:(n:Int).tmod 10=((n % 10:Nat):Int):=by rw [Int.tmod_eq_emod_of_nonneg (by omega)];omega
 have h1:∀ m:Int,IntKind.u8.wrap m=m % 256:=fun m=>by simp [IntKind.wrap,IntKind.bits,IntKind.signed]
 rw [h,wrap_small (by omega) (by omega),h1,show ((48+((n % 10:Nat):Int)) % 256).toNat=48+n % 10 by omega]
theorem fmtA_dec:∀ (n:Nat) (s:ByteArray),0<n→fmtA n s=⟨(Lib.decDigits n).toArray⟩++s:=by
 intro n
 induction n using Nat.strongRecOn with
 | ind n ih=>
  intro s hn
  rw [fmtA_step (by omega)]
  have hd:dgt n=⟨#[UInt8.ofNat (48+n % 10)]⟩:=dgt_is n
  by_cases h:n<10
  ·have h1:Lib.decDigits n=[UInt8.ofNat (48+n)]:=by rw [Lib.decDigits,dif_pos h]
   rw [show n / 10=0 by omega,fmtA_0,hd,h1,Nat.mod_eq_of_lt h]
  ·have h1:Lib.decDigits n=Lib.decDigits (n / 10)++[UInt8.ofNat (48+n % 10)]:=by rw [Lib.decDigits,dif_neg h]
   rw [ih (n / 10) (by omega) _ (by omega),hd,←ByteArray.append_assoc,h1]
   congr 1
theorem fmtN_ito (n:Nat):fmtN n=itoB n:=by
 unfold itoB
 rw [Lib.itoa_nonneg,fmtN]
 split
 ·subst n;rw [Lib.decDigits,dif_pos (by decide)];rfl
 ·rw [fmtA_dec n _ (by omega)]
  apply ByteArray.ext
  simp
end Go.Proofs.YtndnefealooolaaGreatDoor.Eng
