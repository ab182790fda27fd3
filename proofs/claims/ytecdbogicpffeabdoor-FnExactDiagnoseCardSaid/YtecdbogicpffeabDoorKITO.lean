/-
 Numbers as texts: strconv.Itoa.
-/
import Derived.Test.YtecdbogicpffeabDoorChecked
import Derived.Test.YtecdbogicpffeabDoorKN0
import Derived.Test.YtecdbogicpffeabDoorKPD
import Derived.Test.YtecdbogicpffeabDoorKE3
import Derived.Test.YtecdbogicpffeabDoorKTy
import Derived.Shelf.Strconv.Itoa3
set_option linter.unusedSimpArgs false
set_option linter.unusedVariables false
set_option linter.defProp false
set_option maxRecDepth 100000
set_option maxHeartbeats 4000000
namespace Go.Proofs.YtecdbogicpffeabDoor.Eng
open Go Go.RowKit

def itoRen:Go.Shelf.Ren:=⟨fun|171=>73|243=>77|246=>84|283=>90|284=>91|285=>92|286=>93|129=>97|317=>96|318=>98|319=>99|320=>100|337=>101|338=>102|n=>n,fun|3=>3|9=>9|2=>2|4=>4|171=>114|0=>0|53=>115|37=>25|5=>5|173=>118|212=>122|51=>123|20=>20|213=>124|46=>97|232=>127|233=>128|n=>n,fun|17=>0|18=>1|19=>2|n=>n⟩
theorem itoLays:LaysM.n171 Tryd.prog itoRen where
 mixed:=by kernel_rfl
 f129:=Tryd.func97.trans (congrArg some (by kernel_rfl))
 f171:=Tryd.func73.trans (congrArg some (by kernel_rfl))
 f243:=Tryd.func77.trans (congrArg some (by kernel_rfl))
 f246:=Tryd.func84.trans (congrArg some (by kernel_rfl))
 f283:=Tryd.func90.trans (congrArg some (by kernel_rfl))
 f284:=Tryd.func91.trans (congrArg some (by kernel_rfl))
 f285:=Tryd.func92.trans (congrArg some (by kernel_rfl))
 f286:=Tryd.func93.trans (congrArg some (by kernel_rfl))
 f317:=Tryd.func96.trans (congrArg some (by kernel_rfl))
 f318:=Tryd.func98.trans (congrArg some (by kernel_rfl))
 f319:=Tryd.func99.trans (congrArg some (by kernel_rfl))
 f320:=Tryd.func100.trans (congrArg some (by kernel_rfl))
 f337:=Tryd.func101.trans (congrArg some (by kernel_rfl))
 f338:=Tryd.func102.trans (congrArg some (by kernel_rfl))
 t0:=Tryd.underlying0
 a0:=Tryd.isAgg0
 z0:=Tryd.sizeOf0
 v0:=Tryd.zeroValue0
 t2:=Tryd.underlying2
 a2:=Tryd.isAgg2
 z2:=Tryd.sizeOf2
 v2:=Tryd.zeroValue2
 t3:=Tryd.underlying3
 a3:=Tryd.isAgg3
 z3:=Tryd.sizeOf3
 v3:=Tryd.zeroValue3
 t4:=Tryd.underlying4
 a4:=Tryd.isAgg4
 z4:=Tryd.sizeOf4
 v4:=Tryd.zeroValue4
 t5:=Tryd.underlying5
 a5:=Tryd.isAgg5
 z5:=Tryd.sizeOf5
 v5:=Tryd.zeroValue5
 t9:=Tryd.underlying9
 a9:=Tryd.isAgg9
 z9:=Tryd.sizeOf9
 v9:=Tryd.zeroValue9
 t20:=Tryd.underlying20
 a20:=Tryd.isAgg20
 z20:=Tryd.sizeOf20
 v20:=Tryd.zeroValue20
 t37:=Tryd.underlying25
 a37:=Tryd.isAgg25
 z37:=Tryd.sizeOf25
 v37:=Tryd.zeroValue25
 t46:=Tryd.underlying97
 a46:=Tryd.isAgg97
 z46:=Tryd.sizeOf97
 v46:=Tryd.zeroValue97
 t51:=Tryd.underlying123
 a51:=Tryd.isAgg123
 z51:=Tryd.sizeOf123
 v51:=Tryd.zeroValue123
 t53:=Tryd.underlying115
 a53:=Tryd.isAgg115
 z53:=Tryd.sizeOf115
 v53:=Tryd.zeroValue115
 t171:=Tryd.underlying114
 a171:=Tryd.isAgg114
 z171:=Tryd.sizeOf114
 v171:=Tryd.zeroValue114
 t173:=Tryd.underlying118
 a173:=Tryd.isAgg118
 z173:=Tryd.sizeOf118
 v173:=Tryd.zeroValue118
 t212:=Tryd.underlying122
 a212:=Tryd.isAgg122
 z212:=Tryd.sizeOf122
 v212:=Tryd.zeroValue122
 t213:=Tryd.underlying124
 a213:=Tryd.isAgg124
 z213:=Tryd.sizeOf124
 t232:=Tryd.underlying127
 a232:=Tryd.isAgg127
 z232:=Tryd.sizeOf127
 v232:=Tryd.zeroValue127
 t233:=Tryd.underlying128
 a233:=Tryd.isAgg128
 z233:=Tryd.sizeOf128
 v233:=Tryd.zeroValue128
 g17:=by kernel_rfl
 g18:=by kernel_rfl
 g19:=by kernel_rfl
 i0:=by kernel_rfl
 i2:=by kernel_rfl
 i3:=by kernel_rfl
 i4:=by kernel_rfl
 i5:=by kernel_rfl
 i9:=by kernel_rfl
 i20:=by kernel_rfl
 i37:=by kernel_rfl
 i46:=by kernel_rfl
 i51:=by kernel_rfl
 i53:=by kernel_rfl
 i171:=by kernel_rfl
 i173:=by kernel_rfl
 i212:=by kernel_rfl
 i232:=by kernel_rfl
 i233:=by kernel_rfl
 m17:=by kernel_rfl
 m18:=by kernel_rfl
 m19:=by kernel_rfl
theorem tab_is {C : CellR} {w : World} (h : Cok C w) : Lib.TabIs Tryd.prog w "internal/strconv.uint64pow10" .u64 Lib.pow10Tab := by
 obtain ⟨ty,fr,h1⟩:=h.tb
 unfold Lib.TabIs World.var?
 rw [show Tryd.prog.globalNamed "internal/strconv.uint64pow10" = some glP by kernel_rfl]
 simp only [Option.bind_some,h1]
theorem below_itoa (w:World) (k:Nat) (os:Array Obj):Below w.heap.size w (Go.Sort.grow (w.drewN k) os):=
 ⟨rfl,rfl,rfl,by show w.heap.size≤(w.heap++os).size;rw [Array.size_append];omega,fun j hj=>Go.Sort.heap_grow_old w os (by simpa using hj)⟩
def itoB (n:Int):ByteArray:=⟨(Lib.itoa n).toArray⟩
theorem itoa_c {n:Int} (h0:-9223372036854775808≤n) (h1:n≤9223372036854775807):AC Tryd.prog 73 [.d (iD n)] none (fun r _=>r=.d (sD (itoB n))):=
 AC.of_flat Tryd.call73 fun w C vs hC hr=>by
  unfold RepAL at hr
  obtain ⟨u,us,rfl,h2,h3⟩:=hr
  unfold RepAL at h3
  subst h3
  unfold RepA iD RepD at h2
  subst h2
  refine (Any.strconv_Itoa itoLays n h0 h1 w (tab_is hC)).mono fun e w' ⟨q1,k,os,q2⟩=>⟨q1,?_⟩
  rw [q2]
  exact below_itoa w k os
private def tyF:=tg3
theorem fmtI_any {n:Int} (h0:-9223372036854775808≤n) (h1:n≤9223372036854775807):AC Tryd.prog 68 [.d (iD n)] none (fun r' _=>r'=.d (sD (itoB n))):=by
 refine cbS Tryd.func68 rfl Tryd.call68 Tryd.ntmps68 fun en hsz hks hk0=>?_;refine enS ?_
 (repeat (first|refine walkS ?_|refine cS (itoa_c h0 h1) ?_))
 (refine rtS Tryd.results68 ?_;exact ⟨_,_,.inl ⟨rfl,rfl⟩,List.nodup_nil,rfl⟩)
theorem dgt_is (n:Nat):dgt n=⟨#[UInt8.ofNat (48+n % 10)]⟩:=by
 unfold dgt
 have h:(n:Int).tmod 10=((n % 10:Nat):Int):=by rw [Int.tmod_eq_emod_of_nonneg (by omega)];omega
 have h1:∀ m:Int,IntKind.u8.wrap m=m % 256:=fun m=>by simp [IntKind.wrap,IntKind.bits,IntKind.signed]
 rw [h,wrap_small (by omega) (by omega),h1,show ((48+((n % 10:Nat):Int)) % 256).toNat=48+n % 10 by omega]
theorem fmtA_dec:∀ (n:Nat) (s:ByteArray),0<n→fmtA n s=⟨(Lib.decDigits n).toArray⟩++s:=by
 intro n
 induction n using Nat.strongRecOn with
 | ind n ih=>
  intro s hn
  rw [fmtA_step (by omega)]
  have hd:dgt n=⟨#[UInt8.ofNat (48+n % 10)]⟩:=dgt_is n
  by_cases h:n<10
  ·have h1:Lib.decDigits n=[UInt8.ofNat (48+n)]:=by rw [Lib.decDigits,dif_pos h]
   rw [show n / 10=0 by omega,fmtA_0,hd,h1,Nat.mod_eq_of_lt h]
  ·have h1:Lib.decDigits n=Lib.decDigits (n / 10)++[UInt8.ofNat (48+n % 10)]:=by rw [Lib.decDigits,dif_neg h]
   rw [ih (n / 10) (by omega) _ (by omega),hd,←ByteArray.append_assoc,h1]
   congr 1
theorem fmtN_ito (n:Nat):fmtN n=itoB n:=by
 unfold itoB
 rw [Lib.itoa_nonneg,fmtN]
 split
 ·subst n;rw [Lib.decDigits,dif_pos (by decide)];rfl
 ·rw [fmtA_dec n _ (by omega)]
  apply ByteArray.ext
  simp
end Go.Proofs.YtecdbogicpffeabDoor.Eng
