/-
 Numbers as texts: strconv.Itoa.
-/
import Derived.Test.YtaammoodcgfhpaaDoorChecked
import Derived.Test.YtaammoodcgfhpaaDoorKN0
import Derived.Test.YtaammoodcgfhpaaDoorKPD
import Derived.Test.YtaammoodcgfhpaaDoorKE3
import Derived.Test.YtaammoodcgfhpaaDoorKTy
import Derived.Shelf.Strconv.Itoa3
set_option linter.unusedSimpArgs false
set_option linter.unusedVariables false
set_option linter.defProp false
set_option maxRecDepth 100000
set_option maxHeartbeats 4000000
namespace Go.Proofs.YtaammoodcgfhpaaDoor.Eng
open Go Go.RowKit

def itoRen:Go.Shelf.Ren:=⟨fun|171=>35|243=>65|246=>75|283=>84|284=>85|285=>86|286=>87|129=>92|317=>91|318=>93|319=>94|320=>95|337=>96|338=>97|n=>n,fun|3=>3|9=>9|2=>2|4=>4|171=>92|0=>0|53=>93|37=>54|5=>5|173=>96|212=>100|51=>101|20=>20|213=>102|46=>104|232=>107|233=>108|n=>n,fun|17=>0|18=>1|19=>2|n=>n⟩
theorem itoLays:LaysM.n171 Tryd.prog itoRen where
 mixed:=by kernel_rfl
 f129:=Tryd.func92.trans (congrArg some (by kernel_rfl))
 f171:=Tryd.func35.trans (congrArg some (by kernel_rfl))
 f243:=Tryd.func65.trans (congrArg some (by kernel_rfl))
 f246:=Tryd.func75.trans (congrArg some (by kernel_rfl))
 f283:=Tryd.func84.trans (congrArg some (by kernel_rfl))
 f284:=Tryd.func85.trans (congrArg some (by kernel_rfl))
 f285:=Tryd.func86.trans (congrArg some (by kernel_rfl))
 f286:=Tryd.func87.trans (congrArg some (by kernel_rfl))
 f317:=Tryd.func91.trans (congrArg some (by kernel_rfl))
 f318:=Tryd.func93.trans (congrArg some (by kernel_rfl))
 f319:=Tryd.func94.trans (congrArg some (by kernel_rfl))
 f320:=Tryd.func95.trans (congrArg some (by kernel_rfl))
 f337:=Tryd.func96.trans (congrArg some (by kernel_rfl))
 f338:=Tryd.func97.trans (congrArg some (by kernel_rfl))
 t0:=Tryd.underlying0
 a0:=Tryd.isAgg0
 z0:=Tryd.sizeOf0
 v0:=Tryd.zeroValue0
 t2:=Tryd.underlying2
 a2:=Tryd.isAgg2
 z2:=Tryd.sizeOf2
 v2:=Tryd.zeroValue2
 t3:=Tryd.underlying3
 a3:=Tryd.isAgg3
 z3:=Tryd.sizeOf3
 v3:=Tryd.zeroValue3
 t4:=Tryd.underlying4
 a4:=Tryd.isAgg4
 z4:=Tryd.sizeOf4
 v4:=Tryd.zeroValue4
 t5:=Tryd.underlying5
 a5:=Tryd.isAgg5
 z5:=Tryd.sizeOf5
 v5:=Tryd.zeroValue5
 t9:=Tryd.underlying9
 a9:=Tryd.isAgg9
 z9:=Tryd.sizeOf9
 v9:=Tryd.zeroValue9
 t20:=Tryd.underlying20
 a20:=Tryd.isAgg20
 z20:=Tryd.sizeOf20
 v20:=Tryd.zeroValue20
 t37:=Tryd.underlying54
 a37:=Tryd.isAgg54
 z37:=Tryd.sizeOf54
 v37:=Tryd.zeroValue54
 t46:=Tryd.underlying104
 a46:=Tryd.isAgg104
 z46:=Tryd.sizeOf104
 v46:=Tryd.zeroValue104
 t51:=Tryd.underlying101
 a51:=Tryd.isAgg101
 z51:=Tryd.sizeOf101
 v51:=Tryd.zeroValue101
 t53:=Tryd.underlying93
 a53:=Tryd.isAgg93
 z53:=Tryd.sizeOf93
 v53:=Tryd.zeroValue93
 t171:=Tryd.underlying92
 a171:=Tryd.isAgg92
 z171:=Tryd.sizeOf92
 v171:=Tryd.zeroValue92
 t173:=Tryd.underlying96
 a173:=Tryd.isAgg96
 z173:=Tryd.sizeOf96
 v173:=Tryd.zeroValue96
 t212:=Tryd.underlying100
 a212:=Tryd.isAgg100
 z212:=Tryd.sizeOf100
 v212:=Tryd.zeroValue100
 t213:=Tryd.underlying102
 a213:=Tryd.isAgg102
 z213:=Tryd.sizeOf102
 t232:=Tryd.underlying107
 a232:=Tryd.isAgg107
 z232:=Tryd.sizeOf107
 v232:=Tryd.zeroValue107
 t233:=Tryd.underlying108
 a233:=Tryd.isAgg108
 z233:=Tryd.sizeOf108
 v233:=Tryd.zeroValue108
 g17:=by kernel_rfl
 g18:=by kernel_rfl
 g19:=by kernel_rfl
 i0:=by kernel_rfl
 i2:=by kernel_rfl
 i3:=by kernel_rfl
 i4:=by kernel_rfl
 i5:=by kernel_rfl
 i9:=by kernel_rfl
 i20:=by kernel_rfl
 i37:=by kernel_rfl
 i46:=by kernel_rfl
 i51:=by kernel_rfl
 i53:=by kernel_rfl
 i171:=by kernel_rfl
 i173:=by kernel_rfl
 i212:=by kernel_rfl
 i232:=by kernel_rfl
 i233:=by kernel_rfl
 m17:=by kernel_rfl
 m18:=by kernel_rfl
 m19:=by kernel_rfl
theorem tab_is {C : CellR} {w : World} (h : Cok C w) : Lib.TabIs Tryd.prog w "internal/strconv.uint64pow10" .u64 Lib.pow10Tab := by
 obtain ⟨ty,fr,h1⟩:=h.tb
 unfold Lib.TabIs World.var?
 rw [show Tryd.prog.globalNamed "internal/strconv.uint64pow10" = some glP by kernel_rfl]
 simp only [Option.bind_some,h1]
theorem below_itoa (w:World) (k:Nat) (os:Array Obj):Below w.heap.size w (Go.Sort.grow (w.drewN k) os):=
 ⟨rfl,rfl,rfl,by show w.heap.size≤(w.heap++os).size;rw [Array.size_append];omega,fun j hj=>Go.Sort.heap_grow_old w os (by simpa using hj)⟩
def itoB (n:Int):ByteArray:=⟨(Lib.itoa n).toArray⟩
theorem itoa_c {n:Int} (h0:-9223372036854775808≤n) (h1:n≤9223372036854775807):AC Tryd.prog 35 [.d (iD n)] none (fun r _=>r=.d (sD (itoB n))):=
 AC.of_flat Tryd.call35 fun w C vs hC hr=>by
  unfold RepAL at hr
  obtain ⟨u,us,rfl,h2,h3⟩:=hr
  unfold RepAL at h3
  subst h3
  unfold RepA iD RepD at h2
  subst h2
  refine (Any.strconv_Itoa itoLays n h0 h1 w (tab_is hC)).mono fun e w' ⟨q1,k,os,q2⟩=>⟨q1,?_⟩
  rw [q2]
  exact below_itoa w k os
private def tyF:=tg3
theorem fmtI_any {n:Int} (h0:-9223372036854775808≤n) (h1:n≤9223372036854775807):AC Tryd.prog 21 [.d (iD n)] none (fun r' _=>r'=.d (sD (itoB n))):=by
 refine cbS Tryd.func21 rfl Tryd.call21 Tryd.ntmps21 fun en hsz hks hk0=>?_;refine enS ?_
 (repeat (first|refine walkS ?_|refine cS (itoa_c h0 h1) ?_))
 (refine rtS Tryd.results21 ?_;exact ⟨_,_,.inl ⟨rfl,rfl⟩,List.nodup_nil,rfl⟩)
theorem dgt_is (n:Nat):dgt n=⟨#[UInt8.ofNat (48+n % 10)]⟩:=by
 unfold dgt
 have h:(n:Int).tmod 10=((n % 10:Nat):Int):=by rw [Int.tmod_eq_emod_of_nonneg (by omega)];omega
 have h1:∀ m:Int,IntKind.u8.wrap m=m % 256:=fun m=>by simp [IntKind.wrap,IntKind.bits,IntKind.signed]
 rw [h,wrap_small (by omega) (by omega),h1,show ((48+((n % 10:Nat):Int)) % 256).toNat=48+n % 10 by omega]
theorem fmtA_dec:∀ (n:Nat) (s:ByteArray),0<n→fmtA n s=⟨(Lib.decDigits n).toArray⟩++s:=by
 intro n
 induction n using Nat.strongRecOn with
 | ind n ih=>
  intro s hn
  rw [fmtA_step (by omega)]
  have hd:dgt n=⟨#[UInt8.ofNat (48+n % 10)]⟩:=dgt_is n
  by_cases h:n<10
  ·have h1:Lib.decDigits n=[UInt8.ofNat (48+n)]:=by rw [Lib.decDigits,dif_pos h]
   rw [show n / 10=0 by omega,fmtA_0,hd,h1,Nat.mod_eq_of_lt h]
  ·have h1:Lib.decDigits n=Lib.decDigits (n / 10)++[UInt8.ofNat (48+n % 10)]:=by rw [Lib.decDigits,dif_neg h]
   rw [ih (n / 10) (by omega) _ (by omega),hd,←ByteArray.append_assoc,h1]
   congr 1
theorem fmtN_ito (n:Nat):fmtN n=itoB n:=by
 unfold itoB
 rw [Lib.itoa_nonneg,fmtN]
 split
 ·subst n;rw [Lib.decDigits,dif_pos (by decide)];rfl
 ·rw [fmtA_dec n _ (by omega)]
  apply ByteArray.ext
  simp
end Go.Proofs.YtaammoodcgfhpaaDoor.Eng
