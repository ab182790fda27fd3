/-
 Canonical files: both sides.

 Plain functions: files with needless escapes; what DrawCanonicalFile and DrawSameFile draw.
-/
import Derived.Test.YtodkkldopciagaaGreatDoorKNRF
import Derived.Test.YtodkkldopciagaaGreatDoorKNPF
import Derived.Test.YtodkkldopciagaaGreatDoorKPure16
import Derived.Test.YtodkkldopciagaaGreatDoorKLSB
import Derived.Test.YtodkkldopciagaaGreatDoorKNDY
set_option linter.unusedSimpArgs false
set_option linter.unusedVariables false
set_option linter.defProp false
set_option maxRecDepth 100000
set_option maxHeartbeats 4000000
namespace Go.Proofs.YtodkkldopciagaaGreatDoor.Eng
open Go Go.RowKit

noncomputable def canR (D:List RuleD) (b:List UInt8):List UInt8 × Bool:=if (readF D b).2.2=0 then prR D ((D.length:Int) - 1) (readF D b).1 else ([],false)
theorem canR_len (D:List RuleD) (b:List UInt8):(canR D b).1.length≤400:=by
 unfold canR
 split
 ·exact prR_len _ _ _
 ·simp
section
variable {M:Nat}{D:List RuleD}{b:List UInt8}
private def tyF:=ai (ai (ai tg22 (ai tg24 tg38)) (ai tg58 (ai tg60 tg26))) (ai (ai tg40 (ai tg62 tg3)) (ai tg4 (ai tg5 tg9)))
theorem canS_c (hD:DB M D) (hM:M≤1048576) (hb:b.length≤1048576):AC Tryz.prog 14 [.d (encD D),.d (encB b)] none (fun r' _=>r'=prRz (canR D b)):=by
 have HF:=readFile_c hD hM hb
 have HP:=printFS_c hD hM (readF_VB (hD.mono hM) hb (by omega)) (readF_tot (D:=D) (b:=b))
 unfold canR
 generalize readF D b=x at HF HP
 obtain ⟨v,q,c⟩:=x
 simp only at HF HP ⊢
 generalize prR D ((D.length:Int) - 1) v=p at HP
 refine cbS Tryz.func14 rfl Tryz.call14 Tryz.ntmps14 fun en hsz hks hk0=>?_;refine enS ?_
 (repeat (first|refine walkS ?_|refine cS (HF) ?_))
 refine aw_condS rfl (fun hc=>?_) (fun hc=>?_)
 ·rw [if_neg (by have:¬((c:Int)=0):=(by first|exact hc|simpa using hc);omega)]
  refine walkS ?_
  (refine rtS Tryz.results14 ?_;exact ⟨_,_,.inl (toZ_tup (toZL_cons (toZ_own (by simp [lk,St.mem])) (toZL_cons toZ_d toZL_nil))),by simp,rfl⟩)
 ·rw [if_pos (by have:(c:Int)=0:=(by first|exact hc|simpa using hc);omega)]
  (repeat (first|refine walkS ?_|refine cS (HP) ?_))
  (refine rtS Tryz.results14 ?_;exact ⟨_,_,.inl (toZ_tup (toZL_cons (toZ_own (by simp [lk,St.mem])) (toZL_cons toZ_d toZL_nil))),by simp,rfl⟩)
theorem canI_c (hD:DB M D) (hM:M≤1048576) (hb:b.length≤1048576):AC Tryz.prog 7 [.d (encD D),.d (encB b)] none (fun r' _=>r'=prRz (canR D b)):=by
 have HF:=readFileI_c hD hM hb
 have HP:=printFI_c hD hM (readF_VB (hD.mono hM) hb (by omega)) (readF_tot (D:=D) (b:=b))
 unfold canR
 generalize readF D b=x at HF HP
 obtain ⟨v,q,c⟩:=x
 simp only at HF HP ⊢
 generalize prR D ((D.length:Int) - 1) v=p at HP
 refine cbS Tryz.func7 rfl Tryz.call7 Tryz.ntmps7 fun en hsz hks hk0=>?_;refine enS ?_
 (repeat (first|refine walkS ?_|refine cS (HF) ?_))
 refine aw_condS rfl (fun hc=>?_) (fun hc=>?_)
 ·rw [if_neg (by have:¬((c:Int)=0):=(by first|exact hc|simpa using hc);omega)]
  refine walkS ?_
  (refine rtS Tryz.results7 ?_;exact ⟨_,_,.inl (toZ_tup (toZL_cons (toZ_own (by simp [lk,St.mem])) (toZL_cons toZ_d toZL_nil))),by simp,rfl⟩)
 ·rw [if_pos (by have:(c:Int)=0:=(by first|exact hc|simpa using hc);omega)]
  (repeat (first|refine walkS ?_|refine cS (HP) ?_))
  (refine rtS Tryz.results7 ?_;exact ⟨_,_,.inl (toZ_tup (toZL_cons (toZ_own (by simp [lk,St.mem])) (toZL_cons toZ_d toZL_nil))),by simp,rfl⟩)
noncomputable def isCanP (D:List RuleD) (b:List UInt8):Bool:=if (canR D b).2=true then b==(canR D b).1 else false
noncomputable def cntRed (D:List RuleD) (b:List UInt8):Int:=if (canR D b).2=true then (b.length:Int) - (canR D b).1.length else 0

theorem isCanI_c (hD:DB M D) (hM:M≤1048576) (hb:b.length≤1048576):AC Tryz.prog 9 [.d (encD D),.d (encB b)] none (fun r' _=>r'=.d (bD (isCanP D b))):=by
 have HC:=canI_c hD hM hb
 have hl:=canR_len D b
 unfold isCanP
 generalize canR D b=x at HC hl
 obtain ⟨l,ok⟩:=x
 simp only at hl ⊢
 have HE:=eqBytesI_c (l:=b) (m:=l) (by omega) (by omega)
 cases ok with
 | false=>
  refine cbS Tryz.func9 rfl Tryz.call9 Tryz.ntmps9 fun en hsz hks hk0=>?_;refine enS ?_
  (repeat (first|refine walkS ?_|refine cS (HC) ?_|refine cS (HE) ?_))
  (refine rtS Tryz.results9 ?_;exact ⟨_,_,.inl ⟨rfl,rfl⟩,List.nodup_nil,rfl⟩)
 | true=>
  refine cbS Tryz.func9 rfl Tryz.call9 Tryz.ntmps9 fun en hsz hks hk0=>?_;refine enS ?_
  (repeat (first|refine walkS ?_|refine cS (HC) ?_|refine cS (HE) ?_))
  (refine rtS Tryz.results9 ?_;exact ⟨_,_,.inl ⟨rfl,rfl⟩,List.nodup_nil,rfl⟩)

theorem cntRedI_c (hD:DB M D) (hM:M≤1048576) (hb:b.length≤1048576):AC Tryz.prog 10 [.d (encD D),.d (encB b)] none (fun r' _=>r'=.d (iD (cntRed D b))):=by
 have HC:=canI_c hD hM hb
 have hl:=canR_len D b
 unfold cntRed
 generalize canR D b=x at HC hl
 obtain ⟨l,ok⟩:=x
 simp only at hl ⊢
 cases ok with
 | false=>
  refine cbS Tryz.func10 rfl Tryz.call10 Tryz.ntmps10 fun en hsz hks hk0=>?_;refine enS ?_
  (repeat (first|refine walkS ?_|refine cS (HC) ?_))
  refine aw_condS rfl (fun hc=>?_) (fun hc=>?_)
  ·refine walkS ?_
   (refine rtS Tryz.results10 ?_;exact ⟨_,_,.inl ⟨rfl,rfl⟩,List.nodup_nil,rfl⟩)
  ·(first|exact absurd trivial hc|exact absurd rfl hc|(cases hc;done)|omega|exact absurd hc (by decide)|(simp at hc;done))
 | true=>
  refine cbS Tryz.func10 rfl Tryz.call10 Tryz.ntmps10 fun en hsz hks hk0=>?_;refine enS ?_
  (repeat (first|refine walkS ?_|refine cS (HC) ?_))
  refine aw_condS rfl (fun hc=>?_) (fun hc=>?_)
  ·(first|exact absurd trivial hc|exact absurd rfl hc|(cases hc;done)|omega|exact absurd hc (by decide)|(simp at hc;done))
  ·refine walkS ?_
   (refine rtS Tryz.results10 ?_;exact ⟨_,_,.inl ⟨rfl,rfl⟩,List.nodup_nil,rfl⟩)
end
end Go.Proofs.YtodkkldopciagaaGreatDoor.Eng
namespace Go.Proofs.YtodkkldopciagaaGreatDoor.Eng
open Go.RowKit

def escA (t:UInt8):List UInt8→List UInt8
 | []=>[t]
 | c::l=>92::c::escA t l
theorem escA_len (t:UInt8):∀ l,(escA t l).length=2*l.length+1
 | []=>rfl
 | c::l=>by rw [escA];simp only [List.length_cons,escA_len t l];omega
def esc1 (c:Cur):List UInt8 × Cur:=
 (if (once (bysC (bel c 4).1.toNat (bel c 4).2).2 2).1=true then escA 10 (bysC (bel c 4).1.toNat (bel c 4).2).1 else escB 10 (bysC (bel c 4).1.toNat (bel c 4).2).1,(once (bysC (bel c 4).1.toNat (bel c 4).2).2 2).2)
theorem esc1_b (c:Cur):(esc1 c).2.b=c.b:=by
 unfold esc1 once
 simp only [bel_b,bysC_b]
theorem esc1_len (c:Cur):(esc1 c).1.length≤9:=by
 have h:=bel_in c (n:=4) (by decide)
 have hl:=bysC_len (bel c 4).2 (bel c 4).1.toNat
 unfold esc1
 simp only
 split
 ·rw [escA_len];omega
 ·have:=escB_len 10 (bysC (bel c 4).1.toNat (bel c 4).2).1
  omega
def escL:Nat→Cur→List UInt8→List UInt8 × Cur
 | 0,c,b=>(b,c)
 | n+1,c,b=>escL n (esc1 c).2 (b++(esc1 c).1)
theorem escL_len:∀ (n:Nat) (c:Cur) (b:List UInt8),(escL n c b).1.length≤b.length+9*n
 | 0,c,b=>by rw [escL];exact Nat.le_refl _
 | n+1,c,b=>by
  rw [escL]
  have h1:=escL_len n (esc1 c).2 (b++(esc1 c).1)
  have h2:=esc1_len c
  rw [List.length_append] at h1
  omega
def escD:List RuleD:=[⟨{ data:=#[110] },1,1,false,[],[],[],[]⟩,⟨{ data:=#[116] },10,0,false,[10],[],[],[]⟩,⟨{ data:=#[108] },5,0,false,[],[],[],[0,1]⟩]
theorem escD_db:DB 1048576 escD:=by
 refine ⟨by decide,fun r hr=>?_⟩
 simp only [escD,List.mem_cons,List.not_mem_nil,or_false] at hr
 rcases hr with rfl|rfl|rfl<;>exact ⟨by decide,by decide,by decide,by decide,by decide,fun s hs=>by cases hs⟩
def escC (c:Cur):(List RuleD × List UInt8) × Cur:=((escD,(escL (bel c 3).1.toNat (bel c 3).2 [UInt8.ofNat (bel c 3).1.toNat]).1),(escL (bel c 3).1.toNat (bel c 3).2 [UInt8.ofNat (bel c 3).1.toNat]).2)
theorem escC_len (c:Cur):(escC c).1.2.length≤28:=by
 have h:=bel_in c (n:=3) (by decide)
 have h1:=escL_len (bel c 3).1.toNat (bel c 3).2 [UInt8.ofNat (bel c 3).1.toNat]
 show (escL (bel c 3).1.toNat (bel c 3).2 [UInt8.ofNat (bel c 3).1.toNat]).1.length≤28
 rw [List.length_singleton] at h1
 omega
def canoC (B:List UInt8):List RuleD × List UInt8:=if (once (newC B) 2).1=true then (escC (once (newC B) 2).2).1 else readC B
theorem canoC_db (B:List UInt8):DB 1048576 (canoC B).1:=by
 have h:=readC_db B
 unfold canoC
 generalize readC B=z at h ⊢
 split
 ·exact escD_db
 ·exact h
theorem canoC_len (B:List UInt8):(canoC B).2.length≤204060:=by
 have h:=readC_len B
 have h2:=escC_len (once (newC B) 2).2
 unfold canoC
 generalize readC B=z at h ⊢
 generalize escC (once (newC B) 2).2=y at h2 ⊢
 split
 ·omega
 ·exact h
noncomputable def sameEnd (c:Cur) (z:List RuleD × List UInt8):List RuleD × List UInt8 × List UInt8:=
 if (bel c 3).1=0 then (z.1,z.2,(bentC (bel c 3).2 z.2).1)
 else if (bel c 3).1=1∧(canR z.1 z.2).2=true then (z.1,z.2,(canR z.1 z.2).1)
 else (z.1,z.2,z.2)
noncomputable def sameC (B:List UInt8):List RuleD × List UInt8 × List UInt8:=sameEnd (newC B) (canoC B)
theorem sameC_db (B:List UInt8):DB 1048576 (sameC B).1:=by
 have h:=canoC_db B
 unfold sameC sameEnd
 generalize canoC B=z at h ⊢
 split
 ·exact h
 split<;>exact h
theorem sameC_len (B:List UInt8):(sameC B).2.1.length≤204060∧(sameC B).2.2.length≤204061:=by
 have h:=canoC_len B
 unfold sameC sameEnd
 generalize canoC B=z at h ⊢
 split
 ·have:=bentC_len (bel (newC B) 3).2 z.2
  exact ⟨h,by simp only;omega⟩
 split
 ·have:=canR_len z.1 z.2
  exact ⟨h,by simp only;omega⟩
 ·exact ⟨h,by simp only;omega⟩
end Go.Proofs.YtodkkldopciagaaGreatDoor.Eng
