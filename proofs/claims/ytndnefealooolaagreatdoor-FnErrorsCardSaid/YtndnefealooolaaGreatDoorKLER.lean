/-
 Equal values: the reference.

 Plain functions: the codes and places that reading answers with.

 The law: FnErrors.
-/
import Derived.Test.YtndnefealooolaaGreatDoorKTy
import Derived.Test.YtndnefealooolaaGreatDoorKN0
import Derived.Test.YtndnefealooolaaGreatDoorKP2
import Derived.Test.YtndnefealooolaaGreatDoorKNE
import Derived.Test.YtndnefealooolaaGreatDoorKP
import Derived.Test.YtndnefealooolaaGreatDoorKNF
import Derived.Test.YtndnefealooolaaGreatDoorKPR4
import Derived.Test.YtndnefealooolaaGreatDoorKNDC
import Derived.Test.YtndnefealooolaaGreatDoorKNRF
import Derived.Test.YtndnefealooolaaGreatDoorKPure16
import Derived.Test.YtndnefealooolaaGreatDoorKLWX
import Derived.Test.YtndnefealooolaaGreatDoorKNR1
set_option linter.unusedSimpArgs false
set_option linter.unusedVariables false
set_option linter.defProp false
set_option maxRecDepth 100000
set_option maxHeartbeats 4000000
namespace Go.Proofs.YtndnefealooolaaGreatDoor.Eng
open Go Go.RowKit

theorem eqVs_len {n m:Int}{bs cs:List UInt8}{vs ws:List V}:eqV (.mk n bs vs) (.mk m cs ws)=(n==m && (bs==cs && (vs.length==ws.length && eqVs vs ws))):=by rw [eqV]
private def tyF:=ai (ai (ai tg22 (ai tg24 tg37)) (ai tg57 (ai tg65 tg26))) (ai (ai tg39 (ai tg97 tg3)) (ai tg4 (ai tg5 tg9)))
theorem eqValS_step {n m:Int}{bs cs:List UInt8}{vs ws:List V} (hv:VB 1048576 (.mk n bs vs)) (hw:VB 1048576 (.mk m cs ws)) (H:∀ v∈vs,∀ w∈ws,AC Tryz.prog 18 [.d (encV v),.d (encV w)] none (fun r' _=>r'=.d (bD (eqV v w)))):AC Tryz.prog 18 [.d (encV (.mk n bs vs)),.d (encV (.mk m cs ws))] none (fun r' _=>r'=.d (bD (eqV (.mk n bs vs) (.mk m cs ws)))):=by
 unfold VB at hv hw
 obtain ⟨v1,v2,_⟩:=hv
 obtain ⟨w1,w2,_⟩:=hw
 have HB:=eqBytesS_c v1 w1
 rw [eqVs_len,encV_mk,encV_mk,encVs_eq,encVs_eq]
 by_cases hn:n=m
 ·have e1:(n==m)=true:=by simpa using hn
  have e1':(n != m)=false:=by simpa using hn
  cases hb:bs==cs with
  | false=>
   rw [hb] at HB
   refine cbS Tryz.func18 rfl Tryz.call18 Tryz.ntmps18 fun en hsz hks hk0=>?_;refine enS ?_
   (repeat (first|refine ctlS ?_|(refine ol_go ?_ (fun K1 hK1=>?_);exact trS;refine evS ?_;(try simp only [e1,e1']);refine hK1 _ _ ?_;clear hK1 K1)|(refine ow_go ?_ dsS (fun K1 hK1=>?_);exact trS;refine evS ?_;(try simp only [e1,e1']);refine hK1 _ ?_;clear hK1 K1)|refine skipS ?_|refine cS (HB) ?_))
   refine aw_condS rfl (fun hc=>?_) (fun hc=>?_)
   ·refine walkS ?_
    (refine rtS Tryz.results18 ?_;exact ⟨_,_,.inl ⟨rfl,rfl⟩,List.nodup_nil,by rw [e1];rfl⟩)
   ·(first|exact absurd trivial hc|exact absurd rfl hc|(cases hc;done)|omega|exact absurd hc (by decide)|(simp at hc;done))
  | true=>
   rw [hb] at HB
   by_cases hl:vs.length=ws.length
   ·have e2:(vs.length==ws.length)=true:=by simpa using hl
    have e2':((vs.length:Int) != ws.length)=false:=by simp [hl]
    refine cbS Tryz.func18 rfl Tryz.call18 Tryz.ntmps18 fun en hsz hks hk0=>?_;refine enS ?_
    (repeat (first|refine ctlS ?_|(refine ol_go ?_ (fun K1 hK1=>?_);exact trS;refine evS ?_;(try simp only [e1,e1',e2']);refine hK1 _ _ ?_;clear hK1 K1)|(refine ow_go ?_ dsS (fun K1 hK1=>?_);exact trS;refine evS ?_;(try simp only [e1,e1',e2']);refine hK1 _ ?_;clear hK1 K1)|refine skipS ?_|refine cS (HB) ?_))
    refine aw_condS rfl (fun hc=>?_) (fun hc=>?_)
    ·(first|exact absurd trivial hc|exact absurd rfl hc|(cases hc;done)|omega|exact absurd hc (by decide)|(simp at hc;done))
    refine walkS ?_
    refine aw_loopS [2,3,4] (fun _ _=>[]) (fun _ k=>[(5,.d (iD (k:Nat)))]) [] (fun _ _=>[]) [] (fun _ _=>[]) (fun k=>k≤vs.length∧eqVs vs ws=eqVs (vs.drop k) (ws.drop k)) (fun k=>vs.length - k) (0) hks (fun _=>rfl) ⟨Nat.zero_le _,rfl⟩ wkS ?_;intro x hx;refine headS ?_
    obtain ⟨hx1,hx2⟩:=hx
    refine walkS ?_
    refine aw_condS rfl (fun hk=>?_) (fun hk=>?_)
    ·rw [eqVs_step (by omega) (by omega)] at hx2
     have HV:=H (vs[x]'(by omega)) (List.getElem_mem _) (ws[x]'(by omega)) (List.getElem_mem _)
     cases he:eqV (vs[x]'(by omega)) (ws[x]'(by omega)) with
     | false=>
      rw [he] at hx2 HV
      (repeat (first|refine walkS ?_|refine cS (HV) ?_))
      refine aw_condS rfl (fun hc=>?_) (fun hc=>?_)
      ·refine walkS ?_
       (refine rtS Tryz.results18 ?_;exact ⟨_,_,.inl ⟨rfl,rfl⟩,List.nodup_nil,by rw [e1,e2,hx2];rfl⟩)
      ·(first|exact absurd trivial hc|exact absurd rfl hc|(cases hc;done)|omega|exact absurd hc (by decide)|(simp at hc;done))
     | true=>
      rw [he] at hx2 HV
      (repeat (first|refine walkS ?_|refine cS (HV) ?_))
      refine aw_condS rfl (fun hc=>?_) (fun hc=>?_)
      ·(first|exact absurd trivial hc|exact absurd rfl hc|(cases hc;done)|omega|exact absurd hc (by decide)|(simp at hc;done))
      ·refine walkS ?_
       refine ⟨x+1,⟨by omega,hx2⟩,by omega,?_⟩
       exact wkS
    ·rw [List.drop_eq_nil_of_le (by omega)] at hx2
     refine walkS ?_
     (refine rtS Tryz.results18 ?_;exact ⟨_,_,.inl ⟨rfl,rfl⟩,List.nodup_nil,by rw [e1,e2,hx2];rfl⟩)
   ·have e2:(vs.length==ws.length)=false:=by simpa using hl
    have e2':((vs.length:Int) != ws.length)=true:=by simp;omega
    refine cbS Tryz.func18 rfl Tryz.call18 Tryz.ntmps18 fun en hsz hks hk0=>?_;refine enS ?_
    (repeat (first|refine ctlS ?_|(refine ol_go ?_ (fun K1 hK1=>?_);exact trS;refine evS ?_;(try simp only [e1,e1',e2']);refine hK1 _ _ ?_;clear hK1 K1)|(refine ow_go ?_ dsS (fun K1 hK1=>?_);exact trS;refine evS ?_;(try simp only [e1,e1',e2']);refine hK1 _ ?_;clear hK1 K1)|refine skipS ?_|refine cS (HB) ?_))
    refine aw_condS rfl (fun hc=>?_) (fun hc=>?_)
    ·refine walkS ?_
     (refine rtS Tryz.results18 ?_;exact ⟨_,_,.inl ⟨rfl,rfl⟩,List.nodup_nil,by rw [e1,e2];rfl⟩)
    ·(first|exact absurd trivial hc|exact absurd rfl hc|(cases hc;done)|omega|exact absurd hc (by decide)|(simp at hc;done))
 ·have e1:(n==m)=false:=by simpa using hn
  have e1':(n != m)=true:=by simpa using hn
  refine cbS Tryz.func18 rfl Tryz.call18 Tryz.ntmps18 fun en hsz hks hk0=>?_;refine enS ?_
  (repeat (first|refine ctlS ?_|(refine ol_go ?_ (fun K1 hK1=>?_);exact trS;refine evS ?_;(try simp only [e1,e1']);refine hK1 _ _ ?_;clear hK1 K1)|(refine ow_go ?_ dsS (fun K1 hK1=>?_);exact trS;refine evS ?_;(try simp only [e1,e1']);refine hK1 _ ?_;clear hK1 K1)|refine skipS ?_))
  refine aw_condS rfl (fun hc=>?_) (fun hc=>?_)
  ·refine walkS ?_
   (refine rtS Tryz.results18 ?_;exact ⟨_,_,.inl ⟨rfl,rfl⟩,List.nodup_nil,by rw [e1];rfl⟩)
  ·(first|exact absurd trivial hc|exact absurd rfl hc|(cases hc;done)|omega|exact absurd hc (by decide)|(simp at hc;done))
theorem eqValS_all:∀ N:Nat,∀ {v w:V},SizeOf.sizeOf v≤N→VB 1048576 v→VB 1048576 w→AC Tryz.prog 18 [.d (encV v),.d (encV w)] none (fun r' _=>r'=.d (bD (eqV v w)))
 | 0,.mk n bs vs,w,h,_,_=>by simp only [V.mk.sizeOf_spec] at h;omega
 | N+1,.mk n bs vs,.mk m cs ws,h,hv,hw=>eqValS_step hv hw fun v hvm w hwm=>eqValS_all N (by have:=item_lt (n:=n) (bs:=bs) hvm;omega) (by unfold VB at hv;exact hv.2.2.el v hvm) (by unfold VB at hw;exact hw.2.2.el w hwm)
theorem eqValS_c {v w:V} (hv:VB 1048576 v) (hw:VB 1048576 w):AC Tryz.prog 18 [.d (encV v),.d (encV w)] none (fun r' _=>r'=.d (bD (eqV v w))):=eqValS_all _ (Nat.le_refl _) hv hw

end Go.Proofs.YtndnefealooolaaGreatDoor.Eng
namespace Go.Proofs.YtndnefealooolaaGreatDoor
open Go.RowKit

theorem rdItems_code {f:Nat→Nat→V × Nat × Nat} (hf:∀ k p,(f k p).2.2≤8):∀ (ks:List Nat) (p:Nat),(rdItems f ks p).2.2≤8
 | [],p=>by simp [rdItems]
 | k::ks,p=>by
  rw [rdItems]
  have h1:=hf k p
  generalize f k p=x at h1
  obtain ⟨v,q,c⟩:=x
  dsimp only at h1 ⊢
  split
  ·have h2:=rdItems_code hf ks q
   generalize rdItems f ks q=y at h2
   obtain ⟨vs,q2,c2⟩:=y
   dsimp only at h2 ⊢
   split
   ·simp
   ·exact h2
  ·exact h1
theorem mkItems_code {n:Int}{x:List V × Nat × Nat} (h:x.2.2≤8):(mkItems n x).2.2≤8:=by
 unfold mkItems
 split
 ·simp
 ·exact h
theorem constAt_code (b:List UInt8) (p:Nat):∀ (cs:List UInt8) (i:Nat),(constAt b p i cs).2≤8
 | [],i=>by simp [constAt]
 | c::cs,i=>by
  rw [constAt]
  split
  ·simp
  ·split
   ·exact constAt_code b p cs (i+1)
   ·simp
theorem bytesAt_code (b:List UInt8) (p n:Nat):(bytesAt b p n).2.2≤8:=by
 unfold bytesAt
 split<;>simp
theorem rd_code (D:List RuleD) (b:List UInt8):∀ (f rule p:Nat),(rd D b f rule p).2.2≤8
 | 0,rule,p=>by rw [rd];simp
 | f+1,rule,p=>by
  have IT:∀ (n:Int) (ks:List Nat) (q:Nat),(mkItems n (rdItems (rd D b f) ks q)).2.2≤8:=fun n ks q=>mkItems_code (rdItems_code (fun k p=>rd_code D b f k p) ks q)
  have ITE:∀ (c:Prop) [Decidable c] (x y:V × Nat × Nat),x.2.2≤8→y.2.2≤8→(if c then x else y).2.2≤8:=fun c _ x y hx hy=>by
   by_cases h:c
   ·rw [if_pos h];exact hx
   ·rw [if_neg h];exact hy
  have Z:∀ (v:V) (q c:Nat),c≤8→((v,q,c):V × Nat × Nat).2.2≤8:=fun _ _ _ h=>h
  rw [rd]
  dsimp only
  generalize ruleD D rule=r
  refine ITE _ _ _ ?_ (ITE _ _ _ (constAt_code _ _ _ _) (ITE _ _ _ (bytesAt_code _ _ _) (ITE _ _ _ ?_ (ITE _ _ _ (IT _ _ _) (ITE _ _ _ ?_ (ITE _ _ _ ?_ (ITE _ _ _ ?_ ?_)))))))
  ·split<;>exact Z _ _ _ (by omega)
  ·split<;>exact Z _ _ _ (by omega)
  ·split
   ·exact Z _ _ _ (by omega)
   ·split
    ·exact Z _ _ _ (by omega)
    ·exact IT _ _ _
  ·split
   ·exact Z _ _ _ (by omega)
   ·exact ITE _ _ _ (Z _ _ _ (by omega)) (IT _ _ _)
  ·have h1:=IT 0 [(kid0 r).toNat] p
   generalize mkItems 0 (rdItems (rd D b f) [(kid0 r).toNat] p)=x at *
   obtain ⟨v,q,c⟩:=x
   have h1:c≤8:=h1
   dsimp only
   refine ITE _ _ _ ?_ (Z _ _ _ h1)
   split
   ·exact Z _ _ _ (by omega)
   ·exact ITE _ _ _ (Z _ _ _ (by omega)) (Z _ _ _ (by omega))
  ·split
   ·exact Z _ _ _ (by omega)
   ·exact ITE _ _ _ (bytesAt_code _ _ _) (ITE _ _ _ (Z _ _ _ (by omega)) (IT _ _ _))
namespace Eng
theorem readV_code (D:List RuleD) (b:List UInt8) (i p:Int):(readV D b i p).2.2≤8:=by
 unfold readV
 split
 ·exact rd_code D b D.length i.toNat p.toNat
 ·exact Nat.le_refl _
theorem readF_code (D:List RuleD) (b:List UInt8):(readF D b).2.2≤8:=by
 have h:=readV_code D b ((D.length:Int) - 1) 0
 unfold readF
 split
 ·show 7≤8;omega
 ·exact h
theorem readV_pos (D:List RuleD) (b:List UInt8) (i p:Int):(readV D b i p).2.1≤b.length:=by
 unfold readV
 split
 ·rename_i h
  exact (rd_in D b D.length i.toNat p.toNat (by omega)).2
 ·exact Nat.zero_le _
theorem readF_pos (D:List RuleD) (b:List UInt8):(readF D b).2.1≤b.length:=by
 have h:=readV_pos D b ((D.length:Int) - 1) 0
 unfold readF
 split
 ·exact h
 ·exact h
end Eng
end Go.Proofs.YtndnefealooolaaGreatDoor
namespace Go.Proofs.YtndnefealooolaaGreatDoor.Eng
open Go Go.RowKit

def errT:List ByteArray:=[⟨#[111,107]⟩,⟨#[115,104,111,114,116]⟩,⟨#[99,111,110,115,116]⟩,⟨#[116,97,103]⟩,⟨#[102,108,97,103]⟩,⟨#[115,117,109]⟩,⟨#[99,111,117,110,116]⟩,⟨#[116,114,97,105,108,105,110,103]⟩,⟨#[114,117,108,101]⟩]
theorem errT_all:∀ c:Nat,c≤8→∃ s,errT[c]?=some s∧s.size≤8∧s≠⟨#[]⟩:=by
 intro c hc
 have:c=0∨c=1∨c=2∨c=3∨c=4∨c=5∨c=6∨c=7∨c=8:=by omega
 rcases this with rfl|rfl|rfl|rfl|rfl|rfl|rfl|rfl|rfl<;>exact ⟨_,rfl,by decide,by decide⟩
theorem errT_ne {s t:ByteArray} (h:s≠⟨#[]⟩):s++⟨#[32,97,116,32]⟩++t≠⟨#[111,107]⟩:=fun e=>by
 have h1:=congrArg ByteArray.size e
 rw [ByteArray.size_append,ByteArray.size_append] at h1
 have h2:ByteArray.size ⟨#[32,97,116,32]⟩=4:=rfl
 have h3:ByteArray.size ⟨#[111,107]⟩=2:=rfl
 omega
theorem errNI_c {c:Nat}{s:ByteArray} (hc:c≤8) (hs:errT[c]?=some s):AC Tryz.prog 19 [.d (iD c)] none (fun r' _=>r'=.d (sD s)):=by
 have r1:AC Tryz.prog 42 [.d (iD (c:Nat)),.d (iD 0),.d (iD 8)] none (fun r' _=>r'=.d (bD true)):=(inRangeI_c c 0 8).mono fun r' b e=>by rw [e,decide_eq_true (show (0:Int)≤(c:Int) by omega),decide_eq_true (show (c:Int)≤8 by omega)];rfl
 have hl:errT.length=9:=rfl
 have hmap:[[Eng.D.v (Value.string ⟨#[111,107]⟩)],[Eng.D.v (Value.string ⟨#[115,104,111,114,116]⟩)],[Eng.D.v (Value.string ⟨#[99,111,110,115,116]⟩)],[Eng.D.v (Value.string ⟨#[116,97,103]⟩)],[Eng.D.v (Value.string ⟨#[102,108,97,103]⟩)],[Eng.D.v (Value.string ⟨#[115,117,109]⟩)],[Eng.D.v (Value.string ⟨#[99,111,117,110,116]⟩)],[Eng.D.v (Value.string ⟨#[116,114,97,105,108,105,110,103]⟩)],[Eng.D.v (Value.string ⟨#[114,117,108,101]⟩)]]=errT.map fun s=>[sD s]:=rfl
 refine cbS Tryz.func19 rfl Tryz.call19 Tryz.ntmps19 fun en hsz hks hk0=>?_;refine enS ?_
 (repeat (first|refine ctlS ?_|(refine ol_go ?_ (fun K1 hK1=>?_);exact trS;refine evS ?_;(try simp only [hmap]);refine hK1 _ _ ?_;clear hK1 K1)|(refine ow_go ?_ dsS (fun K1 hK1=>?_);exact trS;refine evS ?_;(try simp only [hmap]);refine hK1 _ ?_;clear hK1 K1)|refine skipS ?_|refine cS (r1) ?_|refine aw_condT rfl ?_|refine aw_condF rfl ?_))
 (refine rtS Tryz.results19 ?_;exact ⟨_,_,.inl ⟨rfl,rfl⟩,List.nodup_nil,rfl⟩)
def tellP (s:ByteArray) (p c:Nat):ByteArray:=if c=0 then s else s++⟨#[32,97,116,32]⟩++itoB p
theorem descEI_c {p c:Nat}{s:ByteArray} (hp:p≤1000) (hc:c≤8) (hs:errT[c]?=some s) (hz:s.size≤8):AC Tryz.prog 20 [.d (iD p),.d (iD c)] none (fun r' _=>r'=.d (sD (tellP s p c))):=by
 have N1:=errNI_c hc hs
 have f1:=fmtI_any (n:=p) (by omega) (by omega)
 have z1:=itoB_size p
 have y0:ByteArray.size ⟨#[32,97,116,32]⟩=4:=rfl
 have y1:(s++⟨#[32,97,116,32]⟩).size=s.size+4:=by rw [ByteArray.size_append];rfl
 unfold tellP
 generalize itoB (p:Int)=sp at *
 refine cbS Tryz.func20 rfl Tryz.call20 Tryz.ntmps20 fun en hsz hks hk0=>?_;refine enS ?_
 refine walkS ?_
 refine aw_condS rfl (fun h=>?_) (fun h=>?_)
 ·rw [if_pos (by omega)]
  (repeat (first|refine walkS ?_|refine cS (N1) ?_))
  (refine rtS Tryz.results20 ?_;exact ⟨_,_,.inl ⟨rfl,rfl⟩,List.nodup_nil,rfl⟩)
 ·rw [if_neg (by omega)]
  (repeat (first|refine walkS ?_|refine cS (N1) ?_|refine cS (f1) ?_))
  (refine rtS Tryz.results20 ?_;exact ⟨_,_,.inl ⟨rfl,rfl⟩,List.nodup_nil,rfl⟩)
theorem readF_big {D:List RuleD}{b:List UInt8} (h:400<b.length):readF D b=(V0,0,8):=by
 have hv:readV D b ((D.length:Int) - 1) 0=(V0,0,8):=by unfold readV;rw [if_neg (fun h'=>by omega)]
 unfold readF
 rw [hv]
 rfl
theorem lawErrors_c (B:List UInt8):AC Tryz.prog 4 [.d (encB B)] none (fun r' _=>r'=.d (bD true)):=by
 by_cases h0:(1048576:Int)<B.length
 ·have b1:=bigB_c B
  rw [decide_eq_true h0] at b1
  refine cbS Tryz.func4 rfl Tryz.call4 Tryz.ntmps4 fun en hsz hks hk0=>?_;refine enS ?_
  (repeat (first|refine walkS ?_|refine cS (b1) ?_))
  refine aw_condS rfl (fun hc=>?_) (fun hc=>?_)
  ·refine walkS ?_
   (refine rtS Tryz.results4 ?_;exact ⟨_,_,.inl ⟨rfl,rfl⟩,List.nodup_nil,rfl⟩)
  ·(first|exact absurd trivial hc|exact absurd rfl hc|(cases hc;done)|omega|exact absurd hc (by decide)|(simp at hc;done))
 have b1:=bigB_c B
 rw [decide_eq_false h0] at b1
 have hB:B.length≤1048576:=by omega
 have V1:=drawF_c hB
 have hlen:=fileC_len (newC B)
 rw [fileC_1] at V1
 have hDB:=descC_db8 (newC B)
 generalize (fileC (newC B)).1.2=b at *
 generalize (descC (newC B)).1=D at *
 have RI:=readFileI_c hDB (Nat.le_refl _) (b:=b) (by omega)
 have RS:=readFile_c hDB (Nat.le_refl _) (b:=b) (by omega)
 have hv:=readF_VB hDB (b:=b) (by omega) (by omega)
 have hc:=readF_code D b
 have hp:=readF_pos D b
 have hbig:=fun h=>readF_big (D:=D) (b:=b) h
 have E1:=eqValS_c hv hv
 rw [eqV_refl] at E1
 generalize readF D b=T at *
 obtain ⟨v,p,c⟩:=T
 simp only at RI RS hc hp hbig E1
 by_cases hl:400<b.length
 ·obtain ⟨_,rfl,rfl⟩:v=V0∧p=0∧c=8:=by
   have:=hbig hl
   simp only [Prod.mk.injEq] at this
   exact this
  have w1:decide ((400:Int)<(b.length:Int))=true:=decide_eq_true (by omega)
  refine cbS Tryz.func4 rfl Tryz.call4 Tryz.ntmps4 fun en hsz hks hk0=>?_;refine enS ?_
  (repeat (first|refine walkS ?_|refine cS (b1) ?_|refine cS (V1) ?_|refine aw_condT rfl ?_|refine aw_condF rfl ?_))
  (repeat (first|refine walkS ?_|refine cS (RI) ?_|refine aw_condT rfl ?_|refine aw_condF rfl ?_))
  (repeat (first|refine ctlS ?_|(refine ol_go ?_ (fun K1 hK1=>?_);exact trS;refine evS ?_;(try simp only [bne_self_eq_false]);refine hK1 _ _ ?_;clear hK1 K1)|(refine ow_go ?_ dsS (fun K1 hK1=>?_);exact trS;refine evS ?_;(try simp only [bne_self_eq_false]);refine hK1 _ ?_;clear hK1 K1)|refine skipS ?_|refine cS (RS) ?_|refine aw_condT rfl ?_|refine aw_condF rfl ?_))
  (repeat (first|refine ctlS ?_|(refine ol_go ?_ (fun K1 hK1=>?_);exact trS;refine evS ?_;(try simp only [w1]);refine hK1 _ _ ?_;clear hK1 K1)|(refine ow_go ?_ dsS (fun K1 hK1=>?_);exact trS;refine evS ?_;(try simp only [w1]);refine hK1 _ ?_;clear hK1 K1)|refine skipS ?_|refine cS (E1) ?_|refine aw_condT rfl ?_|refine aw_condF rfl ?_))
  (refine rtS Tryz.results4 ?_;exact ⟨_,_,.inl ⟨rfl,rfl⟩,List.nodup_nil,rfl⟩)
 ·obtain ⟨s,s1,s2,s3⟩:=errT_all c hc
  have N1:=errNI_c hc s1
  have T1:=descEI_c (p:=p) (by omega) hc s1 s2
  have w1:decide ((400:Int)<(b.length:Int))=false:=decide_eq_false (by omega)
  have w2:decide ((0:Int)≤(p:Int))=true:=decide_eq_true (by omega)
  have w3:decide ((p:Int)≤(b.length:Int))=true:=decide_eq_true (by omega)
  have w4:decide (s=⟨#[]⟩)=false:=decide_eq_false s3
  have w5:(decide (tellP s p c=⟨#[111,107]⟩)==((c:Int)==0))=true:=by
   unfold tellP
   by_cases h:c=0
   ·subst h
    obtain rfl:s=⟨#[111,107]⟩:=by
     have:errT[0]?=some ⟨#[111,107]⟩:=rfl
     rw [this] at s1
     exact (Option.some.inj s1).symm
    rfl
   ·rw [if_neg h,decide_eq_false (errT_ne s3),beq_iff_eq]
    symm
    rw [beq_eq_false_iff_ne]
    omega
  refine cbS Tryz.func4 rfl Tryz.call4 Tryz.ntmps4 fun en hsz hks hk0=>?_;refine enS ?_
  (repeat (first|refine walkS ?_|refine cS (b1) ?_|refine cS (V1) ?_|refine aw_condT rfl ?_|refine aw_condF rfl ?_))
  (repeat (first|refine walkS ?_|refine cS (RI) ?_|refine aw_condT rfl ?_|refine aw_condF rfl ?_))
  (repeat (first|refine ctlS ?_|(refine ol_go ?_ (fun K1 hK1=>?_);exact trS;refine evS ?_;(try simp only [bne_self_eq_false]);refine hK1 _ _ ?_;clear hK1 K1)|(refine ow_go ?_ dsS (fun K1 hK1=>?_);exact trS;refine evS ?_;(try simp only [bne_self_eq_false]);refine hK1 _ ?_;clear hK1 K1)|refine skipS ?_|refine cS (RS) ?_|refine aw_condT rfl ?_|refine aw_condF rfl ?_))
  (repeat (first|refine ctlS ?_|(refine ol_go ?_ (fun K1 hK1=>?_);exact trS;refine evS ?_;(try simp only [w1,w2,w3]);refine hK1 _ _ ?_;clear hK1 K1)|(refine ow_go ?_ dsS (fun K1 hK1=>?_);exact trS;refine evS ?_;(try simp only [w1,w2,w3]);refine hK1 _ ?_;clear hK1 K1)|refine skipS ?_|refine cS (E1) ?_|refine aw_condT rfl ?_|refine aw_condF rfl ?_))
  (repeat (first|refine ctlS ?_|(refine ol_go ?_ (fun K1 hK1=>?_);exact trS;refine evS ?_;(try simp only [w4]);refine hK1 _ _ ?_;clear hK1 K1)|(refine ow_go ?_ dsS (fun K1 hK1=>?_);exact trS;refine evS ?_;(try simp only [w4]);refine hK1 _ ?_;clear hK1 K1)|refine skipS ?_|refine cS (N1) ?_|refine aw_condT rfl ?_|refine aw_condF rfl ?_))
  (repeat (first|refine ctlS ?_|(refine ol_go ?_ (fun K1 hK1=>?_);exact trS;refine evS ?_;(try simp only [w5]);refine hK1 _ _ ?_;clear hK1 K1)|(refine ow_go ?_ dsS (fun K1 hK1=>?_);exact trS;refine evS ?_;(try simp only [w5]);refine hK1 _ ?_;clear hK1 K1)|refine skipS ?_|refine cS (T1) ?_|refine aw_condT rfl ?_|refine aw_condF rfl ?_))
  (refine rtS Tryz.results4 ?_;exact ⟨_,_,.inl ⟨rfl,rfl⟩,List.nodup_nil,rfl⟩)
end Go.Proofs.YtndnefealooolaaGreatDoor.Eng
