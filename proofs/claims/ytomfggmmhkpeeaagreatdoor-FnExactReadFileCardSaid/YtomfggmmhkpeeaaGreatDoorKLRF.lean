/-
 What the laws' sizes bound: descriptions.

 What the laws write over: a value whose rows lie in blocks of their own.

 What the laws of reading values share.

 The law: ReadFile.
-/
import Derived.Test.YtomfggmmhkpeeaaGreatDoorKM2
import Derived.Test.YtomfggmmhkpeeaaGreatDoorKM7
import Derived.Test.YtomfggmmhkpeeaaGreatDoorKL
import Derived.Test.YtomfggmmhkpeeaaGreatDoorKLV2
import Derived.Test.YtomfggmmhkpeeaaGreatDoorKE48
import Derived.Test.YtomfggmmhkpeeaaGreatDoorKM8
import Derived.Test.YtomfggmmhkpeeaaGreatDoorKNS9
import Derived.Test.YtomfggmmhkpeeaaGreatDoorKPure16
import Derived.Test.YtomfggmmhkpeeaaGreatDoorKNS8
set_option linter.unusedSimpArgs false
set_option linter.unusedVariables false
set_option linter.defProp false
set_option maxRecDepth 100000
set_option maxHeartbeats 4000000
namespace Go.Proofs.YtomfggmmhkpeeaaGreatDoor.Eng
open Go Go.RowKit

theorem cntR_le {M:Nat}{r:RuleD} (h:RB M r):cntR r≤4+4*M:=by
 have h1:=h.lb
 have h2:=h.ln
 have h3:=h.lt
 have h4:=h.lk
 unfold cntR
 omega
theorem cntRs_bd {M:Nat}{D:List RuleD} (h:∀ r∈D,RB M r):cntRs D≤D.length*(4+4*M):=by
 induction D with
 | nil=>simp [cntRs]
 | cons r D ih=>
  have h1:=ih fun x hx=>h x (List.mem_cons_of_mem _ hx)
  have h2:=cntR_le (h r (List.mem_cons_self ..))
  simp only [cntRs,List.length_cons]
  rw [Nat.add_mul]
  omega
theorem cntRs_DB {D:List RuleD} (h:DB 1048576 D):cntRs D≤4398050705408:=by
 refine Nat.le_trans (cntRs_bd h.rule) (Nat.le_trans (Nat.mul_le_mul_right _ h.len) (by decide))
end Go.Proofs.YtomfggmmhkpeeaaGreatDoor.Eng
namespace Go.Proofs.YtomfggmmhkpeeaaGreatDoor
open Go.RowKit
theorem Eng.CokM.alloc {C:Eng.CellR}{w:World} (h:Eng.CokM C w) (x:Obj):Eng.CokM C (w.alloc x):=fun b o v hc=>by
 obtain ⟨h1,h2,h3⟩:=h b o v hc
 have hb:(w.alloc x).heap[b]?=w.heap[b]?:=Below.heap_alloc w _ b (Eng.cell_lt h1)
 exact ⟨(World.cell?_of_block (w:=w) (a:=⟨b,o,none⟩) hb).trans h1,h2,(Eng.frz_of_block hb).trans h3⟩
theorem Eng.BelowX.alloc (X:Nat→Prop) (w:World) (x:Obj):Eng.BelowX X w.heap.size w (w.alloc x):=⟨rfl,rfl,rfl,by simp,fun k hk _=>Below.heap_alloc w _ k hk⟩
theorem markV_some {bs:List UInt8}{vs:List V} (ht:bs=[]∨vs=[]) (H:Eng.MVOK vs) {n k:Int}{C:Eng.CellR}{w:World}{a1 a2:Option Addr}{n1 c1 n2 c2:Nat} (h0:0≤k) (hk:k+bs.length+Eng.cntVs vs≤4611686018427387904) (hcm:Eng.CokM C w) (r1:Eng.RepD C (Eng.encB bs) (.slice a1 n1 c1)) (r2:Eng.RepD C (.sp 3 (Eng.encWs vs)) (.slice a2 n2 c2)) :
  Calls Tryz.prog 18 #[.agg #[.int .i64 n,.slice a1 n1 c1,.slice a2 n2 c2],.int .i64 k] w fun e w'=>e=.returned (.int .i64 (k+bs.length+Eng.cntVs vs))∧Eng.BelowX (Eng.Zof C) w.heap.size w w'∧∃ C2:Eng.CellR,(∀ b o v,C2 b o v→Eng.Zof C b)∧Eng.CokM C2 w'∧Eng.RepD C2 (Eng.encB (Eng.mkB k bs.length)) (.slice a1 n1 c1)∧Eng.RepD C2 (.sp 3 (Eng.encWs (Eng.mkVs vs (k+bs.length)))) (.slice a2 n2 c2):=by
 have fw1:=Eng.BelowX.alloc (Eng.Zof C) w (.cells #[.int .i64 n,.slice a1 n1 c1,.slice a2 n2 c2] 29)
 have HB:=Eng.markB_p ht h0 (by omega) (hcm.alloc (.cells #[.int .i64 n,.slice a1 n1 c1,.slice a2 n2 c2] 29)) r1 r2
 have hb:∀ b o v,C b o v→b<w.heap.size:=fun b o v h=>Eng.cell_lt (hcm b o v h).1
 have hnz:¬Eng.Zof C w.heap.size:=fun ⟨o,v,h⟩=>by have:=hb _ _ _ h;omega
 have g2:(w.alloc (.cells #[.int .i64 n,.slice a1 n1 c1,.slice a2 n2 c2] 29)).cell? ⟨w.heap.size,2,none⟩=some (.slice a2 n2 c2):=by rw [cell_of_row _ w.heap.size 2 _ _ _ (heap_alloc_new w _)];rfl
 have Hh:=Lib.hid (And.intro fw1 (And.intro hnz hcm))
 clear hcm
 go_enter Tryz.func18,Tryz.ntmps18
 go_wp2_with (first|(go_at_call 17;refine HB.mono ?_;rintro e w2 ⟨rfl,hfw2,C2,q1,q2,q3,q4⟩;have e3:w2.cell? ⟨w.heap.size,2,none⟩=some (.slice a2 n2 c2):=(World.cell?_of_block (a:=⟨w.heap.size,2,none⟩) (hfw2.block w.heap.size (by simp) hnz)).trans g2)|(go_at_call 39;refine (Eng.markV_p (k:=k+bs.length) H (by rcases ht with rfl|h;exact .inl (by simp [Eng.mkB]);exact .inr h) (by omega) (by omega) q2 q3 q4).mono ?_;rintro e w3 ⟨rfl,hfw3,C3,p1,p2,p3,p4⟩))
 go_ret
 have z2:∀ b,Eng.Zof C2 b→Eng.Zof C b:=fun b ⟨o,v,h⟩=>q1 _ _ _ h
 exact ⟨rfl,(Hh.out.1.trans (hfw2.le fw1.size)).trans ((hfw3.imp z2).le (Nat.le_trans fw1.size hfw2.size)),C3,fun b o v h=>z2 _ (p1 _ _ _ h),p2,p3,p4⟩
namespace Eng
open Go Go.RowKit
theorem markV_x {v:V} (ht:Thin v) {k:Int} (h0:0≤k) (hk:k+totV v≤4611686018427387904):ACM Tryz.prog 18 (.agg (encWc v)) k (k+totV v) (some (encV (mkV v k))):=
 ⟨Tryz.call18,fun w Ce C u hCe hdis hcm hr=>by
 obtain ⟨n,bs,vs⟩:=v
 rw [totV] at hk ⊢
 have hce:=cntVs_eq vs
 unfold Thin at ht
 simp only [encWc] at hr
 unfold RepD at hr
 obtain ⟨us,rfl,h1,_⟩:=hr
 unfold RepL at h1
 obtain ⟨x0,us',rfl,e0,h1⟩:=h1
 unfold RepL at h1
 obtain ⟨x1,us',rfl,e1,h1⟩:=h1
 unfold RepL at h1
 obtain ⟨x2,us',rfl,e2,h1⟩:=h1
 unfold RepL at h1
 subst h1
 rw [repD_v] at e0
 subst e0
 have s1:∃ a n c,x1=.slice a n c:=by
  have:=e1
  unfold encB RepD at this
  obtain ⟨a,cap,rfl,_⟩:=this
  exact ⟨_,_,_,rfl⟩
 have s2:∃ a n c,x2=.slice a n c:=by
  have:=e2
  unfold RepD at this
  obtain ⟨a,cap,rfl,_⟩:=this
  exact ⟨_,_,_,rfl⟩
 obtain ⟨a1,n1,c1,rfl⟩:=s1
 obtain ⟨a2,n2,c2,rfl⟩:=s2
 refine (markV_some ht.1 (markVs_ok _ (Nat.le_refl _) ht.2) (n:=n) h0 (by omega) hcm e1 e2).mono fun e w' ⟨g1,g2,C2,g3,g4,g5,g6⟩=>⟨by rw [g1];congr 2;omega,g2,fun x hx=>?_⟩
 obtain rfl:=Option.some.inj hx
 refine ⟨C2,g3,g4,?_⟩
 rw [mkV,encV_mk]
 unfold RepD
 refine ⟨_,rfl,?_,fun x hx=>?_⟩
 ·unfold RepL
  refine ⟨_,_,rfl,by unfold RepD;rfl,?_⟩
  unfold RepL
  refine ⟨_,_,rfl,g5,?_⟩
  unfold RepL
  exact ⟨_,_,rfl,w_sl _ _ _ g6,by unfold RepL;rfl⟩
 ·simp only [List.mem_cons,List.not_mem_nil,or_false] at hx
  rcases hx with rfl|rfl|rfl<;>rfl⟩
end Eng
end Go.Proofs.YtomfggmmhkpeeaaGreatDoor
namespace Go.Proofs.YtomfggmmhkpeeaaGreatDoor.Eng
open Go Go.RowKit

theorem IvL.semA {cs ds:List D}{xs ys:List A} (hh:SemL cs ds) (h:IvL xs ys):IvL (.d (.agg cs)::xs) (.d (.agg ds)::ys):=IvL.aggL (fun _ _ k=>hh.rep k) h
theorem Sem.outW {p:Nat→Prop}{vs:List V}:Sem (.iv p (.sp 3 (encWs vs))) (.sl 3 (encVs vs)):=fun C u r=>w_sl vs C u (Sem.out C u r)
theorem AC.ivW {P:Program}{f:FuncId}{xs ys:List A}{bx:Option (List Rz)}{Q:Rz→Option (List Rz)→Prop} (h:AC P f ys bx Q) (k:IvL xs ys:=by repeat (first|exact IvL.nil|refine IvL.semA (by repeat (first|exact Sem.refl _|exact Sem.outW|exact Sem.out|exact SemL.nil|refine SemL.cons ?_ ?_)) ?_|refine IvL.iv ?_|refine IvL.same ?_)):AC P f xs bx Q:=h.iv k
theorem on_aggW {p:Nat→Prop}{n:Int}{bs:List UInt8}{vs:List V} (C:CellR) (u:Value) (k:RepD C (.agg [iD n,.iv p (encB bs),.iv p (.sp 3 (encWs vs))]) u):RepD (C.on p) (.agg (encWc (.mk n bs vs))) u:=
 repD_iv.1 (agg_new (p:=p) (.cons .v (.cons .iv (.cons .iv .nil))) C u k)
theorem markV_y {n:Int}{bs:List UInt8}{vs:List V} (ht:Thin (.mk n bs vs)) {k:Int} (h0:0≤k) (hk:k+totV (.mk n bs vs)≤4611686018427387904):ACM Tryz.prog 18 (.agg (encWc (.mk n bs vs))) k (k+totV (.mk n bs vs)) (some (.agg [iD n,encB (mkB k bs.length),.sl 3 (encVs (mkVs vs (k+bs.length)))])):=by
 have:=markV_x ht h0 hk
 rwa [mkV,encV_mk] at this
theorem heldV_y {n:Int}{bs:List UInt8}{vs:List V}{k:Int} (h0:0≤k) (hk:k+totV (.mk n bs vs)≤4611686018427387904):AC Tryz.prog 19 [.d (.agg [iD n,encB (mkB k bs.length),.sl 3 (encVs (mkVs vs (k+bs.length)))]),.d (iD k)] none (fun r' _=>r'=.d (iD (k+totV (.mk n bs vs)))):=by
 have:=heldV_c (v:=.mk n bs vs) h0 hk
 rwa [mkV,encV_mk] at this
theorem rdWR_sem (n:Nat) (k0:Int) (bs:List UInt8) (vs:List V) (y z:D):Sem (.tup [.agg [iD k0,.iv (fun b=>n≤b) (encB bs),.iv (fun b=>n≤b) (.sp 3 (encWs vs))],y,z]) (.tup [.agg [iD k0,encB bs,.sl 3 (encVs vs)],y,z]):=
 Sem.tup (.cons (Sem.agg (.cons (Sem.refl _) (.cons Sem.out (.cons Sem.outW .nil)))) (SemL.refl _))
end Go.Proofs.YtomfggmmhkpeeaaGreatDoor.Eng
namespace Go.Proofs.YtomfggmmhkpeeaaGreatDoor.Eng
open Go Go.RowKit

private def tyF:=ai (ai (ai tg25 (ai tg22 tg27)) (ai (ai tg32 tg86) (ai tg87 tg24))) (ai (ai (ai tg29 tg34) (ai tg89 tg91)) (ai (ai tg3 tg4) (ai tg5 tg9)))
theorem lawReadFile_c {D:List RuleD} (hD:DB 9223372036854775807 D) {b:List UInt8} (hb0:b.length≤9223372036854775807):AC Tryz.prog 4 [.d (encD D),.d (encB b)] none (fun r' _=>r'=.d (bD true)):=by
 refine calls_bodyL Tryz.func4 rfl Tryz.call4 Tryz.ntmps4 (by simp) (by simp [ArgsOk]) fun en hsz hcok hX hks=>?_;refine enS ?_
 refine walkS ?_
 refine aw_condS rfl (fun h0=>?_) (fun h0=>?_)
 ·refine walkS ?_
  (refine rtS Tryz.results4 ?_;exact ⟨_,_,.inl ⟨rfl,rfl⟩,List.nodup_nil,rfl⟩)
 have hb:b.length≤1048576:=by omega
 (repeat (first|refine walkS ?_|(refine callPre ?_;(first|refine callN_funS rfl (szDescription_c hD 1048576 (by omega)) ?_))|(refine callPreL ?_;(first|refine callL_funS rfl (szDescription_c hD 1048576 (by omega)) ?_))))
 refine aw_condS rfl (fun h1=>?_) (fun h1=>?_)
 ·refine walkS ?_
  (refine rtS Tryz.results4 ?_;exact ⟨_,_,.inl ⟨rfl,rfl⟩,List.nodup_nil,rfl⟩)
 have hDM:DB 1048576 D:=lftDs_ge (x:=1048576) (by omega) (by omega) (by omega)
 have hcn:=cntRs_DB hDM
 have HS:=readFile_c hDM (Nat.le_refl _) hb
 have HI:=readFileW_c hDM (Nat.le_refl _) hb
 have hth:=thin_readF D b
 have hvb:=readF_VB hDM hb (by omega)
 have htt:=readF_tot (D:=D) (b:=b)
 generalize readF D b=T at HS HI hth hvb htt
 obtain ⟨⟨k0,bs,vs⟩,q,c⟩:=T
 simp only at hth hvb htt
 have EQ:=eqValue_c hvb
 rw [encV_mk] at EQ
 simp only [rdR,encV_mk] at HS
 replace HI:ACN Tryz.prog 21 [.d (encD D),.d (encB b)] (fun n0=>.tup [.agg [iD k0,.iv (fun b=>n0≤b) (encB bs),.iv (fun b=>n0≤b) (.sp 3 (encWs vs))],iD (q:Nat),iD (c:Nat)]):=HI
 have HD:=HI.sem (fun n=>rdWR_sem n k0 bs vs _ _)
 (repeat (first|refine walkS ?_|refine cS (toByteS_c hb) ?_|(refine callPre ?_;(first|refine callN_funS rfl (toDescription_c hDM (Nat.le_refl _)) ?_))|(refine callPreL ?_;(first|refine callL_funS rfl (toDescription_c hDM (Nat.le_refl _)) ?_))))
 (first|refine cS (HS) ?_)
 refine walkS ?_
 (refine ow_callDA [1] [16,96] ?_ dsS rfl (ACD.iv ((toDescription_n hDM (Nat.le_refl _)).acd) ?_) (fun n hn=>?_);exact trS;(repeat (first|exact IvL.nil|refine IvL.iv ?_|refine IvL.agg1 ?_|refine IvL.aggV ?_|refine IvL.agg3 ?_|refine IvL.same ?_));simp (decide:=true) only [St.bound,boundA_iv,boundA_sl,boundA_B,boundA_I,boundA_S,boundA_Ds,boundA_v,St.f,lk,St.set,rzI,rzIL,reduceIte,List.map_cons,List.map_nil,List.cons_append,List.nil_append,Option.map_some,Option.map_none])
 refine walkS ?_
 (refine ow_callDA [1] [16,96,112] ?_ dsS rfl (ACD.iv ((toByteS_i hb).acd) ?_) (fun n hn=>?_);exact trS;(repeat (first|exact IvL.nil|refine IvL.iv ?_|refine IvL.agg1 ?_|refine IvL.aggV ?_|refine IvL.agg3 ?_|refine IvL.same ?_));simp (decide:=true) only [St.bound,boundA_iv,boundA_sl,boundA_B,boundA_I,boundA_S,boundA_Ds,boundA_v,St.f,lk,St.set,rzI,rzIL,reduceIte,List.map_cons,List.map_nil,List.cons_append,List.nil_append,Option.map_some,Option.map_none])
 refine walkS ?_
 (refine ow_callDA [1,10] [16,96,112] ?_ dsS rfl (ACD.iv (HI.acd) ?_) (fun n hn=>?_);exact trS;(repeat (first|exact IvL.nil|refine IvL.iv ?_|refine IvL.agg1 ?_|refine IvL.aggV ?_|refine IvL.agg3 ?_|refine IvL.same ?_));simp (decide:=true) only [St.bound,boundA_iv,boundA_sl,boundA_B,boundA_I,boundA_S,boundA_Ds,boundA_v,St.f,lk,St.set,rzI,rzIL,reduceIte,List.map_cons,List.map_nil,List.cons_append,List.nil_append,Option.map_some,Option.map_none])
 (repeat (first|refine ctlS ?_|(refine ol_go ?_ (fun K1 hK1=>?_);exact trS;refine evS ?_;(try simp only [bne_self_eq_false]);refine hK1 _ _ ?_;clear hK1 K1)|(refine ow_go ?_ dsS (fun K1 hK1=>?_);exact trS;refine evS ?_;(try simp only [bne_self_eq_false]);refine hK1 _ ?_;clear hK1 K1)|refine skipS ?_|(refine callPre ?_;(first|refine callN_funS rfl (AC.ivW EQ) ?_))|(refine callPreL ?_;(first|refine callL_funS rfl (AC.ivW EQ) ?_))))
 refine aw_condS rfl (fun h2=>?_) (fun h2=>?_)
 ·(first|exact absurd trivial h2|exact absurd rfl h2|(cases h2;done)|omega|exact absurd h2 (by decide)|(simp at h2;done))
 (repeat (first|refine walkS ?_|(refine callPre ?_;(first|refine callN_funS rfl (AC.iv (toDescription_c hDM (Nat.le_refl _))) ?_|refine callN_funS rfl (AC.iv (eqDescription_c hDM (Nat.le_refl _))) ?_))|(refine callPreL ?_;(first|refine callL_funS rfl (AC.iv (toDescription_c hDM (Nat.le_refl _))) ?_|refine callL_funS rfl (AC.iv (eqDescription_c hDM (Nat.le_refl _))) ?_))))
 refine aw_condS rfl (fun h3=>?_) (fun h3=>?_)
 ·(first|exact absurd trivial h3|exact absurd rfl h3|(cases h3;done)|omega|exact absurd h3 (by decide)|(simp at h3;done))
 (repeat (first|refine walkS ?_|(refine callPre ?_;(first|refine callN_funS rfl (AC.iv (toByteS_c hb)) ?_|refine callN_funS rfl (AC.iv (eqByteS_c hb)) ?_))|(refine callPreL ?_;(first|refine callL_funS rfl (AC.iv (toByteS_c hb)) ?_|refine callL_funS rfl (AC.iv (eqByteS_c hb)) ?_))))
 refine aw_condS rfl (fun h4=>?_) (fun h4=>?_)
 ·(first|exact absurd trivial h4|exact absurd rfl h4|(cases h4;done)|omega|exact absurd h4 (by decide)|(simp at h4;done))
 refine walkS ?_
 (refine ow_mark [1,2,6,7,8,9,10,11,12,13] [16,96,128] ?_ dsS rfl rfl rfl ⟨markD_1 (by omega),on_agg1,hcok,(by intro b h;(try dsimp only at h);omega),(by (repeat (refine And.intro (by first|exact Safe.v|exact Safe.ptr|exact Safe.iv (by intro b h1 h2;(try dsimp only at h1 h2);omega)|exact Safe.top) ?_));exact trivial),(by (repeat (refine And.intro (by intro cs hcs;cases hcs;(repeat (refine And.intro (by first|exact Safe.v|exact Safe.ptr|exact Safe.iv (by intro b h1 h2;(try dsimp only at h1 h2);omega)|exact Safe.top) ?_));exact trivial) ?_));exact trivial)⟩ ?_;exact trS;simp (decide:=true) only [St.keep,St.f,lk,St.set,reduceIte,List.map_cons,List.map_nil,List.cons_append,List.nil_append])
 refine walkS ?_
 (refine ow_mark [1,2,6,7,8,11,12,13] [16,96,128] ?_ dsS rfl rfl rfl ⟨markB_m (l:=b) (by omega) (by omega),on_iv,hcok,(by intro b h;(try dsimp only at h);omega),(by (repeat (refine And.intro (by first|exact Safe.v|exact Safe.ptr|exact Safe.iv (by intro b h1 h2;(try dsimp only at h1 h2);omega)|exact Safe.top) ?_));exact trivial),(by (repeat (refine And.intro (by intro cs hcs;cases hcs;(repeat (refine And.intro (by first|exact Safe.v|exact Safe.ptr|exact Safe.iv (by intro b h1 h2;(try dsimp only at h1 h2);omega)|exact Safe.top) ?_));exact trivial) ?_));exact trivial)⟩ ?_;exact trS;simp (decide:=true) only [St.keep,St.f,lk,St.set,reduceIte,List.map_cons,List.map_nil,List.cons_append,List.nil_append])
 have e1:decide (1+(cntRs D:Int)+b.length<0)=false:=decide_eq_false (by omega)
 (repeat (first|refine ctlS ?_|(refine ol_go ?_ (fun K1 hK1=>?_);exact trS;refine evS ?_;(try simp only [e1,bne_self_eq_false]);refine hK1 _ _ ?_;clear hK1 K1)|(refine ow_go ?_ dsS (fun K1 hK1=>?_);exact trS;refine evS ?_;(try simp only [e1,bne_self_eq_false]);refine hK1 _ ?_;clear hK1 K1)|refine skipS ?_|(refine callPre ?_;(first|refine callN_funS rfl (AC.ivW EQ) ?_))|(refine callPreL ?_;(first|refine callL_funS rfl (AC.ivW EQ) ?_))))
 refine aw_condS rfl (fun h5=>?_) (fun h5=>?_)
 ·(first|exact absurd trivial h5|exact absurd rfl h5|(cases h5;done)|omega|exact absurd h5 (by decide)|(simp at h5;done))
 (iterate 7 (first|refine aw_seq ?_|refine aw_region ?_|refine aw_block ?_|(refine aw_exit ?_;(try simp (decide:=true) only [reduceIte]))|(refine aw_skip ?_;try dsimp only)|(refine aw_any (by kernel_rfl) (by kernel_rfl) (by simp only [hsz];kernel_rfl) ?_)|(refine ow_nil ?_;try dsimp only)|(refine ol_go ?_ (fun K1 hK1=>?_);exact trS;refine evS ?_;refine hK1 _ _ ?_;clear hK1 K1)|(refine ol_skip rfl rfl ?_ ?_;(focus (intro hne;cases hne;done));simp only [St.set])|(refine ol_nil ⟨by kernel_rfl,?_⟩;try dsimp only)|(refine ow_go ?_ dsS (fun K1 hK1=>?_);exact trS;refine evS ?_;refine hK1 _ ?_;clear hK1 K1)|(refine ow_skip rfl rfl ?_ dsS ?_;(focus (intro hne;cases hne;done));simp only [St.set])))
 (refine ow_markB (ds:=[iD k0,.iv (fun b=>n≤b) (encB bs),.iv (fun b=>n≤b) (.sp 3 (encWs vs))]) [1,2,6,7,8,11] [16,96] rfl rfl rfl rfl rfl rfl rfl rfl (by rw [hsz];decide) (by rw [hsz];decide) (by rw [hsz];decide) (by decide) rfl rfl rfl tk29 rfl ⟨markV_y hth (k:=1) (by omega) (by omega),on_aggW,hcok,(by intro b h;(try dsimp only at h);omega),(by (repeat (refine And.intro (by first|exact Safe.v|exact Safe.ptr|exact Safe.iv (by intro b h1 h2;(try dsimp only at h1 h2);omega)|exact Safe.top) ?_));exact trivial),(by (repeat (refine And.intro (by intro cs hcs;cases hcs;(repeat (refine And.intro (by first|exact Safe.v|exact Safe.ptr|exact Safe.iv (by intro b h1 h2;(try dsimp only at h1 h2);omega)|exact Safe.top) ?_));exact trivial) ?_));exact trivial)⟩ ?_;simp (decide:=true) only [St.keep,St.f,lk,St.set,reduceIte,List.map_cons,List.map_nil,List.cons_append,List.nil_append])
 have HH:=heldV_y (n:=k0) (bs:=bs) (vs:=vs) (k:=1) (by omega) (by omega)
 generalize totV (V.mk k0 bs vs)=tv at *
 (repeat (first|refine walkS ?_|(refine callPre ?_;(first|refine callN_funS rfl (AC.ivW HH) ?_))|(refine callPreL ?_;(first|refine callL_funS rfl (AC.ivW HH) ?_))))
 refine aw_condS rfl (fun h6=>?_) (fun h6=>?_)
 ·(first|exact absurd trivial h6|exact absurd rfl h6|(cases h6;done)|omega|exact absurd h6 (by decide)|(simp at h6;done))
 refine walkS ?_
 refine aw_condS rfl (fun h7=>?_) (fun h7=>?_)
 ·(first|exact absurd trivial h7|exact absurd rfl h7|(cases h7;done)|omega|exact absurd h7 (by decide)|(simp at h7;done))
 (repeat (first|refine walkS ?_|refine cS (HD) ?_|(refine callPre ?_;(first|refine callN_funS rfl (AC.iv (toDescription_c hDM (Nat.le_refl _))) ?_|refine callN_funS rfl (AC.iv (toByteS_c hb)) ?_))|(refine callPreL ?_;(first|refine callL_funS rfl (AC.iv (toDescription_c hDM (Nat.le_refl _))) ?_|refine callL_funS rfl (AC.iv (toByteS_c hb)) ?_))))
 (repeat (first|refine ctlS ?_|(refine ol_go ?_ (fun K1 hK1=>?_);exact trS;refine evS ?_;(try simp only [bne_self_eq_false]);refine hK1 _ _ ?_;clear hK1 K1)|(refine ow_go ?_ dsS (fun K1 hK1=>?_);exact trS;refine evS ?_;(try simp only [bne_self_eq_false]);refine hK1 _ ?_;clear hK1 K1)|refine skipS ?_|(refine callPre ?_;(first|refine callN_funS rfl (AC.ivW EQ) ?_))|(refine callPreL ?_;(first|refine callL_funS rfl (AC.ivW EQ) ?_))))
 refine aw_condS rfl (fun h8=>?_) (fun h8=>?_)
 ·(first|exact absurd trivial h8|exact absurd rfl h8|(cases h8;done)|omega|exact absurd h8 (by decide)|(simp at h8;done))
 (repeat (first|refine walkS ?_|(refine callPre ?_;(first|refine callN_funS rfl (AC.ivW HH) ?_))|(refine callPreL ?_;(first|refine callL_funS rfl (AC.ivW HH) ?_))))
 refine aw_condS rfl (fun h9=>?_) (fun h9=>?_)
 ·(first|exact absurd trivial h9|exact absurd rfl h9|(cases h9;done)|omega|exact absurd h9 (by decide)|(simp at h9;done))
 refine walkS ?_
 refine aw_condS rfl (fun h10=>?_) (fun h10=>?_)
 ·(first|exact absurd trivial h10|exact absurd rfl h10|(cases h10;done)|omega|exact absurd h10 (by decide)|(simp at h10;done))
 ·refine walkS ?_
  (refine rtS Tryz.results4 ?_;exact ⟨_,_,.inl ⟨rfl,rfl⟩,List.nodup_nil,rfl⟩)
end Go.Proofs.YtomfggmmhkpeeaaGreatDoor.Eng
