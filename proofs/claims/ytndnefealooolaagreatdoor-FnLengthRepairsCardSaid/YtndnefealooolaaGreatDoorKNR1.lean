/-
 Numbers as bytes: both sides.

 Mutations: the program.
-/
import Derived.Test.YtndnefealooolaaGreatDoorKNE
import Derived.Test.YtndnefealooolaaGreatDoorKP2
import Derived.Test.YtndnefealooolaaGreatDoorKE30
import Derived.Test.YtndnefealooolaaGreatDoorKE5
import Derived.Test.YtndnefealooolaaGreatDoorKTy
import Derived.Test.YtndnefealooolaaGreatDoorKN0
import Derived.Test.YtndnefealooolaaGreatDoorKE38
import Derived.Test.YtndnefealooolaaGreatDoorKPR2
set_option linter.unusedSimpArgs false
set_option linter.unusedVariables false
set_option linter.defProp false
set_option maxRecDepth 100000
set_option maxHeartbeats 4000000
namespace Go.Proofs.YtndnefealooolaaGreatDoor.Eng
open Go Go.RowKit

theorem beB_cons:∀ (t n:Nat),beB (t+1) n=UInt8.ofNat (n / 256 ^ t % 256)::beB t n
 | 0,n=>by simp [beB]
 | t+1,n=>by
  rw [beB,beB_cons t (n / 256)]
  conv=>rhs;rw [beB]
  rw [List.cons_append,Nat.div_div_eq_div_mul,Nat.pow_succ,Nat.mul_comm]
theorem u8_wrap (n:Nat):IntKind.u8.wrap (n:Int)=((UInt8.ofNat (n % 256)).toNat:Int):=by
 have h1:IntKind.u8.wrap (n:Int)=(n:Int) % 256:=by
  simp [IntKind.wrap,IntKind.bits,IntKind.signed]
 rw [h1,UInt8.toNat_ofNat']
 omega
theorem fdiv_pow {n:Nat}{k:Nat}:((n:Int)).fdiv (2 ^ k)=((n / 2 ^ k:Nat):Int):=by
 rw [Int.fdiv_eq_ediv_of_nonneg _ (Int.le_of_lt (Int.pow_pos (by decide)))]
 simp
section
private def tyF:=ai (ai (ai tg22 tg57) (ai tg65 tg97)) (ai (ai tg3 tg4) (ai tg5 tg9))
theorem powerS_c {s:Int} (h:1≤s∧s≤4):AC Tryz.prog 79 [.d (iD s)] none (fun r' _=>r'=.d (iD (2 ^ (8*s.toNat)))):=by
 have:s=1∨s=2∨s=3∨s=4:=by omega
 rcases this with rfl|rfl|rfl|rfl
 all_goals
  refine cbS Tryz.func79 rfl Tryz.call79 Tryz.ntmps79 fun en hsz hks hk0=>?_;refine enS ?_
  refine walkS ?_
  (refine rtS Tryz.results79 ?_;exact ⟨_,_,.inl ⟨rfl,rfl⟩,List.nodup_nil,congrArg (fun n=>Rz.d (iD n)) (by decide)⟩)
theorem bigS_o {s n:Nat} (hs:1≤s∧s≤4) (hn:n<256 ^ s):AC Tryz.prog 119 [.d (iD (n:Nat)),.d (iD (s:Nat))] none (fun r' _=>r'=.own 5 1 ((beB s n).map fun c=>[uD c])):=by
 have P:=powerS_c (s:=(s:Int)) (by omega)
 rw [Int.toNat_natCast] at P
 have hp:(2:Int) ^ (8*s)=((256 ^ s:Nat):Int):=by rw [Int.pow_mul];simp
 rw [hp] at P
 have hb:(256:Nat) ^ s≤4294967296:=by
  obtain ⟨h1,h2⟩:=hs
  have:s=1∨s=2∨s=3∨s=4:=by omega
  rcases this with rfl|rfl|rfl|rfl<;>decide
 have L1:AC Tryz.prog 64 [.d (iD (s:Nat)),.d (iD 1),.d (iD 4)] none (fun r' _=>r'=.d (bD true)):=l1In_t (by omega)
 have L2:AC Tryz.prog 64 [.d (iD (n:Nat)),.d (iD 0),.d (iD (((256 ^ s:Nat):Int) - 1))] none (fun r' _=>r'=.d (bD true)):=l1In_t (by omega)
 refine cbS Tryz.func119 rfl Tryz.call119 Tryz.ntmps119 fun en hsz hks hk0=>?_;refine enS ?_
 (repeat (first|refine walkS ?_|refine cS (P) ?_|refine cS (L1) ?_|refine cS (L2) ?_))
 refine aw_condS rfl (fun h0=>?_) (fun h0=>?_)
 ·(first|exact absurd trivial h0|exact absurd rfl h0|(cases h0;done)|omega|exact absurd h0 (by decide)|(simp at h0;done))
 refine walkS ?_
 refine aw_loopS [0,4] (fun κ s'=>[(κ,keyOf (s'.f 5))]) (fun κ x=>[(6,.d (iD ((x.1:Nat) - 1))),(5,.own κ 5 1 (x.2.map fun c=>[uD c]))]) [] (fun _ _=>[]) [16] (fun κ x=>[(κ,some (x.2.length,5,1))]) (fun x:Nat × List UInt8=>x.1≤s∧x.2++beB x.1 n=beB s n∧x.2.length+x.1=s) (fun x=>x.1) ((s,[])) hks (fun _=>rfl) ⟨Nat.le_refl _,rfl,by simp⟩ wkS ?_;intro x hx;refine headS ?_
 obtain ⟨m,acc⟩:=x
 simp only at hx ⊢
 obtain ⟨hx1,hx2,hx3⟩:=hx
 refine walkS ?_
 refine aw_condS rfl (fun hk=>?_) (fun hk=>?_)
 ·obtain ⟨m,rfl⟩:∃ k,m=k+1:=⟨m - 1,by omega⟩
  have hbits:IntKind.i64.bits=64:=rfl
  have hsh:((n:Int)).fdiv (2 ^ (min (8*(m:Int)).toNat IntKind.i64.bits))=((n / 256 ^ m:Nat):Int):=by
   rw [show min (8*(m:Int)).toNat IntKind.i64.bits=8*m by omega,fdiv_pow,Nat.pow_mul]
  have hsh':((n:Int)).fdiv (2 ^ (min (8*(((m+1:Nat):Int) - 1)).toNat IntKind.i64.bits))=((n / 256 ^ m:Nat):Int):=by
   rw [show min (8*(((m+1:Nat):Int) - 1)).toNat IntKind.i64.bits=8*m by omega,fdiv_pow,Nat.pow_mul]
  rw [beB_cons] at hx2
  (repeat (first|refine ctlS ?_|(refine ol_go ?_ (fun K1 hK1=>?_);exact trS;refine evS ?_;(try simp only [hsh,hsh',u8_wrap]);refine hK1 _ _ ?_;clear hK1 K1)|(refine ow_go ?_ dsS (fun K1 hK1=>?_);exact trS;refine evS ?_;(try simp only [hsh,hsh',u8_wrap]);refine hK1 _ ?_;clear hK1 K1)|refine skipS ?_))
  refine ⟨(m,acc++[UInt8.ofNat (n / 256 ^ m % 256)]),⟨by simp only;omega,by simpa using hx2,by simp;omega⟩,by simp only;omega,?_⟩
  exact wkS
 ·obtain rfl:m=0:=by omega
  rw [show beB 0 n=[] from rfl,List.append_nil] at hx2
  subst hx2
  refine walkS ?_
  (refine rtS Tryz.results119 ?_;exact ⟨_,_,.inl (toZ_own (by simp [lk,St.mem])),by simp,rfl⟩)
theorem bigS_c {s n:Nat} (hs:1≤s∧s≤4) (hn:n<256 ^ s):AC Tryz.prog 119 [.d (iD (n:Nat)),.d (iD (s:Nat))] none (fun r' _=>r'=.d (encB (beB s n))):=(bigS_o hs hn).ownd
theorem beB_l (s n:Nat):(beB s n).length=s:=beB_len s n
theorem littleS_o {s n:Nat} (hs:1≤s∧s≤4) (hn:n<256 ^ s):AC Tryz.prog 118 [.d (iD (n:Nat)),.d (iD (s:Nat))] none (fun r' _=>r'=.own 5 1 ((beB s n).reverse.map fun c=>[uD c])):=by
 have HB:=bigS_c hs hn
 have hl:=beB_l s n
 generalize beB s n=b at HB hl
 refine cbS Tryz.func118 rfl Tryz.call118 Tryz.ntmps118 fun en hsz hks hk0=>?_;refine enS ?_
 (repeat (first|refine walkS ?_|refine cS (HB) ?_))
 refine aw_loopS [4,5] (fun κ s'=>[(κ,keyOf (s'.f 6))]) (fun κ x=>[(7,.d (iD ((x.1:Nat) - 1))),(6,.own κ 5 1 (x.2.map fun c=>[uD c]))]) [] (fun _ _=>[]) [32] (fun κ x=>[(κ,some (x.2.length,5,1))]) (fun x:Nat × List UInt8=>x.1≤b.length∧x.2=(b.drop x.1).reverse) (fun x=>x.1) ((b.length,[])) hks (fun _=>rfl) ⟨Nat.le_refl _,by simp⟩ wkS ?_;intro x hx;refine headS ?_
 obtain ⟨m,acc⟩:=x
 simp only at hx ⊢
 obtain ⟨hx1,rfl⟩:=hx
 have hr:((b.drop m).reverse).length≤4:=by simp;omega
 refine walkS ?_
 refine aw_condS rfl (fun hk=>?_) (fun hk=>?_)
 ·obtain ⟨m,rfl⟩:∃ k,m=k+1:=⟨m - 1,by omega⟩
  have e1:((m+1:Nat):Int) - 1=(m:Nat):=by omega
  have hm:m<b.length:=by omega
  simp only [e1]
  refine walkS ?_
  refine ⟨(m,(b.drop (m+1)).reverse++[b[m]]),⟨by simp only;omega,by simp only;rw [List.drop_eq_getElem_cons hm,List.reverse_cons]⟩,by simp only;omega,?_⟩
  exact wkS
 ·obtain rfl:m=0:=by omega
  rw [List.drop_zero]
  refine walkS ?_
  (refine rtS Tryz.results118 ?_;exact ⟨_,_,.inl (toZ_own (by simp [lk,St.mem])),by simp,rfl⟩)
theorem pow_fit {r:RuleD} (hs:1≤r.size∧r.size≤4) {n:Nat} (hn:(n:Int)<2 ^ (8*r.size.toNat)):n<256 ^ r.size.toNat:=by
 have h:((2:Int) ^ (8*r.size.toNat))=((256 ^ r.size.toNat:Nat):Int):=by rw [Int.pow_mul];simp
 rw [h] at hn
 omega
theorem l8Int_o {r:RuleD}{n:Nat} (hs:1≤r.size∧r.size≤4) (hn:(n:Int)<2 ^ (8*r.size.toNat)):AC Tryz.prog 77 [.d (encR r),.d (iD (n:Nat))] none (fun r' _=>r'=.own 5 1 ((intB r n).map fun c=>[uD c])):=by
 have HB:=bigS_o (s:=r.size.toNat) (by omega) (pow_fit hs hn)
 have HL:=littleS_o (s:=r.size.toNat) (by omega) (pow_fit hs hn)
 rw [Int.toNat_of_nonneg (by omega)] at HB HL
 cases hl:r.little with
 | true=>
  refine cbS Tryz.func77 rfl Tryz.call77 Tryz.ntmps77 fun en hsz hks hk0=>?_;refine enS ?_
  refine walkS ?_
  refine aw_condS rfl (fun h=>?_) (fun h=>?_)
  ·(repeat (first|refine walkS ?_|refine cS (HL) ?_))
   (refine rtS Tryz.results77 ?_;exact ⟨_,_,.inl (toZ_own (by simp [lk,St.mem])),by simp,by rw [intB,if_pos hl]⟩)
  ·rw [hl] at h;cases h
 | false=>
  refine cbS Tryz.func77 rfl Tryz.call77 Tryz.ntmps77 fun en hsz hks hk0=>?_;refine enS ?_
  refine walkS ?_
  refine aw_condS rfl (fun h=>?_) (fun h=>?_)
  ·rw [hl] at h;cases h
  ·(repeat (first|refine walkS ?_|refine cS (HB) ?_))
   (refine rtS Tryz.results77 ?_;exact ⟨_,_,.inl (toZ_own (by simp [lk,St.mem])),by simp,by rw [intB,if_neg (by rw [hl];decide)]⟩)
end
end Go.Proofs.YtndnefealooolaaGreatDoor.Eng
namespace Go.Proofs.YtndnefealooolaaGreatDoor.Eng
open Go Go.RowKit

abbrev rzB (x:List UInt8 × Bool):Rz:=.tup [.own 5 1 (x.1.map fun c=>[uD c]),.d (bD x.2)]
def rowD (b:List UInt8) (tl:List Value):List D:=(b.map fun c=>uD c)++tl.map .v
theorem rowD_len (b:List UInt8) (tl:List Value):(rowD b tl).length=b.length+tl.length:=by simp [rowD]
theorem rowA_eq (b:List UInt8) (tl:List Value):((b.map fun c=>[uD c]).flatten.map A.d)++(tl.map fun x=>A.d (.v x))=(rowD b tl).map A.d:=by
 have h:∀ b:List UInt8,(b.map fun c=>[uD c]).flatten.map A.d=(b.map fun c=>uD c).map A.d:=fun b=>by
  induction b with
  | nil=>rfl
  | cons c b ih=>simp only [List.map_cons,List.flatten_cons,List.cons_append,List.nil_append,ih]
 unfold rowD
 rw [List.map_append,h,List.map_map (f:=D.v)]
 rfl
theorem rowA_set {b:List UInt8}{tl:List Value}{i:Nat} (h:i<b.length) (c:UInt8):splice ((rowD b tl).map A.d) [A.d (uD c)] i=(rowD (b.set i c) tl).map A.d:=by
 unfold rowD splice
 rw [List.length_singleton,List.map_append,List.take_append_of_le_length (by simp;omega),List.drop_append_of_le_length (by simp;omega),List.set_eq_take_append_cons_drop,if_pos h]
 simp [List.map_take,List.map_drop]
theorem argsT_d {k z n:Nat}{es:List (List D)}{d:D} (h:n=es.length):argsT k z es [.d d,.arr k z n]=some [.d d,.d (.sl z es)]:=by
 simp [argsT,argT,argOf,frz,h]
theorem u8_nat (c:Nat):IntKind.u8.wrap (c:Int)=((UInt8.ofNat c).toNat:Int):=by
 have h1:IntKind.u8.wrap (c:Int)=(c:Int) % 256:=by
  simp [IntKind.wrap,IntKind.bits,IntKind.signed]
 rw [h1,UInt8.toNat_ofNat']
 omega
theorem inRangeI_c (n a b:Int):AC Tryz.prog 42 [.d (iD n),.d (iD a),.d (iD b)] none (fun r' _=>r'=.d (bD (decide (a≤n) && decide (n≤b)))):=by
 refine cbS Tryz.func42 rfl Tryz.call42 Tryz.ntmps42 fun en hsz hks hk0=>?_;refine enS ?_
 refine walkS ?_
 (refine ow_gd rfl rfl dsS (fun hg K1 hK1=>?_) (fun hg=>?_);((try simp only [hg]);refine evS ?_;refine hK1 _ ?_;clear hK1 K1);rotate_left;(simp only [Bool.not_true,Bool.not_false] at hg;simp only [St.set,hg]);rotate_left)
 ·refine walkS ?_
  (refine rtS Tryz.results42 ?_;exact ⟨_,_,.inl ⟨rfl,rfl⟩,List.nodup_nil,by simp at hg;simp [hg]⟩)
 ·refine walkS ?_
  (refine rtS Tryz.results42 ?_;exact ⟨_,_,.inl ⟨rfl,rfl⟩,List.nodup_nil,by simp at hg;simp<;>omega⟩)
section
variable {b:List UInt8}
theorem cut3 (l:List UInt8) (a h:Nat):(D.sl 1 (((l.map fun c=>[uD c]).drop a).take h))=encB ((l.drop a).take h):=by unfold encB;rw [List.map_take,List.map_drop]
theorem spliceI_c (hb:b.length≤1048576) {a rm:Nat} (h:a+rm≤b.length) {new:List UInt8} (hn:new.length≤16):AC Tryz.prog 73 [.d (encB b),.d (iD a),.d (iD rm),.d (encB new)] none (fun r' _=>r'=rzB (cutB b a rm new,true)):=by
 have e1:decide ((a:Int)<0)=false:=by simp
 have e2:decide ((rm:Int)<0)=false:=by simp
 have e3:decide ((b.length:Int)<(a:Int))=false:=by simp;omega
 have e4:decide ((b.length:Int) - (a:Int)<(rm:Int))=false:=by simp;omega
 have l1:(b.take a).length≤1048576:=by rw [List.length_take];omega
 have l2:(b.drop (a+rm)).length≤1048576:=by rw [List.length_drop];omega
 have t1:((a:Int)).toNat=a:=by omega
 have t2:((a:Int)+(rm:Int)).toNat=a+rm:=by omega
 have t3:((b.length:Int)).toNat=b.length:=by omega
 have s1:D.sl 1 (((b.map fun c=>[uD c]).drop (0:Int).toNat).take (((a:Int)).toNat - (0:Int).toNat))=encB (b.take a):=by
  rw [cut3,t1];rfl
 have s2:D.sl 1 (((b.map fun c=>[uD c]).drop ((a:Int)+(rm:Int)).toNat).take (((b.length:Int)).toNat - ((a:Int)+(rm:Int)).toNat))=encB (b.drop (a+rm)):=by
  rw [cut3,t2,t3,List.take_of_length_le (by simp)]
 refine cbS Tryz.func73 rfl Tryz.call73 Tryz.ntmps73 fun en hsz hks hk0=>?_;refine enS ?_
 (repeat (first|refine ctlS ?_|(refine ol_go ?_ (fun K1 hK1=>?_);exact trS;refine evS ?_;(try simp only [e1,e2,e3,e4]);refine hK1 _ _ ?_;clear hK1 K1)|(refine ow_go ?_ dsS (fun K1 hK1=>?_);exact trS;refine evS ?_;(try simp only [e1,e2,e3,e4]);refine hK1 _ ?_;clear hK1 K1)|refine skipS ?_))
 refine aw_condS rfl (fun h0=>?_) (fun h0=>?_)
 ·(first|exact absurd trivial h0|exact absurd rfl h0|(cases h0;done)|omega|exact absurd h0 (by decide)|(simp at h0;done))
 refine walkS ?_
 refine ow_slice3 (lv:=0) (hv:=(a:Int)) (mv:=(a:Int)) ?_ dsS rfl rfl te22 tk5 rfl rfl rfl (by simp only [List.length_map];omega) ?_;exact trS;rw [s1];simp only [St.set]
 refine walkS ?_
 refine ow_slice3 (lv:=(a:Int)+(rm:Int)) (hv:=(b.length:Int)) (mv:=(b.length:Int)) ?_ dsS rfl rfl te22 tk5 rfl rfl rfl (by simp only [List.length_map];omega) ?_;exact trS;rw [s2];simp only [St.set]
 refine walkS ?_
 (refine rtS Tryz.results73 ?_;exact ⟨_,_,.inl (toZ_tup (toZL_cons (toZ_own (by simp [lk,St.mem]<;>omega)) (toZL_cons toZ_d toZL_nil))),by simp,by rw [rzB];simp [cutB]⟩)
theorem spliceI_n (hb:b.length≤1048576) {a rm:Nat} (h:a+rm≤b.length):AC Tryz.prog 73 [.d (encB b),.d (iD a),.d (iD rm),.d (.v (.slice none 0 0))] none (fun r' _=>r'=rzB (cutB b a rm [],true)):=
 (spliceI_c hb h (new:=[]) (by simp)).w (by simp (decide:=true) only [St.head,wkFr,wkBx,wkB,wkBc,wkAl,wkAlv,wkA,wkO,wkL,wkD_selfT,wkL_d,ltL_dT,sg,keyOf,keyB,keyBc,List.getD_cons_zero,List.getD_cons_succ,encVs_len,lk,St.f,rmv,keysOk,liveKeys,A.lt,A.ltL,List.map_cons,List.map_nil,List.cons_append,List.nil_append,and_true,true_and,and_self,reduceIte,reduceCtorEq,Option.some.injEq,List.length_cons,List.length_nil,List.length_append,Nat.reduceAdd,exists_eq_left',exists_eq_left,natCast0,natCast1,Int.add_sub_cancel,List.flatten_replicate_singleton,List.take_zero,Nat.sub_zero,List.map_replicate,Nat.zero_add,List.append_nil,List.all_nil,List.all_cons,List.map_append,List.length_map,wkL_arrC,arrC_lt,wkD_ownB,wkD_ownB0,wkD_ownV0,wkD_nilB,wkD_ownV,wkD_nilV,wkD_agg,wkD_tup,wkDL_nil,wkDL_cons,encVs_append,encVs_one,encVs_nil,encV_mk,V0,dle_agg,dle_tup,dleL_nil,dleL_cons,dle_nil,dle_nilB,wkD_tupd,wkD_aggd,dle_selfT])
abbrev mutD (x:List UInt8) (n:Nat):Eng.D:=.tup [.iv (fun k=>n≤k) (encB x),bD true]
abbrev mutE (kind i c:Int):Eng.D:=.agg [iD kind,iD i,iD c]
theorem anti_tup {f:Nat→List D} (h:∀ m n,m≤n→∀ (C:CellR) us,RepL C (f n) us→RepL C (f m) us):∀ m n,m≤n→∀ (C:CellR) u,RepD C (.tup (f n)) u→RepD C (.tup (f m)) u:=fun m n hmn C u k=>by
 unfold RepD at k ⊢
 obtain ⟨us,h1,h2⟩:=k
 exact ⟨us,h1,h m n hmn C us h2⟩
theorem anti_mutD (x:List UInt8):∀ m n,m≤n→∀ (C:CellR) u,RepD C (mutD x n) u→RepD C (mutD x m) u:=
 anti_tup (f:=fun n=>[.iv (fun k=>n≤k) (encB x),bD true]) fun m n h C us k=>repL_semi h (fun _ k=>k) k
abbrev repN (x:List UInt8 × Mut × Bool) (n:Nat):Eng.D:=.tup [.iv (fun k=>n≤k) (encB x.1),mutE x.2.1.1 x.2.1.2.1 x.2.1.2.2,bD x.2.2]
theorem anti_repN (x:List UInt8 × Mut × Bool):∀ m n,m≤n→∀ (C:CellR) u,RepD C (repN x n) u→RepD C (repN x m) u:=
 anti_tup (f:=fun n=>[.iv (fun k=>n≤k) (encB x.1),mutE x.2.1.1 x.2.1.2.1 x.2.1.2.2,bD x.2.2]) fun m n h C us k=>repL_semi h (fun _ k=>k) k
end
end Go.Proofs.YtndnefealooolaaGreatDoor.Eng
