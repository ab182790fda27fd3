/-
 Numbers as bytes: both sides.

 Numbers as bytes: the program.
-/
import Derived.Test.YtodkkldopciagaaGreatDoorKLSB
import Derived.Test.YtodkkldopciagaaGreatDoorKP2
import Derived.Test.YtodkkldopciagaaGreatDoorKE30
import Derived.Test.YtodkkldopciagaaGreatDoorKE5
set_option linter.unusedSimpArgs false
set_option linter.unusedVariables false
set_option linter.defProp false
set_option maxRecDepth 100000
set_option maxHeartbeats 4000000
namespace Go.Proofs.YtodkkldopciagaaGreatDoor.Eng
open Go Go.RowKit

theorem beB_cons:∀ (t n:Nat),beB (t+1) n=UInt8.ofNat (n / 256 ^ t % 256)::beB t n
 | 0,n=>by simp [beB]
 | t+1,n=>by
  rw [beB,beB_cons t (n / 256)]
  conv=>rhs;rw [beB]
  rw [List.cons_append,Nat.div_div_eq_div_mul,Nat.pow_succ,Nat.mul_comm]
theorem u8_wrap (n:Nat):IntKind.u8.wrap (n:Int)=((UInt8.ofNat (n % 256)).toNat:Int):=by
 have h1:IntKind.u8.wrap (n:Int)=(n:Int) % 256:=by
  simp [IntKind.wrap,IntKind.bits,IntKind.signed]
 rw [h1,UInt8.toNat_ofNat']
 omega
theorem fdiv_pow {n:Nat}{k:Nat}:((n:Int)).fdiv (2 ^ k)=((n / 2 ^ k:Nat):Int):=by
 rw [Int.fdiv_eq_ediv_of_nonneg _ (Int.le_of_lt (Int.pow_pos (by decide)))]
 simp
section
private def tyF:=ai (ai (ai tg22 tg58) (ai tg60 tg62)) (ai (ai tg3 tg4) (ai tg5 tg9))
theorem powerS_c {s:Int} (h:1≤s∧s≤4):AC Tryz.prog 102 [.d (iD s)] none (fun r' _=>r'=.d (iD (2 ^ (8*s.toNat)))):=by
 have:s=1∨s=2∨s=3∨s=4:=by omega
 rcases this with rfl|rfl|rfl|rfl
 all_goals
  refine cbS Tryz.func102 rfl Tryz.call102 Tryz.ntmps102 fun en hsz hks hk0=>?_;refine enS ?_
  refine walkS ?_
  (refine rtS Tryz.results102 ?_;exact ⟨_,_,.inl ⟨rfl,rfl⟩,List.nodup_nil,congrArg (fun n=>Rz.d (iD n)) (by decide)⟩)
theorem bigS_o {s n:Nat} (hs:1≤s∧s≤4) (hn:n<256 ^ s):AC Tryz.prog 116 [.d (iD (n:Nat)),.d (iD (s:Nat))] none (fun r' _=>r'=.own 5 1 ((beB s n).map fun c=>[uD c])):=by
 have P:=powerS_c (s:=(s:Int)) (by omega)
 rw [Int.toNat_natCast] at P
 have hp:(2:Int) ^ (8*s)=((256 ^ s:Nat):Int):=by rw [Int.pow_mul];simp
 rw [hp] at P
 have hb:(256:Nat) ^ s≤4294967296:=by
  obtain ⟨h1,h2⟩:=hs
  have:s=1∨s=2∨s=3∨s=4:=by omega
  rcases this with rfl|rfl|rfl|rfl<;>decide
 have L1:AC Tryz.prog 53 [.d (iD (s:Nat)),.d (iD 1),.d (iD 4)] none (fun r' _=>r'=.d (bD true)):=l1In_t (by omega)
 have L2:AC Tryz.prog 53 [.d (iD (n:Nat)),.d (iD 0),.d (iD (((256 ^ s:Nat):Int) - 1))] none (fun r' _=>r'=.d (bD true)):=l1In_t (by omega)
 refine cbS Tryz.func116 rfl Tryz.call116 Tryz.ntmps116 fun en hsz hks hk0=>?_;refine enS ?_
 (repeat (first|refine walkS ?_|refine cS (P) ?_|refine cS (L1) ?_|refine cS (L2) ?_))
 refine aw_condS rfl (fun h0=>?_) (fun h0=>?_)
 ·(first|exact absurd trivial h0|exact absurd rfl h0|(cases h0;done)|omega|exact absurd h0 (by decide)|(simp at h0;done))
 refine walkS ?_
 refine aw_loopS [0,4] (fun κ s'=>[(κ,keyOf (s'.f 5))]) (fun κ x=>[(6,.d (iD ((x.1:Nat) - 1))),(5,.own κ 5 1 (x.2.map fun c=>[uD c]))]) [] (fun _ _=>[]) [16] (fun κ x=>[(κ,some (x.2.length,5,1))]) (fun x:Nat × List UInt8=>x.1≤s∧x.2++beB x.1 n=beB s n∧x.2.length+x.1=s) (fun x=>x.1) ((s,[])) hks (fun _=>rfl) ⟨Nat.le_refl _,rfl,by simp⟩ wkS ?_;intro x hx;refine headS ?_
 obtain ⟨m,acc⟩:=x
 simp only at hx ⊢
 obtain ⟨hx1,hx2,hx3⟩:=hx
 refine walkS ?_
 refine aw_condS rfl (fun hk=>?_) (fun hk=>?_)
 ·obtain ⟨m,rfl⟩:∃ k,m=k+1:=⟨m - 1,by omega⟩
  have hbits:IntKind.i64.bits=64:=rfl
  have hsh:((n:Int)).fdiv (2 ^ (min (8*(m:Int)).toNat IntKind.i64.bits))=((n / 256 ^ m:Nat):Int):=by
   rw [show min (8*(m:Int)).toNat IntKind.i64.bits=8*m by omega,fdiv_pow,Nat.pow_mul]
  have hsh':((n:Int)).fdiv (2 ^ (min (8*(((m+1:Nat):Int) - 1)).toNat IntKind.i64.bits))=((n / 256 ^ m:Nat):Int):=by
   rw [show min (8*(((m+1:Nat):Int) - 1)).toNat IntKind.i64.bits=8*m by omega,fdiv_pow,Nat.pow_mul]
  rw [beB_cons] at hx2
  (repeat (first|refine ctlS ?_|(refine ol_go ?_ (fun K1 hK1=>?_);exact trS;refine evS ?_;(try simp only [hsh,hsh',u8_wrap]);refine hK1 _ _ ?_;clear hK1 K1)|(refine ow_go ?_ dsS (fun K1 hK1=>?_);exact trS;refine evS ?_;(try simp only [hsh,hsh',u8_wrap]);refine hK1 _ ?_;clear hK1 K1)|refine skipS ?_))
  refine ⟨(m,acc++[UInt8.ofNat (n / 256 ^ m % 256)]),⟨by simp only;omega,by simpa using hx2,by simp;omega⟩,by simp only;omega,?_⟩
  exact wkS
 ·obtain rfl:m=0:=by omega
  rw [show beB 0 n=[] from rfl,List.append_nil] at hx2
  subst hx2
  refine walkS ?_
  (refine rtS Tryz.results116 ?_;exact ⟨_,_,.inl (toZ_own (by simp [lk,St.mem])),by simp,rfl⟩)
theorem bigS_c {s n:Nat} (hs:1≤s∧s≤4) (hn:n<256 ^ s):AC Tryz.prog 116 [.d (iD (n:Nat)),.d (iD (s:Nat))] none (fun r' _=>r'=.d (encB (beB s n))):=(bigS_o hs hn).ownd
theorem beB_l (s n:Nat):(beB s n).length=s:=beB_len s n
theorem littleS_o {s n:Nat} (hs:1≤s∧s≤4) (hn:n<256 ^ s):AC Tryz.prog 115 [.d (iD (n:Nat)),.d (iD (s:Nat))] none (fun r' _=>r'=.own 5 1 ((beB s n).reverse.map fun c=>[uD c])):=by
 have HB:=bigS_c hs hn
 have hl:=beB_l s n
 generalize beB s n=b at HB hl
 refine cbS Tryz.func115 rfl Tryz.call115 Tryz.ntmps115 fun en hsz hks hk0=>?_;refine enS ?_
 (repeat (first|refine walkS ?_|refine cS (HB) ?_))
 refine aw_loopS [4,5] (fun κ s'=>[(κ,keyOf (s'.f 6))]) (fun κ x=>[(7,.d (iD ((x.1:Nat) - 1))),(6,.own κ 5 1 (x.2.map fun c=>[uD c]))]) [] (fun _ _=>[]) [32] (fun κ x=>[(κ,some (x.2.length,5,1))]) (fun x:Nat × List UInt8=>x.1≤b.length∧x.2=(b.drop x.1).reverse) (fun x=>x.1) ((b.length,[])) hks (fun _=>rfl) ⟨Nat.le_refl _,by simp⟩ wkS ?_;intro x hx;refine headS ?_
 obtain ⟨m,acc⟩:=x
 simp only at hx ⊢
 obtain ⟨hx1,rfl⟩:=hx
 have hr:((b.drop m).reverse).length≤4:=by simp;omega
 refine walkS ?_
 refine aw_condS rfl (fun hk=>?_) (fun hk=>?_)
 ·obtain ⟨m,rfl⟩:∃ k,m=k+1:=⟨m - 1,by omega⟩
  have e1:((m+1:Nat):Int) - 1=(m:Nat):=by omega
  have hm:m<b.length:=by omega
  simp only [e1]
  refine walkS ?_
  refine ⟨(m,(b.drop (m+1)).reverse++[b[m]]),⟨by simp only;omega,by simp only;rw [List.drop_eq_getElem_cons hm,List.reverse_cons]⟩,by simp only;omega,?_⟩
  exact wkS
 ·obtain rfl:m=0:=by omega
  rw [List.drop_zero]
  refine walkS ?_
  (refine rtS Tryz.results115 ?_;exact ⟨_,_,.inl (toZ_own (by simp [lk,St.mem])),by simp,rfl⟩)
theorem pow_fit {r:RuleD} (hs:1≤r.size∧r.size≤4) {n:Nat} (hn:(n:Int)<2 ^ (8*r.size.toNat)):n<256 ^ r.size.toNat:=by
 have h:((2:Int) ^ (8*r.size.toNat))=((256 ^ r.size.toNat:Nat):Int):=by rw [Int.pow_mul];simp
 rw [h] at hn
 omega
theorem l8Int_o {r:RuleD}{n:Nat} (hs:1≤r.size∧r.size≤4) (hn:(n:Int)<2 ^ (8*r.size.toNat)):AC Tryz.prog 96 [.d (encR r),.d (iD (n:Nat))] none (fun r' _=>r'=.own 5 1 ((intB r n).map fun c=>[uD c])):=by
 have HB:=bigS_o (s:=r.size.toNat) (by omega) (pow_fit hs hn)
 have HL:=littleS_o (s:=r.size.toNat) (by omega) (pow_fit hs hn)
 rw [Int.toNat_of_nonneg (by omega)] at HB HL
 cases hl:r.little with
 | true=>
  refine cbS Tryz.func96 rfl Tryz.call96 Tryz.ntmps96 fun en hsz hks hk0=>?_;refine enS ?_
  refine walkS ?_
  refine aw_condS rfl (fun h=>?_) (fun h=>?_)
  ·(repeat (first|refine walkS ?_|refine cS (HL) ?_))
   (refine rtS Tryz.results96 ?_;exact ⟨_,_,.inl (toZ_own (by simp [lk,St.mem])),by simp,by rw [intB,if_pos hl]⟩)
  ·rw [hl] at h;cases h
 | false=>
  refine cbS Tryz.func96 rfl Tryz.call96 Tryz.ntmps96 fun en hsz hks hk0=>?_;refine enS ?_
  refine walkS ?_
  refine aw_condS rfl (fun h=>?_) (fun h=>?_)
  ·rw [hl] at h;cases h
  ·(repeat (first|refine walkS ?_|refine cS (HB) ?_))
   (refine rtS Tryz.results96 ?_;exact ⟨_,_,.inl (toZ_own (by simp [lk,St.mem])),by simp,by rw [intB,if_neg (by rw [hl];decide)]⟩)
end
end Go.Proofs.YtodkkldopciagaaGreatDoor.Eng
namespace Go.Proofs.YtodkkldopciagaaGreatDoor.Eng
open Go Go.RowKit

def beC (s n t:Nat):List D:=List.replicate (s - t) (uD 0)++(beB t n).map uD
theorem splice_at {z x:D}{l:List D}{m:Nat}:splice ((List.replicate (m+1) z++l).map A.d) [A.d x] m=(List.replicate m z++x::l).map A.d:=by
 have e:(List.replicate (m+1) z++l).map A.d=(List.replicate m z).map A.d++(A.d z::l.map A.d):=by rw [List.replicate_succ'];simp
 unfold splice
 rw [e,List.take_left' (by simp),List.drop_append]
 simp
theorem beC_step {s n t:Nat} (h:t<s):splice ((beC s n t).map .d) [A.d (uD (UInt8.ofNat (n / 256 ^ t % 256)))] (s - 1 - t)=(beC s n (t+1)).map .d:=by
 unfold beC
 obtain ⟨m,hm⟩:∃ m,s - t=m+1:=⟨s - t - 1,by omega⟩
 rw [hm,show s - 1 - t=m by omega,splice_at,show s - (t+1)=m by omega,beB_cons,List.map_cons]
theorem beC_len {s n t:Nat} (h:t≤s):(beC s n t).length=s:=by
 unfold beC
 simp [beB_len]
 omega
theorem flat_one (l:List UInt8):(l.map fun c=>[uD c]).flatten=l.map uD:=by
 induction l with
 | nil=>rfl
 | cons c l ih=>simp only [List.map_cons,List.flatten_cons,ih,List.cons_append,List.nil_append]
theorem bigI_c {s n:Nat} (hs:1≤s∧s≤4) (hn:n<256 ^ s):AC Tryz.prog 111 [.d (iD (n:Nat)),.d (iD (s:Nat))] none (fun r' _=>r'=.arr 1 s ((beB s n).map uD)):=by
 have hp:(2:Int) ^ (8*s)=((256 ^ s:Nat):Int):=by rw [Int.pow_mul];simp
 have hb:(256:Nat) ^ s≤4294967296:=by
  obtain ⟨h1,h2⟩:=hs
  have:s=1∨s=2∨s=3∨s=4:=by omega
  rcases this with rfl|rfl|rfl|rfl<;>decide
 have L1:AC Tryz.prog 57 [.d (iD (s:Nat)),.d (iD 1),.d (iD 4)] none (fun r' _=>r'=.d (bD true)):=(inRange_c (s:Int) 1 4).eqv (r1:=.d (bD true)) (by simp;omega)
 have e0:decide ((n:Int)<0)=false:=decide_eq_false (by omega)
 refine cbS Tryz.func111 rfl Tryz.call111 Tryz.ntmps111 fun en hsz hks hk0=>?_;refine enS ?_
 have hbits:IntKind.i64.bits=64:=rfl
 have e2:IntKind.i64.wrap (1*2 ^ min (8*(s:Int)).toNat IntKind.i64.bits)=((256 ^ s:Nat):Int):=by
  rw [show min (8*(s:Int)).toNat IntKind.i64.bits=8*s by omega,Int.one_mul,hp,wrap64 (by omega) (by omega)]
 have h0:List.map A.d (List.replicate s [D.v (Value.int IntKind.u8 0)]).flatten=(beC s n 0).map .d:=by
  unfold beC
  rw [List.flatten_replicate_singleton]
  simp [beB,uD]
 (repeat (first|refine ctlS ?_|(refine ol_go ?_ (fun K1 hK1=>?_);exact trS;refine evS ?_;(try simp only [e0]);refine hK1 _ _ ?_;clear hK1 K1)|(refine ow_go ?_ dsS (fun K1 hK1=>?_);exact trS;refine evS ?_;(try simp only [e0]);refine hK1 _ ?_;clear hK1 K1)|refine skipS ?_|(refine ow_make ?_ dsS rfl rfl ?_ te22 tr5 tz5 ?_;exact trS;omega;refine stS0 ?_)|refine cS (L1) ?_))
 refine aw_condS rfl (fun h1=>?_) (fun h1=>?_)
 ·rw [e2] at h1;omega
 (repeat (first|refine walkS ?_|(refine ow_make ?_ dsS rfl rfl ?_ te22 tr5 tz5 ?_;exact trS;omega;refine stS0 ?_)))
 rw [h0]
 refine aw_loopS [4,5] (fun _ _=>[]) (fun _ y=>[(0,.d (iD y.2.1)),(6,.d (iD y.2.2))]) [32] (fun _ y=>[(32,some ((beC s n y.1).map .d))]) [] (fun _ _=>[]) (fun y:Nat × Int × Int=>y.1≤s∧y.2.1=((n / 256 ^ y.1:Nat):Int)∧y.2.2=(s:Int) - 1 - y.1) (fun y=>s - y.1) ((0,(n:Int),(s:Int) - 1)) hks (fun _=>rfl) (⟨Nat.zero_le _,by simp,by simp⟩) wkS ?_;intro x hx;refine headS ?_
 obtain ⟨x,v,i⟩:=x
 simp only at hx ⊢
 obtain ⟨hx,rfl,rfl⟩:=hx
 (repeat (first|refine walkS ?_|(refine ow_make ?_ dsS rfl rfl ?_ te22 tr5 tz5 ?_;exact trS;omega;refine stS0 ?_)))
 refine aw_condS rfl (fun hk=>?_) (fun hk=>?_)
 ·have hx':x<s:=by omega
  have hB:=beC_step (n:=n) hx'
  have hA:=beC_len (n:=n) hx
  have e3:((s:Int) - 1 - (x:Nat)).toNat*1=s - 1 - x:=by omega
  have e4:(((n / 256 ^ x:Nat):Int)).fdiv (2 ^ min (8:Int).toNat IntKind.i64.bits)=((n / 256 ^ (x+1):Nat):Int):=by
   rw [show min (8:Int).toNat IntKind.i64.bits=8 by rfl,fdiv_pow,Nat.div_div_eq_div_mul,Nat.pow_succ 256 x]
  have e5:(((n / 256 ^ x:Nat):Int)).fdiv (2 ^ min 8 IntKind.i64.bits)=((n / 256 ^ (x+1):Nat):Int):=e4
  (repeat (first|refine ctlS ?_|(refine ol_go ?_ (fun K1 hK1=>?_);exact trS;refine evS ?_;(try simp only [e3,e4,e5,u8_wrap]);(try rw [hB]);refine hK1 _ _ ?_;clear hK1 K1)|(refine ow_go ?_ dsS (fun K1 hK1=>?_);exact trS;refine evS ?_;(try simp only [e3,e4,e5,u8_wrap]);(try rw [hB]);refine hK1 _ ?_;clear hK1 K1)|refine skipS ?_|(refine ow_make ?_ dsS rfl rfl ?_ te22 tr5 tz5 ?_;exact trS;omega;refine stS0 ?_)))
  refine ⟨(x+1,((n / 256 ^ (x+1):Nat):Int),(s:Int) - 1 - (x+1:Nat)),⟨by simp only;omega,rfl,rfl⟩,by simp only;omega,?_⟩
  rw [show (s:Int) - 1 - x - 1=(s:Int) - 1 - (x+1:Nat) by omega]
  exact wkS
 ·have hxs:x=s:=by omega
  subst hxs
  (repeat (first|refine walkS ?_|(refine ow_make ?_ dsS rfl rfl ?_ te22 tr5 tz5 ?_;exact trS;omega;refine stS0 ?_)))
  (refine rtS Tryz.results111 ?_;exact ⟨_,_,.inl (toZ_arr (ds:=beC x n x) rfl),by simp,by unfold beC;simp⟩)
theorem bigI_d {s n:Nat} (hs:1≤s∧s≤4) (hn:n<256 ^ s):AC Tryz.prog 111 [.d (iD (n:Nat)),.d (iD (s:Nat))] none (fun r' _=>r'=.d (encB (beB s n))):=
 (bigI_c hs hn).frz (es:=(beB s n).map fun c=>[uD c]) (flat_one _) (fun e he=>by obtain ⟨c,_,rfl⟩:=List.mem_map.1 he;rfl) (by simp [beB_len])
def swp (l:List UInt8) (x:Nat):List UInt8:=(l.reverse.take x)++(l.drop x).take (l.length - 2*x)++l.reverse.drop (l.length - x)
theorem swp_0 (l:List UInt8):swp l 0=l:=by simp [swp]
theorem swp_end {l:List UInt8}{x:Nat} (h1:2*x≤l.length) (h2:l.length≤2*x+1) (h4:l.length≤4):swp l x=l.reverse:=by
 match l,x with
 | [],0=>rfl
 | [_],0=>rfl
 | [_,_],1=>rfl
 | [_,_,_],1=>rfl
 | [_,_,_,_],2=>rfl
 | [],x+1=>simp at h1
 | [_],x+1=>simp at h1;omega
 | [_,_],0=>simp at h2
 | [_,_],x+2=>simp at h1;omega
 | [_,_,_],0=>simp at h2
 | [_,_,_],x+2=>simp at h1;omega
 | [_,_,_,_],0=>simp at h2
 | [_,_,_,_],1=>simp at h2
 | [_,_,_,_],x+3=>simp at h1;omega
 | _::_::_::_::_::_,_=>simp at h4
theorem littleI_c {s n:Nat} (hs:1≤s∧s≤4) (hn:n<256 ^ s):AC Tryz.prog 110 [.d (iD (n:Nat)),.d (iD (s:Nat))] none (fun r' _=>r'=.arr 1 s ((beB s n).reverse.map uD)):=by
 have HB:=bigI_c hs hn
 have hl:=beB_l s n
 generalize beB s n=b at HB hl
 have hc:s=1∨s=2∨s=3∨s=4:=by omega
 refine cbS Tryz.func110 rfl Tryz.call110 Tryz.ntmps110 fun en hsz hks hk0=>?_;refine enS ?_
 (repeat (first|refine walkS ?_|refine cS (HB) ?_))
 rw [show List.map A.d (List.map uD b)=List.map A.d (List.map uD (swp b 0)) by rw [swp_0]]
 refine aw_loopS [4,5] (fun _ _=>[]) (fun _ y=>[(6,.d (iD y.2.1)),(7,.d (iD y.2.2))]) [16] (fun _ y=>[(16,some (((swp b y.1).map uD).map .d))]) [] (fun _ _=>[]) (fun y:Nat × Int × Int=>2*y.1≤s∧y.2.1=y.1∧y.2.2=(s:Int) - 1 - y.1) (fun y=>s - y.1) ((0,(0:Int),(s:Int) - 1)) hks (fun _=>rfl) (⟨Nat.zero_le _,rfl,by simp⟩) wkS ?_;intro x hx;refine headS ?_
 obtain ⟨x,i,j⟩:=x
 simp only at hx ⊢
 obtain ⟨hx,rfl,rfl⟩:=hx
 by_cases hlt:2*x+1<s
 ·have hcs:(s=2∧x=0)∨(s=3∧x=0)∨(s=4∧x=0)∨(s=4∧x=1):=by omega
  rcases hcs with ⟨rfl,rfl⟩|⟨rfl,rfl⟩|⟨rfl,rfl⟩|⟨rfl,rfl⟩
  ·obtain ⟨p,q,rfl⟩:∃ p q,b=[p,q]:=by match b,hl with|[p,q],_=>exact ⟨p,q,rfl⟩
   rw [show swp [p,q] 0=[p,q] from rfl,show ((2:Nat):Int) - 1 - ((0:Nat):Int)=1 by decide,show ((0:Nat):Int)=0 by decide]
   simp only [List.map_cons,List.map_nil]
   refine walkS ?_
   refine aw_condS rfl (fun hk=>?_) (fun hk=>?_)
   ·refine walkS ?_
    refine ⟨(1,((0:Int)+1),((1:Int) - 1)),⟨by decide,by decide,by decide⟩,by decide,?_⟩
    rw [show swp [p,q] 1=[q,p] from rfl]
    exact wkS
   ·cases hk
  ·obtain ⟨p,q,r,rfl⟩:∃ p q r,b=[p,q,r]:=by match b,hl with|[p,q,r],_=>exact ⟨p,q,r,rfl⟩
   rw [show swp [p,q,r] 0=[p,q,r] from rfl,show ((3:Nat):Int) - 1 - ((0:Nat):Int)=2 by decide,show ((0:Nat):Int)=0 by decide]
   simp only [List.map_cons,List.map_nil]
   refine walkS ?_
   refine aw_condS rfl (fun hk=>?_) (fun hk=>?_)
   ·refine walkS ?_
    refine ⟨(1,((0:Int)+1),((2:Int) - 1)),⟨by decide,by decide,by decide⟩,by decide,?_⟩
    rw [show swp [p,q,r] 1=[r,q,p] from rfl]
    exact wkS
   ·cases hk
  ·obtain ⟨p,q,r,t,rfl⟩:∃ p q r t,b=[p,q,r,t]:=by match b,hl with|[p,q,r,t],_=>exact ⟨p,q,r,t,rfl⟩
   rw [show swp [p,q,r,t] 0=[p,q,r,t] from rfl,show ((4:Nat):Int) - 1 - ((0:Nat):Int)=3 by decide,show ((0:Nat):Int)=0 by decide]
   simp only [List.map_cons,List.map_nil]
   refine walkS ?_
   refine aw_condS rfl (fun hk=>?_) (fun hk=>?_)
   ·refine walkS ?_
    refine ⟨(1,((0:Int)+1),((3:Int) - 1)),⟨by decide,by decide,by decide⟩,by decide,?_⟩
    rw [show swp [p,q,r,t] 1=[t,q,r,p] from rfl]
    exact wkS
   ·cases hk
  ·obtain ⟨p,q,r,t,rfl⟩:∃ p q r t,b=[p,q,r,t]:=by match b,hl with|[p,q,r,t],_=>exact ⟨p,q,r,t,rfl⟩
   rw [show swp [p,q,r,t] 1=[t,q,r,p] from rfl,show ((4:Nat):Int) - 1 - ((1:Nat):Int)=2 by decide,show ((1:Nat):Int)=1 by decide]
   simp only [List.map_cons,List.map_nil]
   refine walkS ?_
   refine aw_condS rfl (fun hk=>?_) (fun hk=>?_)
   ·refine walkS ?_
    refine ⟨(2,((1:Int)+1),((2:Int) - 1)),⟨by decide,by decide,by decide⟩,by decide,?_⟩
    rw [show swp [p,q,r,t] 2=[t,r,q,p] from rfl]
    exact wkS
   ·cases hk
 ·refine walkS ?_
  refine aw_condS rfl (fun hk=>?_) (fun hk=>?_)
  ·omega
  ·rw [swp_end (l:=b) (x:=x) (by omega) (by omega) (by omega)]
   refine walkS ?_
   (refine rtS Tryz.results110 ?_;exact ⟨_,_,.inl (toZ_arr (ds:=b.reverse.map uD) rfl),by simp,rfl⟩)
theorem littleI_d {s n:Nat} (hs:1≤s∧s≤4) (hn:n<256 ^ s):AC Tryz.prog 110 [.d (iD (n:Nat)),.d (iD (s:Nat))] none (fun r' _=>r'=.d (encB (beB s n).reverse)):=
 (littleI_c hs hn).frz (es:=(beB s n).reverse.map fun c=>[uD c]) (flat_one _) (fun e he=>by obtain ⟨c,_,rfl⟩:=List.mem_map.1 he;rfl) (by simp [beB_len])
theorem encInt_c {r:RuleD}{n:Nat} (hs:1≤r.size∧r.size≤4) (hn:(n:Int)<2 ^ (8*r.size.toNat)):AC Tryz.prog 81 [.d (encR r),.d (iD (n:Nat))] none (fun r' _=>r'=.d (encB (intB r n))):=by
 have HB:=bigI_d (s:=r.size.toNat) (by omega) (pow_fit hs hn)
 have HL:=littleI_d (s:=r.size.toNat) (by omega) (pow_fit hs hn)
 rw [Int.toNat_of_nonneg (by omega)] at HB HL
 cases hl:r.little with
 | true=>
  refine cbS Tryz.func81 rfl Tryz.call81 Tryz.ntmps81 fun en hsz hks hk0=>?_;refine enS ?_
  refine walkS ?_
  refine aw_condS rfl (fun h=>?_) (fun h=>?_)
  ·(repeat (first|refine walkS ?_|refine cS (HL) ?_))
   (refine rtS Tryz.results81 ?_;exact ⟨_,_,.inl ⟨rfl,rfl⟩,List.nodup_nil,by rw [intB,if_pos hl]⟩)
  ·rw [hl] at h;cases h
 | false=>
  refine cbS Tryz.func81 rfl Tryz.call81 Tryz.ntmps81 fun en hsz hks hk0=>?_;refine enS ?_
  refine walkS ?_
  refine aw_condS rfl (fun h=>?_) (fun h=>?_)
  ·rw [hl] at h;cases h
  ·(repeat (first|refine walkS ?_|refine cS (HB) ?_))
   (refine rtS Tryz.results81 ?_;exact ⟨_,_,.inl ⟨rfl,rfl⟩,List.nodup_nil,by rw [intB,if_neg (by rw [hl];decide)]⟩)
end Go.Proofs.YtodkkldopciagaaGreatDoor.Eng
