/-
 What the laws write over: rows of texts, rules, descriptions.
-/
import Derived.Test.YtaammoodcgfhpaaDoorKM13
import Derived.Test.YtaammoodcgfhpaaDoorKL
set_option linter.unusedSimpArgs false
set_option linter.unusedVariables false
set_option linter.defProp false
set_option maxRecDepth 100000
set_option maxHeartbeats 4000000
namespace Go.Proofs.YtaammoodcgfhpaaDoor.Eng
open Go Go.RowKit

theorem convV_own1 (P:Program) (s d:TypeId) (k:Nat) (e:TypeId) (n:Int) (K:A→Prop):convV P s d (.own k e 1 [[.v (.int .u8 n)]]) K=(P.underlying d=some .string∧bytesT P s=true∧K (.d (sD ⟨#[UInt8.ofNat n.toNat]⟩))):=by
 rfl

def dig (n:Nat):ByteArray:={ data:=#[UInt8.ofNat (IntKind.u8.wrap (IntKind.i64.wrap (48+(n:Int).tmod 10))).toNat] }
def digs (n:Nat) (out:ByteArray):ByteArray:=if h:n=0 then out else digs (n / 10) (dig n++out)
termination_by n
decreasing_by omega
theorem digs_0 (out:ByteArray):digs 0 out=out:=by rw [digs,dif_pos rfl]
theorem digs_step {n:Nat} (h:n≠0) {out:ByteArray}:digs n out=digs (n / 10) (dig n++out):=by rw [digs,dif_neg h]
def mtext (n:Nat):ByteArray:=if n=0 then { data:=#[109,48] } else { data:=#[109] }++digs n ByteArray.empty
private def tyF:=ai (ai (ai tg54 tg26) (ai tg28 (ai tg39 tg30))) (ai (ai tg61 (ai tg3 tg4)) (ai tg5 (ai tg9 convV_own1)))
theorem markText_c {n:Nat} (hn:n≤4611686018427387904):AC Tryd.prog 25 [.d (iD (n:Nat))] none (fun r' _=>r'=.d (sD (mtext n))):=by
 refine cbS Tryd.func25 rfl Tryd.call25 Tryd.ntmps25 fun en hsz hks hk0=>?_;refine enS ?_
 refine walkS ?_
 refine aw_condS rfl (fun h=>?_) (fun h=>?_)
 ·refine walkS ?_
  (refine rtS Tryd.results25 ?_;exact ⟨_,_,.inl ⟨rfl,rfl⟩,List.nodup_nil,by rw [mtext,if_pos (by omega)]⟩)
 ·refine walkS ?_
  refine aw_loopS [2] (fun _ _=>[]) (fun _ y=>[(0,.d (iD (y.1:Nat))),(3,.d (sD y.2))]) [] (fun _ _=>[]) [] (fun _ _=>[]) (fun y:Nat × ByteArray=>y.2.size+y.1≤n∧digs y.1 y.2=digs n ByteArray.empty) (fun y=>y.1) ((n,ByteArray.empty)) hks (fun _=>rfl) (⟨by simp,rfl⟩) wkS ?_;intro x hx;refine headS ?_
  obtain ⟨kk,out⟩:=x
  obtain ⟨hs,hdg⟩:out.size+kk≤n∧digs kk out=digs n ByteArray.empty:=hx
  have hm:ByteArray.size { data:=#[109] }=1:=rfl
  refine walkS ?_
  refine aw_condS rfl (fun hc=>?_) (fun hc=>?_)
  ·have hm1:∀ c:UInt8,ByteArray.size { data:=#[c] }=1:=fun _=>rfl
   have hmm:=hm1 (UInt8.ofNat (IntKind.u8.wrap (IntKind.i64.wrap (48+(kk:Int).tmod 10))).toNat)
   refine walkS ?_
   refine ⟨(kk / 10,{ data:=#[UInt8.ofNat (IntKind.u8.wrap (IntKind.i64.wrap (48+(kk:Int).tmod 10))).toNat] }++out),⟨?_,(digs_step (by omega)).symm.trans hdg⟩,by show kk / 10<kk;omega,?_⟩
   ·show ByteArray.size _+kk / 10≤n
    rw [ByteArray.size_append,hmm]
    omega
   ·have hq0:(kk:Int).tdiv 10=((kk / 10:Nat):Int):=by rw [Int.tdiv_eq_ediv_of_nonneg (by omega)];omega
    rw [hq0,wrap64 (by omega) (by omega)]
    exact wkS
  ·refine walkS ?_
   obtain rfl:kk=0:=by omega
   (refine rtS Tryd.results25 ?_;exact ⟨_,_,.inl ⟨rfl,rfl⟩,List.nodup_nil,(by rw [mtext,if_neg (by omega),←hdg,digs_0])⟩)

theorem row_at {C:CellR}{α:Type}{f:α→Value}{l:List α}{b o:Nat} (h:∀ j (hj:j<l.length),C b (o+j) (f l[j])) {j:Nat} (hj:j<l.length):C b (o+j*1) (f l[j]):=by rw [Nat.mul_one];exact h j hj
theorem markS_ck {l:List ByteArray}{k:Nat} (hk:k+l.length≤4611686018427387904):ACK Tryd.prog 11 (encS l) (k:Nat) ((k+l.length:Nat):Int):=fun C u hr=>by
 obtain ⟨a,cap,rfl,hm,_,h⟩:=row_open (f:=fun c:ByteArray=>Value.string c) hr
 unfold maxLen at hm
 refine calls_bodyM Tryd.func11 rfl Tryd.call11 Tryd.ntmps11 (by decide) fun en hsz hks hZ hA hX=>?_;refine enS ?_
 (repeat (first|refine walkS ?_|(refine ow_xlen ?_ dsS rfl rfl (by first|exact te26) ?_;exact trS;simp only [St.set,Int.toNat_natCast,List.map_cons,List.map_nil])|(refine ow_xidx ?_ dsS rfl rfl rfl (by first|exact te26) (by first|exact tk3|exact tk9|exact tk26) (by omega) (by omega) ?_;exact trS;simp only [St.set,Int.toNat_natCast,List.map_cons,List.map_nil])))
 refine aw_loopS [0,4] (fun _ _=>[]) (fun _ j=>[(1,.d (iD ((k+j:Nat):Int))),(5,.d (iD (j:Nat)))]) [] (fun _ _=>[]) [] (fun _ _=>[]) (fun j=>j≤l.length) (fun j=>l.length - j) (0) hks (fun _=>rfl) (Nat.zero_le _) wkS ?_;intro x hx;refine headS ?_
 (repeat (first|refine walkS ?_|(refine ow_xlen ?_ dsS rfl rfl (by first|exact te26) ?_;exact trS;simp only [St.set,Int.toNat_natCast,List.map_cons,List.map_nil])|(refine ow_xidx ?_ dsS rfl rfl rfl (by first|exact te26) (by first|exact tk3|exact tk9|exact tk26) (by omega) (by omega) ?_;exact trS;simp only [St.set,Int.toNat_natCast,List.map_cons,List.map_nil])))
 refine aw_condS rfl (fun hc=>?_) (fun hc=>?_)
 ·rcases h with rfl|⟨b,o,rfl,h⟩
  ·simp at hc
   omega
  ·have hcell:=row_at h (j:=x) (by omega)
   (repeat (first|refine walkS ?_|(refine callPre ?_;(first|refine callN_funS rfl (markText_c (n:=k+x) (by omega)) ?_))|(refine callPreL ?_;(first|refine callL_funS rfl (markText_c (n:=k+x) (by omega)) ?_))|(refine ow_xlen ?_ dsS rfl rfl (by first|exact te26) ?_;exact trS;simp only [St.set,Int.toNat_natCast,List.map_cons,List.map_nil])|(refine ow_xidx ?_ dsS rfl rfl rfl (by first|exact te26) (by first|exact tk3|exact tk9|exact tk26) (by omega) (by omega) ?_;exact trS;simp only [St.set,Int.toNat_natCast,List.map_cons,List.map_nil])|(refine ow_xload ?_ dsS rfl rfl (by first|exact tk3|exact tk9|exact tk26) hA (by first|exact hcell) rfl ?_;exact trS;simp only [St.set,Int.toNat_natCast,List.map_cons,List.map_nil])|(refine ow_xstore ?_ rfl rfl rfl rfl (by first|exact tk3|exact tk9|exact tk26) rfl hZ hA hX (by first|exact hcell) rfl ?_;exact trS)))
   refine ⟨x+1,by omega,by omega,?_⟩
   exact wkS
 ·obtain rfl:x=l.length:=by have:x≤l.length:=hx;omega
  (repeat (first|refine walkS ?_|(refine ow_xlen ?_ dsS rfl rfl (by first|exact te26) ?_;exact trS;simp only [St.set,Int.toNat_natCast,List.map_cons,List.map_nil])|(refine ow_xidx ?_ dsS rfl rfl rfl (by first|exact te26) (by first|exact tk3|exact tk9|exact tk26) (by omega) (by omega) ?_;exact trS;simp only [St.set,Int.toNat_natCast,List.map_cons,List.map_nil])))
  (refine rtS Tryd.results11 ?_;exact ⟨_,_,.inl ⟨rfl,rfl⟩,List.nodup_nil,rfl⟩)

theorem markS_cki {l:List ByteArray}{k:Int} (h0:0≤k) (hk:k+l.length≤4611686018427387904):ACK Tryd.prog 11 (encS l) k (k+l.length):=by
 obtain ⟨n,rfl⟩:=Int.eq_ofNat_of_zero_le h0
 exact markS_ck (k:=n) (by omega)

def cntR (r:RuleD):Nat:=4+r.bytes.length+r.names.length+r.tags.length+r.kids.length
def cntRs:List RuleD→Nat
 | []=>0
 | r::D=>cntR r+cntRs D
theorem cntRs_append (D:List RuleD) (r:RuleD):cntRs (D++[r])=cntRs D+cntR r:=by
 induction D with
 | nil=>simp [cntRs]
 | cons x D ih=>simp only [List.cons_append,cntRs,ih];omega
theorem cntRs_take {D:List RuleD}{j:Nat} (h:j<D.length):cntRs (D.take (j+1))=cntRs (D.take j)+cntR (D[j]'h):=by
 rw [List.take_succ_eq_append_getElem h,cntRs_append]
theorem cntRs_le {D:List RuleD} (j:Nat):cntRs (D.take j)≤cntRs D:=by
 induction D generalizing j with
 | nil=>simp
 | cons r D ih=>
  cases j with
  | zero=>simp [cntRs]
  | succ j=>simp only [List.take_succ_cons,cntRs];have:=ih j;omega
theorem rules_open {C:CellR}{D:List RuleD}{u:Value} (h:RepD C (encDs D) u):∃ a cap,u=.slice a D.length cap∧D.length≤maxLen∧(D=[]∨∃ b o,a=some ⟨b,o,none⟩∧∀ j (hj:j<D.length),
  C b (o+j*8+0) (.string D[j].name)∧C b (o+j*8+1) (.int .i64 D[j].kind)∧C b (o+j*8+2) (.int .i64 D[j].size)∧C b (o+j*8+3) (.bool D[j].little)∧
  (∃ a n c,C b (o+j*8+4) (.slice a n c)∧RepD C (encB D[j].bytes) (.slice a n c))∧(∃ a n c,C b (o+j*8+5) (.slice a n c)∧RepD C (encS D[j].names) (.slice a n c))∧
  (∃ a n c,C b (o+j*8+6) (.slice a n c)∧RepD C (encI D[j].tags) (.slice a n c))∧(∃ a n c,C b (o+j*8+7) (.slice a n c)∧RepD C (encI D[j].kids) (.slice a n c))):=by
 unfold encDs RepD at h
 obtain ⟨a,cap,h1,h2,h3,h4⟩:=h
 simp only [List.length_map] at h1 h2
 refine ⟨a,cap,h1,by omega,h4.imp (fun h=>by simpa using h) fun ⟨b,o,ha,he⟩=>⟨b,o,ha,fun j hj=>?_⟩⟩
 obtain ⟨_,hc⟩:=he.get j (encRc D[j]) (by simp [hj])
 have hv:∀ (i:Nat) (v:Value),(encRc D[j])[i]?=some (.v v)→C b (o+j*8+i) v:=fun i v hi=>by
  obtain ⟨u,hu,hr⟩:=hc.get i _ hi
  rw [repD_v] at hr
  subst hr
  exact hu
 have hs:∀ (i:Nat) (z:Nat) es,(encRc D[j])[i]?=some (.sl z es)→∃ a n c,C b (o+j*8+i) (.slice a n c)∧RepD C (.sl z es) (.slice a n c):=fun i z es hi=>by
  obtain ⟨u,hu,hr⟩:=hc.get i _ hi
  have hr':=hr
  unfold RepD at hr
  obtain ⟨a,cap,rfl,_⟩:=hr
  exact ⟨_,_,_,hu,hr'⟩
 exact ⟨hv 0 _ rfl,hv 1 _ rfl,hv 2 _ rfl,hv 3 _ rfl,hs 4 _ _ rfl,hs 5 _ _ rfl,hs 6 _ _ rfl,hs 7 _ _ rfl⟩

theorem markRs_ck {D:List RuleD}{k:Nat} (hk:k+cntRs D≤4611686018427387904):ACK Tryd.prog 24 (encDs D) (k:Nat) ((k+cntRs D:Nat):Int):=fun C u hr=>by
 obtain ⟨a,cap,rfl,hm,h⟩:=rules_open hr
 unfold maxLen at hm
 refine calls_bodyM Tryd.func24 rfl Tryd.call24 Tryd.ntmps24 (by decide) fun en hsz hks hZ hA hX=>?_;refine enS ?_
 (repeat (first|refine walkS ?_|(refine ow_xlen ?_ dsS rfl rfl (by first|exact te26|exact te28|exact te39|exact te54) ?_;exact trS;simp only [St.set,Int.toNat_natCast,List.map_cons,List.map_nil])|(refine ow_xidx ?_ dsS rfl rfl rfl (by first|exact te26|exact te28|exact te39|exact te54) (by first|exact tk3|exact tk4|exact tk5|exact tk9|exact tk26|exact tk28|exact tk39|exact tk54|exact tk61) (by omega) (by omega) ?_;exact trS;simp only [St.set,Int.toNat_natCast,List.map_cons,List.map_nil])|(refine ow_xfld ?_ dsS rfl rfl (by first|exact tf61_0|exact tf61_1|exact tf61_2|exact tf61_3|exact tf61_4|exact tf61_5|exact tf61_6|exact tf61_7) (by first|exact tk3|exact tk4|exact tk5|exact tk9|exact tk26|exact tk28|exact tk39|exact tk54|exact tk61) (by decide) ?_;exact trS;simp only [St.set,Int.toNat_natCast,List.map_cons,List.map_nil])))
 refine aw_loopS [0,4] (fun _ _=>[]) (fun _ j=>[(1,.d (iD ((k+cntRs (D.take j):Nat):Int))),(5,.d (iD (j:Nat)))]) [] (fun _ _=>[]) [] (fun _ _=>[]) (fun j=>j≤D.length) (fun j=>D.length - j) (0) hks (fun _=>rfl) (Nat.zero_le _) wkS ?_;intro x hx;refine headS ?_
 (repeat (first|refine walkS ?_|(refine ow_xlen ?_ dsS rfl rfl (by first|exact te26|exact te28|exact te39|exact te54) ?_;exact trS;simp only [St.set,Int.toNat_natCast,List.map_cons,List.map_nil])|(refine ow_xidx ?_ dsS rfl rfl rfl (by first|exact te26|exact te28|exact te39|exact te54) (by first|exact tk3|exact tk4|exact tk5|exact tk9|exact tk26|exact tk28|exact tk39|exact tk54|exact tk61) (by omega) (by omega) ?_;exact trS;simp only [St.set,Int.toNat_natCast,List.map_cons,List.map_nil])|(refine ow_xfld ?_ dsS rfl rfl (by first|exact tf61_0|exact tf61_1|exact tf61_2|exact tf61_3|exact tf61_4|exact tf61_5|exact tf61_6|exact tf61_7) (by first|exact tk3|exact tk4|exact tk5|exact tk9|exact tk26|exact tk28|exact tk39|exact tk54|exact tk61) (by decide) ?_;exact trS;simp only [St.set,Int.toNat_natCast,List.map_cons,List.map_nil])))
 refine aw_condS rfl (fun hc=>?_) (fun hc=>?_)
 ·rcases h with rfl|⟨b,o,rfl,h⟩
  ·simp at hc
   omega
  ·have hx':x<D.length:=by omega
   obtain ⟨c0,c1,c2,c3,⟨a4,n4,p4,c4,r4⟩,⟨a5,n5,p5,c5,r5⟩,⟨a6,n6,p6,c6,r6⟩,⟨a7,n7,p7,c7,r7⟩⟩:=h x hx'
   have ht:=cntRs_take hx'
   have hle:=cntRs_le (D:=D) (x+1)
   have hcr:cntR D[x]=4+D[x].bytes.length+D[x].names.length+D[x].tags.length+D[x].kids.length:=rfl
   generalize hK:k+cntRs (D.take x)=K
   have k4:=markB_ck (k:=(K:Int)+1+1+1+1) (l:=D[x].bytes) (by omega) (by omega) C _ r4
   have k5:=markS_cki (k:=(K:Int)+1+1+1+1+D[x].bytes.length) (l:=D[x].names) (by omega) (by omega) C _ r5
   have k6:=markI_ck (k:=(K:Int)+1+1+1+1+D[x].bytes.length+D[x].names.length) (l:=D[x].tags) (by omega) (by omega) C _ r6
   have k7:=markI_ck (k:=(K:Int)+1+1+1+1+D[x].bytes.length+D[x].names.length+D[x].tags.length) (l:=D[x].kids) (by omega) (by omega) C _ r7
   have hfin:(K:Int)+1+1+1+1+D[x].bytes.length+D[x].names.length+D[x].tags.length+D[x].kids.length=((k+cntRs (D.take (x+1)):Nat):Int):=by omega
   (repeat (first|refine walkS ?_|(refine callPre ?_;(first|refine callN_funS rfl (markText_c (n:=K) (by omega)) ?_))|(refine callPreL ?_;(first|refine callL_funS rfl (markText_c (n:=K) (by omega)) ?_))|(refine ow_xlen ?_ dsS rfl rfl (by first|exact te26|exact te28|exact te39|exact te54) ?_;exact trS;simp only [St.set,Int.toNat_natCast,List.map_cons,List.map_nil])|(refine ow_xidx ?_ dsS rfl rfl rfl (by first|exact te26|exact te28|exact te39|exact te54) (by first|exact tk3|exact tk4|exact tk5|exact tk9|exact tk26|exact tk28|exact tk39|exact tk54|exact tk61) (by omega) (by omega) ?_;exact trS;simp only [St.set,Int.toNat_natCast,List.map_cons,List.map_nil])|(refine ow_xfld ?_ dsS rfl rfl (by first|exact tf61_0|exact tf61_1|exact tf61_2|exact tf61_3|exact tf61_4|exact tf61_5|exact tf61_6|exact tf61_7) (by first|exact tk3|exact tk4|exact tk5|exact tk9|exact tk26|exact tk28|exact tk39|exact tk54|exact tk61) (by decide) ?_;exact trS;simp only [St.set,Int.toNat_natCast,List.map_cons,List.map_nil])|(refine ow_xload ?_ dsS rfl rfl (by first|exact tk3|exact tk4|exact tk5|exact tk9|exact tk26|exact tk28|exact tk39|exact tk54|exact tk61) hA (by first|exact c0|exact c1|exact c2|exact c3|exact c4|exact c5|exact c6|exact c7) rfl ?_;exact trS;simp only [St.set,Int.toNat_natCast,List.map_cons,List.map_nil])|(refine ow_xstore ?_ rfl rfl rfl rfl (by first|exact tk3|exact tk4|exact tk5|exact tk9|exact tk26|exact tk28|exact tk39|exact tk54|exact tk61) rfl hZ hA hX (by first|exact c0|exact c1|exact c2|exact c3|exact c4|exact c5|exact c6|exact c7) rfl ?_;exact trS)|(refine ow_xcall ?_ dsS rfl rfl rfl (k4) hZ hA hX ?_;exact trS;simp only [St.set,Int.toNat_natCast,List.map_cons,List.map_nil])|(refine ow_xcall ?_ dsS rfl rfl rfl (k5) hZ hA hX ?_;exact trS;simp only [St.set,Int.toNat_natCast,List.map_cons,List.map_nil])|(refine ow_xcall ?_ dsS rfl rfl rfl (k6) hZ hA hX ?_;exact trS;simp only [St.set,Int.toNat_natCast,List.map_cons,List.map_nil])|(refine ow_xcall ?_ dsS rfl rfl rfl (k7) hZ hA hX ?_;exact trS;simp only [St.set,Int.toNat_natCast,List.map_cons,List.map_nil])))
   rw [hfin]
   refine ⟨x+1,by omega,by omega,?_⟩
   exact wkS
 ·obtain rfl:x=D.length:=by have:x≤D.length:=hx;omega
  (repeat (first|refine walkS ?_|(refine ow_xlen ?_ dsS rfl rfl (by first|exact te26|exact te28|exact te39|exact te54) ?_;exact trS;simp only [St.set,Int.toNat_natCast,List.map_cons,List.map_nil])|(refine ow_xidx ?_ dsS rfl rfl rfl (by first|exact te26|exact te28|exact te39|exact te54) (by first|exact tk3|exact tk4|exact tk5|exact tk9|exact tk26|exact tk28|exact tk39|exact tk54|exact tk61) (by omega) (by omega) ?_;exact trS;simp only [St.set,Int.toNat_natCast,List.map_cons,List.map_nil])|(refine ow_xfld ?_ dsS rfl rfl (by first|exact tf61_0|exact tf61_1|exact tf61_2|exact tf61_3|exact tf61_4|exact tf61_5|exact tf61_6|exact tf61_7) (by first|exact tk3|exact tk4|exact tk5|exact tk9|exact tk26|exact tk28|exact tk39|exact tk54|exact tk61) (by decide) ?_;exact trS;simp only [St.set,Int.toNat_natCast,List.map_cons,List.map_nil])))
  (refine rtS Tryd.results24 ?_;exact ⟨_,_,.inl ⟨rfl,rfl⟩,List.nodup_nil,(by rw [List.take_length])⟩)

theorem markD_ck {D:List RuleD}{k:Nat} (hk:k+cntRs D≤4611686018427387904):ACK Tryd.prog 10 (encD D) (k:Nat) ((k+cntRs D:Nat):Int):=fun C u hr=>by
 unfold encD at hr
 unfold RepD at hr
 obtain ⟨us,rfl,h1,_⟩:=hr
 unfold RepL at h1
 obtain ⟨u,us',rfl,h1,h2⟩:=h1
 unfold RepL at h2
 subst h2
 have hc:=markRs_ck hk C _ h1
 have h1':∀ x∈[u],x.oneCell'=true:=by
  obtain ⟨a,cap,rfl,_⟩:=rules_open h1
  intro x hx
  rw [List.mem_singleton] at hx
  subst hx
  rfl
 refine calls_bodyM Tryd.func10 rfl Tryd.call10 Tryd.ntmps10 (by decide) fun en hsz hks hZ hA hX=>?_;refine enS ?_
 refine aw_say 0 (.agg [.v u]) rfl (say_agg h1') ?_
 (repeat (first|refine walkS ?_|(refine ow_xlen ?_ dsS rfl rfl (by first|exact te26|exact te28|exact te39|exact te54) ?_;exact trS;simp only [St.set,Int.toNat_natCast,List.map_cons,List.map_nil])|(refine ow_xidx ?_ dsS rfl rfl rfl (by first|exact te26|exact te28|exact te39|exact te54) (by first|exact tk3|exact tk4|exact tk5|exact tk9|exact tk26|exact tk28|exact tk30|exact tk39|exact tk54|exact tk61) (by omega) (by omega) ?_;exact trS;simp only [St.set,Int.toNat_natCast,List.map_cons,List.map_nil])|(refine ow_xfld ?_ dsS rfl rfl (by first|exact tf30_0|exact tf61_0|exact tf61_1|exact tf61_2|exact tf61_3|exact tf61_4|exact tf61_5|exact tf61_6|exact tf61_7) (by first|exact tk3|exact tk4|exact tk5|exact tk9|exact tk26|exact tk28|exact tk30|exact tk39|exact tk54|exact tk61) (by decide) ?_;exact trS;simp only [St.set,Int.toNat_natCast,List.map_cons,List.map_nil])|(refine ow_xcall ?_ dsS rfl rfl rfl (hc) hZ hA hX ?_;exact trS;simp only [St.set,Int.toNat_natCast,List.map_cons,List.map_nil])))
 (refine rtS Tryd.results10 ?_;exact ⟨_,_,.inl ⟨rfl,rfl⟩,List.nodup_nil,rfl⟩)
theorem markD_m {D:List RuleD}{k:Nat} (hk:k+cntRs D≤4611686018427387904):ACM Tryd.prog 10 (encD D) (k:Nat) ((k+cntRs D:Nat):Int) none:=ACK.acm Tryd.call10 (markD_ck hk)
theorem markD_1 {D:List RuleD} (hk:1+cntRs D≤4611686018427387904):ACM Tryd.prog 10 (encD D) 1 (1+(cntRs D:Int)) none:=by
 have h:=markD_m (D:=D) (k:=1) hk
 rw [show ((1+cntRs D:Nat):Int)=1+(cntRs D:Int) by omega] at h
 exact h
end Go.Proofs.YtaammoodcgfhpaaDoor.Eng
