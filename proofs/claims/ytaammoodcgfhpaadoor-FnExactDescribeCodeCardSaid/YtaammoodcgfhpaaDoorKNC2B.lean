/-
 How instructions are told: the program's text.
-/
import Derived.Test.YtaammoodcgfhpaaDoorKNC2
set_option linter.unusedSimpArgs false
set_option linter.unusedVariables false
set_option linter.defProp false
set_option maxRecDepth 100000
set_option maxHeartbeats 4000000
namespace Go.Proofs.YtaammoodcgfhpaaDoor.Eng
open Go Go.RowKit

theorem ins_sizesR {nm s1 s2:ByteArray} (h0:nm.size≤16) (h1:s1.size≤1048576) (h2:s2.size≤1048576) :
  (ByteArray.size ⟨#[32]⟩+s1.size≤9223372036854775807)∧(ByteArray.size ⟨#[32]⟩+s2.size≤9223372036854775807)∧(nm.size+(⟨#[32]⟩++s1).size≤9223372036854775807)∧((nm++(⟨#[32]⟩++s1)).size+(⟨#[32]⟩++s2).size≤9223372036854775807):=by
 have y2:ByteArray.size ⟨#[32]⟩=1:=rfl
 simp only [ByteArray.size_append,y2]
 omega
def opRow:List ByteArray:=[⟨#[105,110,116,101,103,101,114]⟩,⟨#[109,97,116,99,104]⟩,⟨#[115,107,105,112]⟩,⟨#[115,107,105,112,45,114,101,103,105,115,116,101,114]⟩,⟨#[108,105,109,105,116]⟩,⟨#[112,117,115,104]⟩,⟨#[108,111,111,112]⟩,⟨#[106,117,109,112]⟩,⟨#[99,97,108,108]⟩,⟨#[114,101,116,117,114,110]⟩,⟨#[116,97,103]⟩,⟨#[102,97,105,108]⟩,⟨#[102,108,97,103]⟩,⟨#[109,97,114,107]⟩,⟨#[115,117,109]⟩,⟨#[117,110,116,105,108]⟩,⟨#[101,110,100]⟩]
theorem opRow_at {j:Nat} (h:j<opRow.length):opRow[j]=opName ((j+1:Nat):Int):=by
 have h17:j<17:=h
 have:j=0∨j=1∨j=2∨j=3∨j=4∨j=5∨j=6∨j=7∨j=8∨j=9∨j=10∨j=11∨j=12∨j=13∨j=14∨j=15∨j=16:=by omega
 rcases this with rfl|rfl|rfl|rfl|rfl|rfl|rfl|rfl|rfl|rfl|rfl|rfl|rfl|rfl|rfl|rfl|rfl<;>rfl
theorem opRow_len:opRow.length=17:=rfl
theorem opRow_is:([[sD ⟨#[105,110,116,101,103,101,114]⟩],[sD ⟨#[109,97,116,99,104]⟩],[sD ⟨#[115,107,105,112]⟩],[sD ⟨#[115,107,105,112,45,114,101,103,105,115,116,101,114]⟩],[sD ⟨#[108,105,109,105,116]⟩],[sD ⟨#[112,117,115,104]⟩],[sD ⟨#[108,111,111,112]⟩],[sD ⟨#[106,117,109,112]⟩],[sD ⟨#[99,97,108,108]⟩],[sD ⟨#[114,101,116,117,114,110]⟩],[sD ⟨#[116,97,103]⟩],[sD ⟨#[102,97,105,108]⟩],[sD ⟨#[102,108,97,103]⟩],[sD ⟨#[109,97,114,107]⟩],[sD ⟨#[115,117,109]⟩],[sD ⟨#[117,110,116,105,108]⟩],[sD ⟨#[101,110,100]⟩]]:List (List Eng.D))=opRow.map fun t=>[sD t]:=rfl
theorem opCnt_g2 {k:Int} (h:k=1∨k=11):opCnt k=2:=by rcases h with rfl|rfl<;>rfl
theorem opCnt_g1 {k:Int} (h:k=2∨k=3∨k=5∨k=7∨k=8∨k=9∨k=12∨k=13∨k=16):opCnt k=1:=by rcases h with rfl|rfl|rfl|rfl|rfl|rfl|rfl|rfl|rfl<;>rfl
theorem opCnt_g0 {k:Int} (h:k=4∨k=6∨k=10∨k=14∨k=15∨k=17):opCnt k=0:=by rcases h with rfl|rfl|rfl|rfl|rfl|rfl<;>rfl
theorem insT_2 {k a b:Int} (h:1≤k∧k≤17) (hc:opCnt k=2):insT (k,a,b)=opName k++(⟨#[32]⟩++itoB a)++(⟨#[32]⟩++itoB b):=by
 unfold insT
 rw [if_pos h]
 simp only
 rw [if_pos hc]
 simp only [ByteArray.append_assoc]
theorem insT_1 {k a b:Int} (h:1≤k∧k≤17) (hc:opCnt k=1):insT (k,a,b)=opName k++(⟨#[32]⟩++itoB a):=by
 unfold insT
 rw [if_pos h]
 simp only
 rw [if_neg (by omega),if_pos hc]
 simp only [ByteArray.append_assoc]
theorem insT_0 {k a b:Int} (h:1≤k∧k≤17) (hc:opCnt k=0):insT (k,a,b)=opName k:=by
 unfold insT
 rw [if_pos h]
 simp only
 rw [if_neg (by omega),if_neg (by omega)]
private def tyF:=ai (ai tg26 tg46) (ai tg3 (ai tg4 tg9))
theorem insI_2 {k a b:Int} (hk17:1≤k∧k≤17) (hcn:opCnt k=2) (ha:numOK a) (hb:numOK b):AC Tryd.prog 22 [.d (insE (k,a,b))] none (fun r' _=>r'=.d (sD (insT (k,a,b)))):=by
 have f1:=fmtI_j ha
 have f2:=fmtI_j hb
 have z1:=itoJ_size ha
 have z2:=itoJ_size hb
 have hL:=(inRange_c k 1 17).eqv (r1:=.d (bD true)) (by simp [hk17])
 have hn:=opName_size hk17
 have hc:=opCnt_c hk17
 rw [insT_2 hk17 hcn]
 rw [hcn] at hc
 generalize itoB a=s1 at *
 generalize itoB b=s2 at *
 obtain ⟨y1,y2,y3,y4⟩:=ins_sizesR (nm:=opName k) (s1:=s1) (s2:=s2) hn (by omega) (by omega)
 have hl:=opRow_len
 obtain ⟨j,rfl⟩:∃ j:Nat,k=((j+1:Nat):Int):=⟨(k - 1).toNat,by omega⟩
 have e1:((j+1:Nat):Int) - 1=(j:Int):=by omega
 have hj:j<opRow.length:=by omega
 have hat:=opRow_at hj
 refine cbS Tryd.func22 rfl Tryd.call22 Tryd.ntmps22 fun en hsz hks hk0=>?_;refine enS ?_
 (repeat (first|refine walkS ?_|refine cS (hL) ?_))
 refine aw_condS rfl (fun h0=>?_) (fun h0=>?_)
 ·(first|exact absurd trivial h0|exact absurd rfl h0|(cases h0;done)|omega|exact absurd h0 (by decide)|(simp at h0;done))
 (repeat (first|refine aw_seq ?_|refine aw_region ?_|refine aw_block ?_|(refine aw_exit ?_;(try simp (decide:=true) only [reduceIte]))|(refine aw_skip ?_;try dsimp only)|(refine ow_nil ?_;try dsimp only)|(refine ol_go ?_ (fun K1 hK1=>?_);exact trS;refine evS ?_;refine hK1 _ _ ?_;clear hK1 K1)|(refine ol_skip rfl rfl ?_ ?_;(focus (intro hne;cases hne;done));simp only [St.set])|(refine ol_nil ⟨by kernel_rfl,?_⟩;try dsimp only)|(refine ow_go ?_ dsS (fun K1 hK1=>?_);exact trS;refine evS ?_;refine hK1 _ ?_;clear hK1 K1)|(refine ow_skip rfl rfl ?_ dsS ?_;(focus (intro hne;cases hne;done));simp only [St.set])))
 rw [opRow_is,e1]
 (repeat (first|refine aw_seq ?_|refine aw_region ?_|refine aw_block ?_|(refine aw_exit ?_;(try simp (decide:=true) only [reduceIte]))|(refine aw_skip ?_;try dsimp only)|(refine ow_nil ?_;try dsimp only)|(refine ol_go ?_ (fun K1 hK1=>?_);exact trS;refine evS ?_;refine hK1 _ _ ?_;clear hK1 K1)|(refine ol_skip rfl rfl ?_ ?_;(focus (intro hne;cases hne;done));simp only [St.set])|(refine ol_nil ⟨by kernel_rfl,?_⟩;try dsimp only)|(refine ow_go ?_ dsS (fun K1 hK1=>?_);exact trS;refine evS ?_;refine hK1 _ ?_;clear hK1 K1)|(refine ow_skip rfl rfl ?_ dsS ?_;(focus (intro hne;cases hne;done));simp only [St.set])))
 rw [hat]
 (repeat (first|refine walkS ?_|refine cS (hc) ?_))
 refine aw_condS rfl (fun h1=>?_) (fun h1=>?_)
 rotate_left
 ·(first|exact absurd trivial h1|exact absurd rfl h1|(cases h1;done)|omega|exact absurd h1 (by decide)|(simp at h1;done))
 (repeat (first|refine walkS ?_|refine cS (f1) ?_))
 (repeat (first|refine walkS ?_|refine cS (hc) ?_))
 refine aw_condS rfl (fun h2=>?_) (fun h2=>?_)
 rotate_left
 ·(first|exact absurd trivial h2|exact absurd rfl h2|(cases h2;done)|omega|exact absurd h2 (by decide)|(simp at h2;done))
 (repeat (first|refine walkS ?_|refine cS (f2) ?_))
 (refine rtS Tryd.results22 ?_;exact ⟨_,_,.inl ⟨rfl,rfl⟩,List.nodup_nil,rfl⟩)
theorem insI_1 {k a b:Int} (hk17:1≤k∧k≤17) (hcn:opCnt k=1) (ha:numOK a) (hb:numOK b):AC Tryd.prog 22 [.d (insE (k,a,b))] none (fun r' _=>r'=.d (sD (insT (k,a,b)))):=by
 have f1:=fmtI_j ha
 have f2:=fmtI_j hb
 have z1:=itoJ_size ha
 have z2:=itoJ_size hb
 have hL:=(inRange_c k 1 17).eqv (r1:=.d (bD true)) (by simp [hk17])
 have hn:=opName_size hk17
 have hc:=opCnt_c hk17
 rw [insT_1 hk17 hcn]
 rw [hcn] at hc
 generalize itoB a=s1 at *
 generalize itoB b=s2 at *
 obtain ⟨y1,y2,y3,y4⟩:=ins_sizesR (nm:=opName k) (s1:=s1) (s2:=s2) hn (by omega) (by omega)
 have hl:=opRow_len
 obtain ⟨j,rfl⟩:∃ j:Nat,k=((j+1:Nat):Int):=⟨(k - 1).toNat,by omega⟩
 have e1:((j+1:Nat):Int) - 1=(j:Int):=by omega
 have hj:j<opRow.length:=by omega
 have hat:=opRow_at hj
 refine cbS Tryd.func22 rfl Tryd.call22 Tryd.ntmps22 fun en hsz hks hk0=>?_;refine enS ?_
 (repeat (first|refine walkS ?_|refine cS (hL) ?_))
 refine aw_condS rfl (fun h0=>?_) (fun h0=>?_)
 ·(first|exact absurd trivial h0|exact absurd rfl h0|(cases h0;done)|omega|exact absurd h0 (by decide)|(simp at h0;done))
 (repeat (first|refine aw_seq ?_|refine aw_region ?_|refine aw_block ?_|(refine aw_exit ?_;(try simp (decide:=true) only [reduceIte]))|(refine aw_skip ?_;try dsimp only)|(refine ow_nil ?_;try dsimp only)|(refine ol_go ?_ (fun K1 hK1=>?_);exact trS;refine evS ?_;refine hK1 _ _ ?_;clear hK1 K1)|(refine ol_skip rfl rfl ?_ ?_;(focus (intro hne;cases hne;done));simp only [St.set])|(refine ol_nil ⟨by kernel_rfl,?_⟩;try dsimp only)|(refine ow_go ?_ dsS (fun K1 hK1=>?_);exact trS;refine evS ?_;refine hK1 _ ?_;clear hK1 K1)|(refine ow_skip rfl rfl ?_ dsS ?_;(focus (intro hne;cases hne;done));simp only [St.set])))
 rw [opRow_is,e1]
 (repeat (first|refine aw_seq ?_|refine aw_region ?_|refine aw_block ?_|(refine aw_exit ?_;(try simp (decide:=true) only [reduceIte]))|(refine aw_skip ?_;try dsimp only)|(refine ow_nil ?_;try dsimp only)|(refine ol_go ?_ (fun K1 hK1=>?_);exact trS;refine evS ?_;refine hK1 _ _ ?_;clear hK1 K1)|(refine ol_skip rfl rfl ?_ ?_;(focus (intro hne;cases hne;done));simp only [St.set])|(refine ol_nil ⟨by kernel_rfl,?_⟩;try dsimp only)|(refine ow_go ?_ dsS (fun K1 hK1=>?_);exact trS;refine evS ?_;refine hK1 _ ?_;clear hK1 K1)|(refine ow_skip rfl rfl ?_ dsS ?_;(focus (intro hne;cases hne;done));simp only [St.set])))
 rw [hat]
 (repeat (first|refine walkS ?_|refine cS (hc) ?_))
 refine aw_condS rfl (fun h1=>?_) (fun h1=>?_)
 rotate_left
 ·(first|exact absurd trivial h1|exact absurd rfl h1|(cases h1;done)|omega|exact absurd h1 (by decide)|(simp at h1;done))
 (repeat (first|refine walkS ?_|refine cS (f1) ?_))
 (repeat (first|refine walkS ?_|refine cS (hc) ?_))
 refine aw_condS rfl (fun h2=>?_) (fun h2=>?_)
 ·(first|exact absurd trivial h2|exact absurd rfl h2|(cases h2;done)|omega|exact absurd h2 (by decide)|(simp at h2;done))
 refine walkS ?_
 (refine rtS Tryd.results22 ?_;exact ⟨_,_,.inl ⟨rfl,rfl⟩,List.nodup_nil,rfl⟩)
theorem insI_0 {k a b:Int} (hk17:1≤k∧k≤17) (hcn:opCnt k=0) (ha:numOK a) (hb:numOK b):AC Tryd.prog 22 [.d (insE (k,a,b))] none (fun r' _=>r'=.d (sD (insT (k,a,b)))):=by
 have f1:=fmtI_j ha
 have f2:=fmtI_j hb
 have z1:=itoJ_size ha
 have z2:=itoJ_size hb
 have hL:=(inRange_c k 1 17).eqv (r1:=.d (bD true)) (by simp [hk17])
 have hn:=opName_size hk17
 have hc:=opCnt_c hk17
 rw [insT_0 hk17 hcn]
 rw [hcn] at hc
 generalize itoB a=s1 at *
 generalize itoB b=s2 at *
 obtain ⟨y1,y2,y3,y4⟩:=ins_sizesR (nm:=opName k) (s1:=s1) (s2:=s2) hn (by omega) (by omega)
 have hl:=opRow_len
 obtain ⟨j,rfl⟩:∃ j:Nat,k=((j+1:Nat):Int):=⟨(k - 1).toNat,by omega⟩
 have e1:((j+1:Nat):Int) - 1=(j:Int):=by omega
 have hj:j<opRow.length:=by omega
 have hat:=opRow_at hj
 refine cbS Tryd.func22 rfl Tryd.call22 Tryd.ntmps22 fun en hsz hks hk0=>?_;refine enS ?_
 (repeat (first|refine walkS ?_|refine cS (hL) ?_))
 refine aw_condS rfl (fun h0=>?_) (fun h0=>?_)
 ·(first|exact absurd trivial h0|exact absurd rfl h0|(cases h0;done)|omega|exact absurd h0 (by decide)|(simp at h0;done))
 (repeat (first|refine aw_seq ?_|refine aw_region ?_|refine aw_block ?_|(refine aw_exit ?_;(try simp (decide:=true) only [reduceIte]))|(refine aw_skip ?_;try dsimp only)|(refine ow_nil ?_;try dsimp only)|(refine ol_go ?_ (fun K1 hK1=>?_);exact trS;refine evS ?_;refine hK1 _ _ ?_;clear hK1 K1)|(refine ol_skip rfl rfl ?_ ?_;(focus (intro hne;cases hne;done));simp only [St.set])|(refine ol_nil ⟨by kernel_rfl,?_⟩;try dsimp only)|(refine ow_go ?_ dsS (fun K1 hK1=>?_);exact trS;refine evS ?_;refine hK1 _ ?_;clear hK1 K1)|(refine ow_skip rfl rfl ?_ dsS ?_;(focus (intro hne;cases hne;done));simp only [St.set])))
 rw [opRow_is,e1]
 (repeat (first|refine aw_seq ?_|refine aw_region ?_|refine aw_block ?_|(refine aw_exit ?_;(try simp (decide:=true) only [reduceIte]))|(refine aw_skip ?_;try dsimp only)|(refine ow_nil ?_;try dsimp only)|(refine ol_go ?_ (fun K1 hK1=>?_);exact trS;refine evS ?_;refine hK1 _ _ ?_;clear hK1 K1)|(refine ol_skip rfl rfl ?_ ?_;(focus (intro hne;cases hne;done));simp only [St.set])|(refine ol_nil ⟨by kernel_rfl,?_⟩;try dsimp only)|(refine ow_go ?_ dsS (fun K1 hK1=>?_);exact trS;refine evS ?_;refine hK1 _ ?_;clear hK1 K1)|(refine ow_skip rfl rfl ?_ dsS ?_;(focus (intro hne;cases hne;done));simp only [St.set])))
 rw [hat]
 (repeat (first|refine walkS ?_|refine cS (hc) ?_))
 refine aw_condS rfl (fun h1=>?_) (fun h1=>?_)
 ·(first|exact absurd trivial h1|exact absurd rfl h1|(cases h1;done)|omega|exact absurd h1 (by decide)|(simp at h1;done))
 (repeat (first|refine walkS ?_|refine cS (hc) ?_))
 refine aw_condS rfl (fun h2=>?_) (fun h2=>?_)
 ·(first|exact absurd trivial h2|exact absurd rfl h2|(cases h2;done)|omega|exact absurd h2 (by decide)|(simp at h2;done))
 refine walkS ?_
 (refine rtS Tryd.results22 ?_;exact ⟨_,_,.inl ⟨rfl,rfl⟩,List.nodup_nil,rfl⟩)
theorem insI_c {x:Ins} (h:insOK x):AC Tryd.prog 22 [.d (insE x)] none (fun r' _=>r'=.d (sD (insT x))):=by
 obtain ⟨k,a,b⟩:=x
 obtain ⟨hk,ha,hb⟩:=h
 simp only at hk ha hb
 have h3:(k=1∨k=11)∨(k=2∨k=3∨k=5∨k=7∨k=8∨k=9∨k=12∨k=13∨k=16)∨(k=4∨k=6∨k=10∨k=14∨k=15∨k=17):=by omega
 rcases h3 with h3|h3|h3
 ·exact insI_2 hk (opCnt_g2 h3) ha hb
 ·exact insI_1 hk (opCnt_g1 h3) ha hb
 ·exact insI_0 hk (opCnt_g0 h3) ha hb
end Go.Proofs.YtaammoodcgfhpaaDoor.Eng
