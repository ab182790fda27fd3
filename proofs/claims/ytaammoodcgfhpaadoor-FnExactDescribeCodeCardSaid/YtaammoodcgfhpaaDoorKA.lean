/-
 Contracts of small functions: ranges, limits.

 Contracts: ContainsText, SumOfBytes, ReadInteger, twice each.

 Contracts: IsName, twice.

 Contract: IsName of the program (a range over a string).

 Contracts: IntegerLimit, twice.

 Contracts: ReadInteger, twice.

 Contracts: ReadTerminated, twice.
-/
import Derived.Test.YtaammoodcgfhpaaDoorProg
import Derived.Test.YtaammoodcgfhpaaDoorKP
set_option linter.unusedSimpArgs false
set_option linter.unusedVariables false
set_option linter.defProp false
set_option maxRecDepth 100000
set_option maxHeartbeats 4000000
namespace Go.Proofs.YtaammoodcgfhpaaDoor
open Go.RowKit

theorem ret_bool {a b:Bool} (h:a=b):Ending.returned (.bool a)=.returned (.bool b):=by rw [h]
theorem inRange_any (n a b:Int) (w:World) :
  Calls Tryd.prog 36 #[.int .i64 n,.int .i64 a,.int .i64 b] w fun e w'=>e=.returned (.bool (decide (a≤n) && decide (n≤b)))∧w=w':=by
 go_enter Tryd.func36,Tryd.ntmps36
 go_wp2
 all_goals (go_ret;exact ⟨ret_bool (by simp [*];try omega),rfl⟩)

theorem l1In_any (n a b:Int) (w:World) :
  Calls Tryd.prog 30 #[.int .i64 n,.int .i64 a,.int .i64 b] w fun e w'=>e=.returned (.bool (decide (a≤n) && decide (n≤b)))∧w=w':=by
 go_enter Tryd.func30,Tryd.ntmps30
 go_wp2
 all_goals (go_ret;exact ⟨ret_bool (by simp [*];try omega),rfl⟩)

theorem hasRule_any (v:Option Addr) (len cap:Nat) (i:Int) (w:World) :
  Calls Tryd.prog 70 #[.agg #[.slice v len cap],.int .i64 i] w fun e w'=>e=.returned (.bool (decide (0≤i) && decide (i<len)))∧Below w.heap.size w w':=by
 go_enter Tryd.func70,Tryd.ntmps70
 go_wp2
 all_goals (go_ret;exact ⟨ret_bool (by simp [*];try omega),(Below.refl _ _).alloc (Nat.le_refl _) _⟩)

theorem l2Power_any (n:Int) (h0:0≤n) (h4:n≤4) (w:World) :
  Calls Tryd.prog 88 #[.int .i64 n] w fun e w'=>e=.returned (.int .i64 (2 ^ (8*n.toNat)))∧w=w':=by
 have h:n=0∨n=1∨n=2∨n=3∨n=4:=by omega
 rcases h with rfl|rfl|rfl|rfl|rfl<;>
 ·go_enter Tryd.func88,Tryd.ntmps88
  go_wp2
  go_ret
  exact ⟨by rfl,rfl⟩

theorem inRange_t (n a b:Int) (w:World) (h:a≤n∧n≤b) :
  Calls Tryd.prog 36 #[.int .i64 n,.int .i64 a,.int .i64 b] w fun e w'=>e=.returned (.bool true)∧w=w':=
 (inRange_any n a b w).mono fun e w' ⟨h1,h2⟩=>⟨by rw [h1];exact ret_bool (by simp;omega),h2⟩
theorem inRange_f (n a b:Int) (w:World) (h:¬(a≤n∧n≤b)) :
  Calls Tryd.prog 36 #[.int .i64 n,.int .i64 a,.int .i64 b] w fun e w'=>e=.returned (.bool false)∧w=w':=
 (inRange_any n a b w).mono fun e w' ⟨h1,h2⟩=>⟨by rw [h1];exact ret_bool (by simp;omega),h2⟩
theorem l1In_t (n a b:Int) (w:World) (h:a≤n∧n≤b) :
  Calls Tryd.prog 30 #[.int .i64 n,.int .i64 a,.int .i64 b] w fun e w'=>e=.returned (.bool true)∧w=w':=
 (l1In_any n a b w).mono fun e w' ⟨h1,h2⟩=>⟨by rw [h1];exact ret_bool (by simp;omega),h2⟩
theorem l1In_f (n a b:Int) (w:World) (h:¬(a≤n∧n≤b)) :
  Calls Tryd.prog 30 #[.int .i64 n,.int .i64 a,.int .i64 b] w fun e w'=>e=.returned (.bool false)∧w=w':=
 (l1In_any n a b w).mono fun e w' ⟨h1,h2⟩=>⟨by rw [h1];exact ret_bool (by simp;omega),h2⟩
theorem hasRule_t (v:Option Addr) (len cap:Nat) (i:Int) (w:World) (h:0≤i∧i<len) :
  Calls Tryd.prog 70 #[.agg #[.slice v len cap],.int .i64 i] w fun e w'=>e=.returned (.bool true)∧Below w.heap.size w w':=
 (hasRule_any v len cap i w).mono fun e w' ⟨h1,h2⟩=>⟨by rw [h1];exact ret_bool (by simp;omega),h2⟩
theorem hasRule_f (v:Option Addr) (len cap:Nat) (i:Int) (w:World) (h:¬(0≤i∧i<len)) :
  Calls Tryd.prog 70 #[.agg #[.slice v len cap],.int .i64 i] w fun e w'=>e=.returned (.bool false)∧Below w.heap.size w w':=
 (hasRule_any v len cap i w).mono fun e w' ⟨h1,h2⟩=>⟨by rw [h1];exact ret_bool (by simp;omega),h2⟩

end Go.Proofs.YtaammoodcgfhpaaDoor
namespace Go.Proofs.YtaammoodcgfhpaaDoor
open Go.RowKit

theorem containsI_any {w0 w:World}{lo:Nat} (hs:Since lo w0 w) {a:Option Addr}{cap:Nat}{l:List ByteArray} (hr:Row w0 lo a (l.map .string)) (hm:l.length≤maxLen) (s:ByteArray) :
  Calls Tryd.prog 90 #[.slice a l.length cap,.string s] w fun e w'=>e=.returned (.bool (hasText l s))∧w=w':=by
 unfold maxLen at hm
 go_enter Tryd.func90,Tryd.ntmps90
 go_wp2_with fail
 go_loop [9] (fun i=>∃ k:Nat,k≤l.length∧(∀ j (hj:j<l.length),j<k→l[j]≠s)∧i=.int .i64 k) (fun i=>l.length - (intOf i).toNat)
 case atStart=>exact ⟨0,Nat.zero_le _,fun j _ h=>absurd h (Nat.not_lt_zero j),rfl⟩
 case round=>
  obtain ⟨k,hk,hall,rfl⟩:=hrel
  have Hall:=Lib.hid hall
  clear hall
  by_cases hlt:k<l.length
  ·obtain ⟨b,o,rfl,hb,hb1,hb2,hc⟩:=hr.pos hs (by simp;omega)
   have c0:=hc k _ (map_at _ hlt)
   clear hc hr
   by_cases he:l[k]=s
   ·have he':=seq_true he
    have hy:=Lib.hid (hasText_yes hlt he)
    clear he
    go_wp2_with fail
    go_ret
    exact ⟨ret_bool hy.out.symm,rfl⟩
   ·have he':=seq_false he
    have He:=Lib.hid he
    clear he
    go_wp2_with fail
    go_round
    case rel=>exact ⟨k+1,by omega,upto_succ (P:=fun j hj=>l[j]≠s) (fun _=>He.out) Hall.out,by go_num⟩
    case measure=>simp [intOf];omega
  ·go_wp2_with fail
   go_ret
   exact ⟨ret_bool (hasText_no hlt Hall.out).symm,rfl⟩

theorem containsS_any {w0 w:World}{lo:Nat} (hs:Since lo w0 w) {a:Option Addr}{cap:Nat}{l:List ByteArray} (hr:Row w0 lo a (l.map .string)) (hm:l.length≤maxLen) (s:ByteArray) :
  Calls Tryd.prog 89 #[.slice a l.length cap,.string s] w fun e w'=>e=.returned (.bool (hasText l s))∧w=w':=by
 unfold maxLen at hm
 go_enter Tryd.func89,Tryd.ntmps89
 go_wp2_with fail
 go_loop [5] (fun i=>∃ k:Nat,k≤l.length∧(∀ j (hj:j<l.length),j<k→l[j]≠s)∧i=.int .i64 k) (fun i=>l.length - (intOf i).toNat)
 case atStart=>exact ⟨0,Nat.zero_le _,fun j _ h=>absurd h (Nat.not_lt_zero j),rfl⟩
 case round=>
  obtain ⟨k,hk,hall,rfl⟩:=hrel
  have Hall:=Lib.hid hall
  clear hall
  by_cases hlt:k<l.length
  ·obtain ⟨b,o,rfl,hb,hb1,hb2,hc⟩:=hr.pos hs (by simp;omega)
   have c0:=hc k _ (map_at _ hlt)
   clear hc hr
   by_cases he:l[k]=s
   ·have he':=seq_true he
    have hy:=Lib.hid (hasText_yes hlt he)
    clear he
    go_wp2_with fail
    go_ret
    exact ⟨ret_bool hy.out.symm,rfl⟩
   ·have he':=seq_false he
    have He:=Lib.hid he
    clear he
    go_wp2_with fail
    go_round
    case rel=>exact ⟨k+1,by omega,upto_succ (P:=fun j hj=>l[j]≠s) (fun _=>He.out) Hall.out,by go_num⟩
    case measure=>simp [intOf];omega
  ·go_wp2_with fail
   go_ret
   exact ⟨ret_bool (hasText_no hlt Hall.out).symm,rfl⟩

theorem containsI_n {w0 w:World}{lo:Nat} (hs:Since lo w0 w) {a:Option Addr}{cap:Nat} (l:List ByteArray) (hr:Row w0 lo a (l.map .string)) (hm:l.length≤maxLen) (s:ByteArray) (n:Nat) (hn:n=l.length) :
  Calls Tryd.prog 90 #[.slice a n cap,.string s] w fun e w'=>e=.returned (.bool (hasText l s))∧w=w':=by
 subst hn
 exact containsI_any hs hr hm s

theorem containsS_n {w0 w:World}{lo:Nat} (hs:Since lo w0 w) {a:Option Addr}{cap:Nat} (l:List ByteArray) (hr:Row w0 lo a (l.map .string)) (hm:l.length≤maxLen) (s:ByteArray) (n:Nat) (hn:n=l.length) :
  Calls Tryd.prog 89 #[.slice a n cap,.string s] w fun e w'=>e=.returned (.bool (hasText l s))∧w=w':=by
 subst hn
 exact containsS_any hs hr hm s

end Go.Proofs.YtaammoodcgfhpaaDoor
namespace Go.Proofs.YtaammoodcgfhpaaDoor
open Go.RowKit

theorem all_succ {s:ByteArray}{k:Nat} (hk:∀ (h:k<s.size),byteOk k s[k]) (h:∀ j (hj:j<s.size),j<k→byteOk j s[j]):∀ j (hj:j<s.size),j<k+1→byteOk j s[j]:=fun j hj hjk=>by
 rcases Nat.lt_succ_iff_lt_or_eq.1 hjk with h1|rfl
 ·exact h j hj h1
 ·exact hk hj

theorem isNameS_any (s:ByteArray) (w:World) (hs:s.size≤maxLen) :
  Calls Tryd.prog 68 #[.string s] w fun e w'=>e=.returned (.bool (isName s))∧w=w':=by
 unfold maxLen at hs
 go_enter Tryd.func68,Tryd.ntmps68
 go_wp2_with fail
 go_loop [3] (fun i=>∃ k:Nat,k≤s.size∧(∀ j (hj:j<s.size),j<k→byteOk j s[j])∧i=.int .i64 k) (fun i=>s.size - (intOf i).toNat)
 case atStart=>exact ⟨0,Nat.zero_le _,fun j _ h=>absurd h (Nat.not_lt_zero j),rfl⟩
 case round=>
  obtain ⟨k,hk,hall,rfl⟩:=hrel
  have Hall:=Lib.hid hall
  clear hall
  by_cases hlt:k<s.size
  ·by_cases hL:97≤(s[k].toNat:Int)∧(s[k].toNat:Int)≤122
   ·have hb:byteOk k s[k]:=Or.inl hL
    go_wp2_with fail
    all_goals (
     go_round
     case rel=>exact ⟨k+1,by omega,all_succ (fun _=>hb) Hall.out,by go_num⟩
     case measure=>simp [intOf];omega)
   by_cases hDg:(48≤(s[k].toNat:Int)∧(s[k].toNat:Int)≤57)∧¬k=0
   ·have hb:byteOk k s[k]:=Or.inr hDg
    go_wp2_with fail
    all_goals (
     go_round
     case rel=>exact ⟨k+1,by omega,all_succ (fun _=>hb) Hall.out,by go_num⟩
     case measure=>simp [intOf];omega)
   have hb:isName s=false:=isName_bad hlt (by unfold byteOk;omega)
   have Hb:=Lib.hid hb
   clear hb
   have h4:(s[k].toNat:Int)<48∨(57<(s[k].toNat:Int)∧(s[k].toNat:Int)<97)∨122<(s[k].toNat:Int)∨(k=0∧48≤(s[k].toNat:Int)∧(s[k].toNat:Int)≤57):=by omega
   clear hL hDg
   rcases h4 with h4|h4|h4|⟨hz,h4⟩
   ·have e97:decide (97≤(s[k].toNat:Int))=false:=by simp;omega
    have e48:decide (48≤(s[k].toNat:Int))=false:=by simp;omega
    clear h4
    go_wp2_with fail
    go_ret
    exact ⟨ret_bool Hb.out.symm,rfl⟩
   ·have e97:decide (97≤(s[k].toNat:Int))=false:=by simp;omega
    have e48:decide (48≤(s[k].toNat:Int))=true:=by simp;omega
    have e57:decide ((s[k].toNat:Int)≤57)=false:=by simp;omega
    clear h4
    go_wp2_with fail
    go_ret
    exact ⟨ret_bool Hb.out.symm,rfl⟩
   ·have e97:decide (97≤(s[k].toNat:Int))=true:=by simp;omega
    have e122:decide ((s[k].toNat:Int)≤122)=false:=by simp;omega
    have e48:decide (48≤(s[k].toNat:Int))=true:=by simp;omega
    have e57:decide ((s[k].toNat:Int)≤57)=false:=by simp;omega
    clear h4
    go_wp2_with fail
    go_ret
    exact ⟨ret_bool Hb.out.symm,rfl⟩
   ·have e97:decide (97≤(s[k].toNat:Int))=false:=by simp;omega
    have e48:decide (48≤(s[k].toNat:Int))=true:=by simp;omega
    have e57:decide ((s[k].toNat:Int)≤57)=true:=by simp;omega
    have e0:((k:Int)==0)=true:=by simp [hz]
    clear h4 hz
    go_wp2_with fail
    go_ret
    exact ⟨ret_bool Hb.out.symm,rfl⟩
  ·go_wp2_with (go_at_call 30;refine (l1In_any _ _ _ _).mono ?_;rintro e w1 ⟨rfl,rfl⟩)
   go_ret
   exact ⟨ret_bool (isName_end hlt Hall.out).symm,rfl⟩
end Go.Proofs.YtaammoodcgfhpaaDoor
namespace Go.Proofs.YtaammoodcgfhpaaDoor
open Go.RowKit

theorem isNameI_any (s:ByteArray) (w:World) (hs:s.size≤maxLen) :
  Calls Tryd.prog 71 #[.string s] w fun e w'=>e=.returned (.bool (isName s))∧Below w.heap.size w w':=by
 unfold maxLen at hs
 by_cases h1:s.size<1
 ·have d1:decide ((s.size:Int)<1)=true:=by simp;omega
  have Hb:=Lib.hid (isName_false (s:=s) fun h=>by have:=h.1;omega)
  clear h1
  go_enter Tryd.func71,Tryd.ntmps71
  go_wp2_with fail
  go_ret
  exact ⟨ret_bool Hb.out.symm,(by first|exact Below.refl _ _|exact (Below.refl _ _).alloc (Nat.le_refl _) _)⟩
 have d1:decide ((s.size:Int)<1)=false:=by simp;omega
 by_cases h2:12<s.size
 ·have d2:decide (12<(s.size:Int))=true:=by simp;omega
  have Hb:=Lib.hid (isName_false (s:=s) fun h=>by have:=h.1;omega)
  clear h1 h2
  go_enter Tryd.func71,Tryd.ntmps71
  go_wp2_with fail
  go_ret
  exact ⟨ret_bool Hb.out.symm,(by first|exact Below.refl _ _|exact (Below.refl _ _).alloc (Nat.le_refl _) _)⟩
 have d2:decide (12<(s.size:Int))=false:=by simp;omega
 have Hsz:Hid (1≤s.size∧s.size≤12):=⟨by omega,by omega⟩
 clear h1 h2
 go_enter Tryd.func71,Tryd.ntmps71
 go_wp2_with fail
 go_loopw [] (fun wr=>∃ k:Nat,(∀ j (hj:j<s.size),j<k→byteOk j s[j])∧wr=w.iter s k) (fun wr=>s.size - wr.iterPos w.heap.size)
 case atStart=>exact ⟨0,fun j _ h=>absurd h (Nat.not_lt_zero j),rfl⟩
 case round=>
  obtain ⟨k,hall,rfl⟩:=hrel
  have Hall:=Lib.hid hall
  clear hall
  by_cases hlt:k<s.size
  ·have hnext:=fun ty=>run_next_any (P:=Tryd.prog) w s k ty hlt
   have hge:1≤(Utf8.decode s k).2:=by
    by_cases ha:s[k].toNat<128
    ·rw [decode_ascii s k hlt ha];exact Nat.le_refl _
    ·exact (decode_high s k hlt (by omega)).2
   have hrune:((Utf8.decode s k).1=s[k].toNat∧(Utf8.decode s k).2=1∧s[k].toNat<128)∨(128≤(Utf8.decode s k).1∧128≤s[k].toNat):=by
    by_cases ha:s[k].toNat<128
    ·left;rw [decode_ascii s k hlt ha];exact ⟨rfl,rfl,ha⟩
    ·right;exact ⟨(decode_high s k hlt (by omega)).1,by omega⟩
   have hle:=decode_le s k
   generalize (Utf8.decode s k).1=c at *
   generalize (Utf8.decode s k).2=m at *
   by_cases hL:97≤(c:Int)∧(c:Int)≤122
   ·have Hb:Hid (m=1∧byteOk k s[k]):=by
     rcases hrune with h|h
     ·exact ⟨h.2.1,Or.inl (by omega)⟩
     ·omega
    clear hrune
    go_wp2_with fail
    all_goals (
     go_roundw
     case rel=>exact ⟨k+m,by rw [Hb.out.1];exact all_succ (fun _=>Hb.out.2) Hall.out,rfl⟩
     case measure=>simp;omega)
   by_cases hDg:(48≤(c:Int)∧(c:Int)≤57)∧¬k=0
   ·have Hb:Hid (m=1∧byteOk k s[k]):=by
     rcases hrune with h|h
     ·exact ⟨h.2.1,Or.inr (by omega)⟩
     ·omega
    obtain ⟨⟨g1,g2⟩,g3⟩:=hDg
    have e97:decide (97≤(c:Int))=false:=by simp;omega
    have e48:decide (48≤(c:Int))=true:=by simp;omega
    have e57:decide ((c:Int)≤57)=true:=by simp;omega
    have e0:((k:Int)==0)=false:=by rw [beq_eq_false_iff_ne];omega
    clear hrune hL
    go_wp2_with fail
    all_goals (
     go_roundw
     case rel=>exact ⟨k+m,by rw [Hb.out.1];exact all_succ (fun _=>Hb.out.2) Hall.out,rfl⟩
     case measure=>simp;omega)
   have Hb:Hid (isName s=false):=isName_bad hlt (by
    unfold byteOk
    rcases hrune with h|h
    ·omega
    ·omega)
   have h4:(c:Int)<48∨(57<(c:Int)∧(c:Int)<97)∨122<(c:Int)∨(k=0∧48≤(c:Int)∧(c:Int)≤57):=by omega
   clear hL hDg hrune
   rcases h4 with h4|h4|h4|⟨hz,h4⟩
   ·have e97:decide (97≤(c:Int))=false:=by simp;omega
    have e48:decide (48≤(c:Int))=false:=by simp;omega
    clear h4
    go_wp2_with fail
    go_ret
    exact ⟨ret_bool Hb.out.symm,(by first|exact Below.refl _ _|exact (Below.refl _ _).alloc (Nat.le_refl _) _)⟩
   ·have e97:decide (97≤(c:Int))=false:=by simp;omega
    have e48:decide (48≤(c:Int))=true:=by simp;omega
    have e57:decide ((c:Int)≤57)=false:=by simp;omega
    clear h4
    go_wp2_with fail
    go_ret
    exact ⟨ret_bool Hb.out.symm,(by first|exact Below.refl _ _|exact (Below.refl _ _).alloc (Nat.le_refl _) _)⟩
   ·have e97:decide (97≤(c:Int))=true:=by simp;omega
    have e122:decide ((c:Int)≤122)=false:=by simp;omega
    have e48:decide (48≤(c:Int))=true:=by simp;omega
    have e57:decide ((c:Int)≤57)=false:=by simp;omega
    clear h4
    go_wp2_with fail
    go_ret
    exact ⟨ret_bool Hb.out.symm,(by first|exact Below.refl _ _|exact (Below.refl _ _).alloc (Nat.le_refl _) _)⟩
   ·have e97:decide (97≤(c:Int))=false:=by simp;omega
    have e48:decide (48≤(c:Int))=true:=by simp;omega
    have e57:decide ((c:Int)≤57)=true:=by simp;omega
    have e0:((k:Int)==0)=true:=by simp [hz]
    clear h4 hz
    go_wp2_with fail
    go_ret
    exact ⟨ret_bool Hb.out.symm,(by first|exact Below.refl _ _|exact (Below.refl _ _).alloc (Nat.le_refl _) _)⟩
  ·have hnext:=fun ty=>run_next_end (P:=Tryd.prog) w s k ty hlt
   have Hv:Hid (isName s=true):=isName_true ⟨Hsz.out,fun j hj=>Hall.out j hj (by omega)⟩
   go_wp2_with fail
   go_ret
   exact ⟨ret_bool Hv.out.symm,(by first|exact Below.refl _ _|exact (Below.refl _ _).alloc (Nat.le_refl _) _)⟩

end Go.Proofs.YtaammoodcgfhpaaDoor
namespace Go.Proofs.YtaammoodcgfhpaaDoor
open Go.RowKit

theorem limI_any {w0 w:World}{lo:Nat} (hs:Since lo w0 w) {a:Option Addr}{cap:Nat}{rs:List R}{M:Nat} (hD:Ds w0 lo M a cap rs) (hM:M≤1048576) (i:Int) :
  Calls Tryd.prog 81 #[.agg #[.slice a rs.length cap],.int .i64 i] w fun e w'=>e=.returned (.int .i64 (limD (rs.map R.toRuleD) i))∧Below w.heap.size w w':=by
 have hl:=hD.len
 rcases rule_cases rs i with ⟨n,r,rfl,hr,hn,hat⟩|⟨hout,hat⟩
 ·obtain ⟨b,o,rfl,hb,hb1,hb2,c0,c1,c2,c3,c4,c5,c6,c7⟩:=hD.at hs n r hr
  by_cases hk:r.kind=1
  ·by_cases hz:1≤r.size∧r.size≤4
   ·rw [limD_good hat ⟨hk,hz⟩]
    rw [hk] at c1
    have h4:r.size=1∨r.size=2∨r.size=3∨r.size=4:=by omega
    clear hat hk hr hD hz
    rcases h4 with h4|h4|h4|h4<;>rw [h4] at c2 ⊢<;>clear h4
    all_goals (
     go_enter Tryd.func81,Tryd.ntmps81
     go_wp2_with (first|(go_at_call 70;first|(refine (hasRule_t _ _ _ _ _ ?_).mono ?_;omega;rintro e w1 ⟨rfl,hb1⟩;obtain ⟨hc1,hf1⟩:=bcell hb1)|(refine (hasRule_f _ _ _ _ _ ?_).mono ?_;omega;rintro e w1 ⟨rfl,hb1⟩;obtain ⟨hc1,hf1⟩:=bcell hb1)|(refine (hasRule_any _ _ _ _ _).mono ?_;rintro e w1 ⟨rfl,hb1⟩;obtain ⟨hc1,hf1⟩:=bcell hb1))|(go_at_call 36;first|(refine (inRange_t _ _ _ _ ?_).mono ?_;omega;rintro e w1 ⟨rfl,rfl⟩)|(refine (inRange_f _ _ _ _ ?_).mono ?_;omega;rintro e w1 ⟨rfl,rfl⟩)|(refine (inRange_any _ _ _ _).mono ?_;rintro e w1 ⟨rfl,rfl⟩)))
     go_ret
     exact ⟨rfl,(Since.b belS)⟩)
   ·rw [limD_bad hat (by simp [hz])]
    rw [hk] at c1
    clear hat hk hr hD
    go_enter Tryd.func81,Tryd.ntmps81
    go_wp2_with (first|(go_at_call 70;first|(refine (hasRule_t _ _ _ _ _ ?_).mono ?_;omega;rintro e w1 ⟨rfl,hb1⟩;obtain ⟨hc1,hf1⟩:=bcell hb1)|(refine (hasRule_f _ _ _ _ _ ?_).mono ?_;omega;rintro e w1 ⟨rfl,hb1⟩;obtain ⟨hc1,hf1⟩:=bcell hb1)|(refine (hasRule_any _ _ _ _ _).mono ?_;rintro e w1 ⟨rfl,hb1⟩;obtain ⟨hc1,hf1⟩:=bcell hb1))|(go_at_call 36;first|(refine (inRange_t _ _ _ _ ?_).mono ?_;omega;rintro e w1 ⟨rfl,rfl⟩)|(refine (inRange_f _ _ _ _ ?_).mono ?_;omega;rintro e w1 ⟨rfl,rfl⟩)|(refine (inRange_any _ _ _ _).mono ?_;rintro e w1 ⟨rfl,rfl⟩)))
    go_ret
    exact ⟨rfl,(Since.b belS)⟩
  ·rw [limD_bad hat (by simp [hk])]
   clear hat hr hD
   go_enter Tryd.func81,Tryd.ntmps81
   go_wp2_with (go_at_call 70;first|(refine (hasRule_t _ _ _ _ _ ?_).mono ?_;omega;rintro e w1 ⟨rfl,hb1⟩;obtain ⟨hc1,hf1⟩:=bcell hb1)|(refine (hasRule_f _ _ _ _ _ ?_).mono ?_;omega;rintro e w1 ⟨rfl,hb1⟩;obtain ⟨hc1,hf1⟩:=bcell hb1)|(refine (hasRule_any _ _ _ _ _).mono ?_;rintro e w1 ⟨rfl,hb1⟩;obtain ⟨hc1,hf1⟩:=bcell hb1))
   go_ret
   exact ⟨rfl,(Since.b belS)⟩
 ·rw [limD_none hat]
  have hout':¬(0≤i∧i<rs.length):=by omega
  clear hat
  go_enter Tryd.func81,Tryd.ntmps81
  go_wp2_with (go_at_call 70;first|(refine (hasRule_t _ _ _ _ _ ?_).mono ?_;omega;rintro e w1 ⟨rfl,hb1⟩;obtain ⟨hc1,hf1⟩:=bcell hb1)|(refine (hasRule_f _ _ _ _ _ ?_).mono ?_;omega;rintro e w1 ⟨rfl,hb1⟩;obtain ⟨hc1,hf1⟩:=bcell hb1)|(refine (hasRule_any _ _ _ _ _).mono ?_;rintro e w1 ⟨rfl,hb1⟩;obtain ⟨hc1,hf1⟩:=bcell hb1))
  go_ret
  exact ⟨rfl,(Since.b belS)⟩
theorem limS_any {w0 w:World}{lo:Nat} (hs:Since lo w0 w) {a:Option Addr}{cap:Nat}{rs:List R}{M:Nat} (hD:Ds w0 lo M a cap rs) (hM:M≤1048576) (i:Int) :
  Calls Tryd.prog 77 #[.agg #[.slice a rs.length cap],.int .i64 i] w fun e w'=>e=.returned (.int .i64 (limD (rs.map R.toRuleD) i))∧Below w.heap.size w w':=by
 have hl:=hD.len
 rcases rule_cases rs i with ⟨n,r,rfl,hr,hn,hat⟩|⟨hout,hat⟩
 ·obtain ⟨b,o,rfl,hb,hb1,hb2,c0,c1,c2,c3,c4,c5,c6,c7⟩:=hD.at hs n r hr
  by_cases hk:r.kind=1
  ·by_cases hz:1≤r.size∧r.size≤4
   ·rw [limD_good hat ⟨hk,hz⟩]
    rw [hk] at c1
    have h4:r.size=1∨r.size=2∨r.size=3∨r.size=4:=by omega
    clear hat hk hr hD hz
    rcases h4 with h4|h4|h4|h4<;>rw [h4] at c2 ⊢<;>clear h4
    all_goals (
     go_enter Tryd.func77,Tryd.ntmps77
     go_wp2_with (first|(go_at_call 30;first|(refine (l1In_t _ _ _ _ ?_).mono ?_;omega;rintro e w1 ⟨rfl,rfl⟩)|(refine (l1In_f _ _ _ _ ?_).mono ?_;omega;rintro e w1 ⟨rfl,rfl⟩)|(refine (l1In_any _ _ _ _).mono ?_;rintro e w1 ⟨rfl,rfl⟩))|(go_at_call 88;refine (l2Power_any _ (by omega) (by omega) _).mono ?_;rintro e w1 ⟨rfl,rfl⟩))
     go_ret
     exact ⟨rfl,(Since.b belS)⟩)
   ·rw [limD_bad hat (by simp [hz])]
    rw [hk] at c1
    clear hat hk hr hD
    go_enter Tryd.func77,Tryd.ntmps77
    go_wp2_with (first|(go_at_call 30;first|(refine (l1In_t _ _ _ _ ?_).mono ?_;omega;rintro e w1 ⟨rfl,rfl⟩)|(refine (l1In_f _ _ _ _ ?_).mono ?_;omega;rintro e w1 ⟨rfl,rfl⟩)|(refine (l1In_any _ _ _ _).mono ?_;rintro e w1 ⟨rfl,rfl⟩))|(go_at_call 88;refine (l2Power_any _ (by omega) (by omega) _).mono ?_;rintro e w1 ⟨rfl,rfl⟩))
    go_ret
    exact ⟨rfl,(Since.b belS)⟩
  ·rw [limD_bad hat (by simp [hk])]
   clear hat hr hD
   go_enter Tryd.func77,Tryd.ntmps77
   go_wp2_with (go_at_call 30;first|(refine (l1In_t _ _ _ _ ?_).mono ?_;omega;rintro e w1 ⟨rfl,rfl⟩)|(refine (l1In_f _ _ _ _ ?_).mono ?_;omega;rintro e w1 ⟨rfl,rfl⟩)|(refine (l1In_any _ _ _ _).mono ?_;rintro e w1 ⟨rfl,rfl⟩))
   go_ret
   exact ⟨rfl,(Since.b belS)⟩
 ·rw [limD_none hat]
  have hout':¬(0≤i∧i<rs.length):=by omega
  clear hat
  go_enter Tryd.func77,Tryd.ntmps77
  go_wp2_with (go_at_call 30;first|(refine (l1In_t _ _ _ _ ?_).mono ?_;omega;rintro e w1 ⟨rfl,rfl⟩)|(refine (l1In_f _ _ _ _ ?_).mono ?_;omega;rintro e w1 ⟨rfl,rfl⟩)|(refine (l1In_any _ _ _ _).mono ?_;rintro e w1 ⟨rfl,rfl⟩))
  go_ret
  exact ⟨rfl,(Since.b belS)⟩
end Go.Proofs.YtaammoodcgfhpaaDoor
namespace Go.Proofs.YtaammoodcgfhpaaDoor
open Go.RowKit
end Go.Proofs.YtaammoodcgfhpaaDoor
namespace Go.Proofs.YtaammoodcgfhpaaDoor
open Go.RowKit

end Go.Proofs.YtaammoodcgfhpaaDoor
