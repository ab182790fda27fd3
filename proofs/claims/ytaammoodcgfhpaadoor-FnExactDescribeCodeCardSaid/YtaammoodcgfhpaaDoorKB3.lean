/-
 Contract: IsValidRule of the program.

 Contract: IsValidRule of the reference.

 Contracts: IsValidDescription, twice; known, l7Rule.
-/
import Derived.Test.YtaammoodcgfhpaaDoorKBX
import Derived.Test.YtaammoodcgfhpaaDoorKP
import Derived.Test.YtaammoodcgfhpaaDoorKA
set_option linter.unusedSimpArgs false
set_option linter.unusedVariables false
set_option linter.defProp false
set_option maxRecDepth 100000
set_option maxHeartbeats 4000000
namespace Go.Proofs.YtaammoodcgfhpaaDoor
open Go.RowKit

theorem name_at {rs:List R}{j:Nat} (hj:j<(rs.map R.toRuleD).length) (hj':j<rs.length):((rs.map R.toRuleD)[j]).name=rs[j].name:=by simp

theorem validRuleI_any {w0 w:World}{lo:Nat} (hs:Since lo w0 w) {a:Option Addr}{cap M:Nat}{rs:List R} (hD:Ds w0 lo M a cap rs) (hM:M≤1048576) (i:Int) :
  Calls Tryd.prog 52 #[.agg #[.slice a rs.length cap],.int .i64 i] w fun e w'=>e=.returned (.bool (vRule (rs.map R.toRuleD) i))∧Below w.heap.size w w':=by
 have hlen:=hD.len
 have hcap:=hD.cap
 unfold maxLen at hcap
 obtain ⟨hcap1,hcap2⟩:=hcap
 rcases rule_cases rs i with ⟨n,r,rfl,hr,hn,hat⟩|⟨hout,hat⟩
 ·have hok:=hD.rule r (List.mem_of_getElem? hr)
  have hnm:=hok.name
  have hlk:=hok.lk
  obtain ⟨b,o,rfl,hb,hb1,hb2,c0,c1,c2,c3,c4,c5,c6,c7⟩:=hD.at hs n r hr
  have Hat:=Lib.hid hat
  have Hr:=Lib.hid hr
  clear hat hr
  rcases (show isName r.name=false∨isName r.name=true by cases isName r.name<;>simp) with hN|hN
  ·have Hb:=Lib.hid (vRule_no Hat.out fun h=>by have:=h.1;rw [hN] at this;exact Bool.noConfusion this)
   go_enter Tryd.func52,Tryd.ntmps52
   go_wp2_with (first|(go_at_call 70;first|(refine (hasRule_t _ _ _ _ _ ?_).mono ?_;omega;rintro e w1 ⟨rfl,hb1⟩;obtain ⟨hc1,hf1⟩:=bcell hb1)|(refine (hasRule_f _ _ _ _ _ ?_).mono ?_;omega;rintro e w1 ⟨rfl,hb1⟩;obtain ⟨hc1,hf1⟩:=bcell hb1)|(refine (hasRule_any _ _ _ _ _).mono ?_;rintro e w1 ⟨rfl,hb1⟩;obtain ⟨hc1,hf1⟩:=bcell hb1))|(go_at_call 71;refine (isNameI_any _ _ (by unfold maxLen;omega)).mono ?_;rintro e w2 ⟨rfl,hb3⟩;obtain ⟨hc2,hf2⟩:=bcell hb3;have hz1:w.heap.size<w1.heap.size:=(by have:=hb1.size;simp at this;omega);have hzk:∀ k,w.heap.size<w1.heap.size+k:=(fun k=>by omega)))
   go_ret
   exact ⟨ret_bool Hb.out.symm,(Since.b belS)⟩
  ·have HN:=Lib.hid hN
   rcases (show (r.little=true∧¬r.kind=1)∨(r.little=true∧r.kind=1)∨r.little=false by cases r.little<;>simp;omega) with h1|h1
   ·have e1:Hid ((r.kind != 1)=true∧(r.kind==1)=false):=⟨by rw [bne_iff_ne];exact h1.2,by rw [beq_eq_false_iff_ne];exact h1.2⟩
    have H1:=Lib.hid h1.1
    have Hb:=Lib.hid (vRule_no Hat.out fun h=>by have:=h.2.2.2;simp [kindL,h1.1,h1.2] at this)
    clear h1
    go_enter Tryd.func52,Tryd.ntmps52
    go_wp2_with (first|(go_at_call 70;first|(refine (hasRule_t _ _ _ _ _ ?_).mono ?_;omega;rintro e w1 ⟨rfl,hb1⟩;obtain ⟨hc1,hf1⟩:=bcell hb1)|(refine (hasRule_f _ _ _ _ _ ?_).mono ?_;omega;rintro e w1 ⟨rfl,hb1⟩;obtain ⟨hc1,hf1⟩:=bcell hb1)|(refine (hasRule_any _ _ _ _ _).mono ?_;rintro e w1 ⟨rfl,hb1⟩;obtain ⟨hc1,hf1⟩:=bcell hb1))|(go_at_call 71;refine (isNameI_any _ _ (by unfold maxLen;omega)).mono ?_;rintro e w2 ⟨rfl,hb3⟩;obtain ⟨hc2,hf2⟩:=bcell hb3;have hz1:w.heap.size<w1.heap.size:=(by have:=hb1.size;simp at this;omega);have hzk:∀ k,w.heap.size<w1.heap.size+k:=(fun k=>by omega);have h1:=H1.out;obtain ⟨e2,e3⟩:=e1.out))
    go_ret
    exact ⟨ret_bool Hb.out.symm,(Since.b belS)⟩
   ·-- what the little mark asks holds: two ways, joined behind the test
    have HL:Hid (!r.little || r.kind==1):=by
     unfold Hid
     rcases h1 with ⟨h1,h2⟩|h1
     ·simp [h2]
     ·simp [h1]
    have Hli:Hid ((r.little=true∧(r.kind != 1)=false∧(r.kind==1)=true)∨r.little=false):=by
     rcases h1 with ⟨h1,h2⟩|h1
     ·exact .inl ⟨h1,by rw [bne_eq_false_iff_eq];exact h2,by rw [beq_iff_eq];exact h2⟩
     ·exact .inr h1
    clear h1
    rcases Hli.out with h1|h1
    all_goals (
     have H1:=Lib.hid h1
     clear h1
     go_enter Tryd.func52,Tryd.ntmps52
     go_wp2_with (first|(go_at_call 70;first|(refine (hasRule_t _ _ _ _ _ ?_).mono ?_;omega;rintro e w1 ⟨rfl,hb1⟩;obtain ⟨hc1,hf1⟩:=bcell hb1)|(refine (hasRule_f _ _ _ _ _ ?_).mono ?_;omega;rintro e w1 ⟨rfl,hb1⟩;obtain ⟨hc1,hf1⟩:=bcell hb1)|(refine (hasRule_any _ _ _ _ _).mono ?_;rintro e w1 ⟨rfl,hb1⟩;obtain ⟨hc1,hf1⟩:=bcell hb1))|(go_at_call 71;refine (isNameI_any _ _ (by unfold maxLen;omega)).mono ?_;rintro e w2 ⟨rfl,hb3⟩;obtain ⟨hc2,hf2⟩:=bcell hb3;have hz1:w.heap.size<w1.heap.size:=(by have:=hb1.size;simp at this;omega);have hzk:∀ k,w.heap.size<w1.heap.size+k:=(fun k=>by omega);have h1:=H1.out;try obtain ⟨h1,e2,e3⟩:=h1))
     clear H1 h1 c0 c1 c2 c3 c4 c5 c6 c7
     have hRB:RBox w2 w1.heap.size r:=(RBox.new w1 r _).call hb3
     have hcd:w2.cell? ⟨w.heap.size,0,none⟩=some (.slice (some ⟨b,o,none⟩) rs.length cap):=
      cell_call (cell_alloc (cell_call (by simp [go_sem]) hb1) _) hb3
     have hbel2:Since w.heap.size w w2:=((((Since.self w).alloc _).call hb1).alloc _).call hb3
     clear hc1 hf1 hc2 hf2 hb3 hz1 hzk hb1
     generalize w1.heap.size=rb at *
     clear w1
     go_loopw [37] (fun i wr=>∃ k:Nat,k≤n∧(∀ j (hj:j<rs.length),j<k→rs[j].name≠r.name)∧i=.int .i64 k∧RBox wr rb r∧wr.cell? ⟨w.heap.size,0,none⟩=some (.slice (some ⟨b,o,none⟩) rs.length cap)∧Since w.heap.size w wr) (fun i _=>n - (intOf i).toNat)
     case atStart=>exact ⟨0,Nat.zero_le _,fun j _ h=>absurd h (Nat.not_lt_zero j),rfl,hRB,hcd,hbel2⟩
     case round=>
      clear hRB hcd hbel2
      obtain ⟨k,hk,hall,rfl,hRB,hcd,hbel⟩:=hrel
      have Hall:=Lib.hid hall
      clear hall
      have hsr:Since lo w0 wr:=hs.trans0 hbel
      by_cases hlt:k<n
      ·have hk2:k<rs.length:=by omega
       obtain ⟨_,_,d0,d1,d2,d3,d4,d5,d6,d7⟩:=hD.cellsAt hsr k rs[k] (getE? hk2)
       have r0:=hRB.c0
       have rlt:=hRB.lt
       by_cases he:rs[k].name=r.name
       ·have he':=seq_true he
        have Hb:=Lib.hid (vRule_no Hat.out fun h=>h.2.1 k (by simp;exact hk2) hlt (by simp [he]))
        clear he
        go_wp2_with fail
        go_ret
        exact ⟨ret_bool Hb.out.symm,(Since.b belS)⟩
       ·have he':=seq_false he
        have He:=Lib.hid he
        clear he
        go_wp2_with fail
        go_roundw
        case rel=>exact ⟨k+1,by omega,upto_succ (P:=fun j hj=>rs[j].name≠r.name) (fun _=>He.out) Hall.out,by go_num,hRB.alloc _,cell_alloc hcd _,hbel.alloc _⟩
        case measure=>simp [intOf];omega
      ·have HN2:Hid (∀ j (hj:j<(rs.map R.toRuleD).length),j<n→((rs.map R.toRuleD)[j]).name≠r.name):=fun j hj hjn=>by
        rw [name_at hj (by simpa using hj)];exact Hall.out j (by simpa using hj) (by omega)
       clear Hall
       obtain ⟨r0,r1,r2,r3,r4,r5,r6,r7⟩:=id hRB
       have hkids:=hok.kids
       go_wp2_with fail
       go_loop [50] (fun i=>∃ j:Nat,j≤r.kids.length∧(∀ q (hq:q<r.kids.length),q<j→0≤r.kids[q]∧r.kids[q]<n)∧i=.int .i64 j) (fun i=>r.kids.length - (intOf i).toNat)
       case atStart=>exact ⟨0,Nat.zero_le _,fun j _ h=>absurd h (Nat.not_lt_zero j),rfl⟩
       case round=>
        obtain ⟨j,hj,hall,rfl⟩:=hrel
        have Hall:=Lib.hid hall
        clear hall
        by_cases hlt2:j<r.kids.length
        ·obtain ⟨kb,ko,hka,_,_,hkc⟩:=Row.i64At hsr hkids j hlt2
         by_cases hrg:0≤r.kids[j]∧r.kids[j]<n
         ·obtain ⟨g1,g2⟩:=hrg
          have e1:decide (r.kids[j]<0)=false:=by simp;omega
          have e2:decide ((n:Int)≤r.kids[j])=false:=by simp;omega
          have Hok:=Lib.hid (And.intro g1 g2)
          clear g1 g2
          go_wp2_with fail
          go_round
          case rel=>exact ⟨j+1,by omega,upto_succ (P:=fun q hq=>0≤r.kids[q]∧r.kids[q]<n) (fun _=>Hok.out) Hall.out,by go_num⟩
          case measure=>simp [intOf];omega
         ·have Hb:=Lib.hid (vRule_no Hat.out fun h=>hrg (h.2.2.1 j hlt2))
          have h5:r.kids[j]<0∨(0≤r.kids[j]∧(n:Int)≤r.kids[j]):=by omega
          clear hrg
          rcases h5 with h5|⟨h5,h6⟩
          ·have e1:decide (r.kids[j]<0)=true:=by simp;omega
           clear h5
           go_wp2_with fail
           go_ret
           exact ⟨ret_bool Hb.out.symm,(Since.b belS)⟩
          ·have e1:decide (r.kids[j]<0)=false:=by simp;omega
           have e2:decide ((n:Int)≤r.kids[j])=true:=by simp;omega
           clear h5 h6
           go_wp2_with fail
           go_ret
           exact ⟨ret_bool Hb.out.symm,(Since.b belS)⟩
        ·have Hv:=Lib.hid ((vRule_kind Hat.out HN.out HN2.out fun q hq=>Hall.out q hq (by omega)).trans (by unfold kindL;rw [HL.out,Bool.and_true]))
         go_wp2_with (go_at_call 72;refine (validKind_any sinS hD hM r hok).mono ?_;rintro e w1 ⟨rfl,hb1⟩;obtain ⟨hc1,hf1⟩:=bcell hb1)
         go_ret
         exact ⟨ret_bool Hv.out.symm,(Since.b belS)⟩)
 ·rw [vRule_none hat]
  have hout':¬(0≤i∧i<rs.length):=by omega
  clear hat
  go_enter Tryd.func52,Tryd.ntmps52
  go_wp2_with (go_at_call 70;first|(refine (hasRule_t _ _ _ _ _ ?_).mono ?_;omega;rintro e w1 ⟨rfl,hb1⟩;obtain ⟨hc1,hf1⟩:=bcell hb1)|(refine (hasRule_f _ _ _ _ _ ?_).mono ?_;omega;rintro e w1 ⟨rfl,hb1⟩;obtain ⟨hc1,hf1⟩:=bcell hb1)|(refine (hasRule_any _ _ _ _ _).mono ?_;rintro e w1 ⟨rfl,hb1⟩;obtain ⟨hc1,hf1⟩:=bcell hb1))
  go_ret
  exact ⟨rfl,(Since.b belS)⟩
end Go.Proofs.YtaammoodcgfhpaaDoor
namespace Go.Proofs.YtaammoodcgfhpaaDoor
open Go.RowKit

theorem validRuleS_any {w0 w:World}{lo:Nat} (hs:Since lo w0 w) {a:Option Addr}{cap M:Nat}{rs:List R} (hD:Ds w0 lo M a cap rs) (hM:M≤1048576) (i:Int) :
  Calls Tryd.prog 44 #[.agg #[.slice a rs.length cap],.int .i64 i] w fun e w'=>e=.returned (.bool (vRule (rs.map R.toRuleD) i))∧Below w.heap.size w w':=by
 have hlen:=hD.len
 rcases rule_cases rs i with ⟨n,r,rfl,hr,hn,hat⟩|⟨hout,hat⟩
 ·have hok:=hD.rule r (List.mem_of_getElem? hr)
  have hnm:=hok.name
  have hlk:=hok.lk
  have hkids:=hok.kids
  obtain ⟨b,o,rfl,hb,hb1,hb2,c0,c1,c2,c3,c4,c5,c6,c7⟩:=hD.at hs n r hr
  have Hat:=Lib.hid hat
  clear hat hr
  go_enter Tryd.func44,Tryd.ntmps44
  go_wp2_with (go_at_call 30;first|(refine (l1In_t _ _ _ _ ?_).mono ?_;omega;rintro e w1 ⟨rfl,rfl⟩)|(refine (l1In_f _ _ _ _ ?_).mono ?_;omega;rintro e w1 ⟨rfl,rfl⟩)|(refine (l1In_any _ _ _ _).mono ?_;rintro e w1 ⟨rfl,rfl⟩))
  go_loopw [6] (fun i wr=>∃ k:Nat,k≤n∧(∀ j (hj:j<rs.length),j<k→rs[j].name≠r.name)∧i=.int .i64 k∧RBox wr (w.heap.size+1) r∧wr.cell? ⟨w.heap.size,0,none⟩=some (.slice (some ⟨b,o,none⟩) rs.length cap)∧Since w.heap.size w wr) (fun i _=>n - (intOf i).toNat)
  case atStart=>exact ⟨0,Nat.zero_le _,fun j _ h=>absurd h (Nat.not_lt_zero j),rfl,by have:=RBox.new (w.alloc (.cells #[.slice (some ⟨b,o,none⟩) rs.length cap] 30)) r 61;simpa using this,by simp [go_sem],((Since.self w).alloc _).alloc _⟩
  case round=>
   obtain ⟨k,hk,hall,rfl,hRB,hcd,hbel⟩:=hrel
   have Hall:=Lib.hid hall
   clear hall c0 c1 c2 c3 c4 c5 c6 c7
   have hsr:Since lo w0 wr:=hs.trans0 hbel
   by_cases hlt:k<n
   ·have hk2:k<rs.length:=by omega
    obtain ⟨_,_,d0,d1,d2,d3,d4,d5,d6,d7⟩:=hD.cellsAt hsr k rs[k] (getE? hk2)
    have q0:=Ext.cells d0
    have q1:=Ext.cells hRB.c0
    have q2:=Ext.cells hcd
    have Hcd:=Lib.hid hcd
    clear d0 d1 d2 d3 d4 d5 d6 d7 hcd
    by_cases he:rs[k].name=r.name
    ·have he':=seq_true he
     have Hb:=Lib.hid (vRule_no Hat.out fun h=>h.2.1 k (by simp;exact hk2) hlt (by simp [he]))
     clear he
     go_wp2_with fail
     refine wp_region_ext (by kernel_rfl) (by kernel_rfl) ?_;(repeat (go_big_quiet_step (fail)));refine wpQuiet_nil ?_;intro _ hw1;obtain ⟨nx,rfl⟩:=hw1
     go_wp2_with fail
     go_ret
     exact ⟨ret_bool Hb.out.symm,(Since.b belS)⟩
    ·have he':=seq_false he
     have He:=Lib.hid he
     clear he
     go_wp2_with fail
     refine wp_region_ext (by kernel_rfl) (by kernel_rfl) ?_;(repeat (go_big_quiet_step (fail)));refine wpQuiet_nil ?_;intro _ hw1;obtain ⟨nx,rfl⟩:=hw1
     go_wp2_with fail
     go_roundw
     case rel=>exact ⟨k+1,by omega,upto_succ (P:=fun j hj=>rs[j].name≠r.name) (fun _=>He.out) Hall.out,by go_num,hRB.ext nx,nx.cell Hcd.out,hbel.ext nx⟩
     case measure=>simp [intOf];omega
   ·have HN2:Hid (∀ j (hj:j<(rs.map R.toRuleD).length),j<n→((rs.map R.toRuleD)[j]).name≠r.name):=fun j hj hjn=>by
     rw [List.getElem_map];exact Hall.out j (by simpa using hj) (by omega)
    clear Hall
    obtain ⟨r0,r1,r2,r3,r4,r5,r6,r7⟩:=id hRB
    go_wp2_with fail
    go_loop [7] (fun i=>∃ j:Nat,j≤r.kids.length∧(∀ q (hq:q<r.kids.length),q<j→0≤r.kids[q]∧r.kids[q]<n)∧i=.int .i64 j) (fun i=>r.kids.length - (intOf i).toNat)
    case atStart=>exact ⟨0,Nat.zero_le _,fun j _ h=>absurd h (Nat.not_lt_zero j),rfl⟩
    case round=>
     obtain ⟨j,hj,hall,rfl⟩:=hrel
     have Hall:=Lib.hid hall
     clear hall
     by_cases hlt2:j<r.kids.length
     ·obtain ⟨kb,ko,hka,hkb1,hkb2,hkc⟩:=Row.i64At hsr hkids j hlt2
      by_cases hrg:0≤r.kids[j]∧r.kids[j]<n
      ·have hrg':0≤r.kids[j]∧r.kids[j]≤(n:Int) - 1:=by omega
       have Hok:=Lib.hid hrg
       clear hrg
       go_wp2_with (go_at_call 30;refine (l1In_t _ _ _ _ hrg').mono ?_;rintro e w1 ⟨rfl,rfl⟩)
       rw [←hka]
       refine ⟨⟨trivial,?rel0⟩,?measure⟩
       case rel0=>
        (repeat apply Exists.intro)
        refine ⟨⟨j+1,by omega,upto_succ (P:=fun q hq=>0≤r.kids[q]∧r.kids[q]<n) (fun _=>Hok.out) Hall.out,by go_num⟩,rfl⟩
       case measure=>simp [intOf];omega
      ·have Hb:=Lib.hid (vRule_no Hat.out fun h=>hrg (h.2.2.1 j hlt2))
       have hrg':¬(0≤r.kids[j]∧r.kids[j]≤(n:Int) - 1):=by omega
       clear hrg
       go_wp2_with (go_at_call 30;refine (l1In_f _ _ _ _ hrg').mono ?_;rintro e w1 ⟨rfl,rfl⟩)
       go_ret
       exact ⟨ret_bool Hb.out.symm,(Since.b belS)⟩
     ·rcases (show isName r.name=false∨isName r.name=true by cases isName r.name<;>simp) with hN|hN
      ·have Hb:=Lib.hid (vRule_no Hat.out fun h=>by have:=h.1;rw [hN] at this;exact Bool.noConfusion this)
       go_wp2_with (go_at_call 68;refine (isNameS_any _ _ (by unfold maxLen;omega)).mono ?_;rintro e w1 ⟨rfl,rfl⟩)
       go_ret
       exact ⟨ret_bool Hb.out.symm,(Since.b belS)⟩
      ·have Hv:=Lib.hid (vRule_kind Hat.out hN HN2.out fun q hq=>Hall.out q hq (by omega))
       go_wp2_with (first|(go_at_call 68;refine (isNameS_any _ _ (by unfold maxLen;omega)).mono ?_;rintro e w1 ⟨rfl,rfl⟩)|(go_at_call 69;refine (l4Kind_any sinS hD hM r hok).mono ?_;rintro e w1 ⟨rfl,hb1⟩;obtain ⟨hc1,hf1⟩:=bcell hb1))
       go_ret
       exact ⟨ret_bool Hv.out.symm,(Since.b belS)⟩
 ·rw [vRule_none hat]
  have hout':¬(0≤i∧i≤(rs.length:Int) - 1):=by omega
  clear hat
  go_enter Tryd.func44,Tryd.ntmps44
  go_wp2_with (go_at_call 30;first|(refine (l1In_t _ _ _ _ ?_).mono ?_;omega;rintro e w1 ⟨rfl,rfl⟩)|(refine (l1In_f _ _ _ _ ?_).mono ?_;omega;rintro e w1 ⟨rfl,rfl⟩)|(refine (l1In_any _ _ _ _).mono ?_;rintro e w1 ⟨rfl,rfl⟩))
  go_ret
  exact ⟨rfl,(Since.b belS)⟩
end Go.Proofs.YtaammoodcgfhpaaDoor
namespace Go.Proofs.YtaammoodcgfhpaaDoor
open Go.RowKit

theorem validS_any {w0 w:World}{lo:Nat} (hs:Since lo w0 w) {a:Option Addr}{cap M:Nat}{rs:List R} (hD:Ds w0 lo M a cap rs) (hM:M≤1048576) :
  Calls Tryd.prog 27 #[.agg #[.slice a rs.length cap]] w fun e w'=>e=.returned (.bool (vDesc (rs.map R.toRuleD)))∧Below w.heap.size w w':=by
 have hlen:=hD.len
 go_enter Tryd.func27,Tryd.ntmps27
 go_wp2_with fail
 go_loopw [3] (fun i wr=>∃ k:Nat,k≤rs.length∧(∀ j (hj:j<rs.length),j<k→vRule (rs.map R.toRuleD) (j:Int)=true)∧i=.int .i64 k∧wr.cell? ⟨w.heap.size,0,none⟩=some (.slice a rs.length cap)∧Since w.heap.size w wr) (fun i _=>rs.length - (intOf i).toNat)
 case atStart=>exact ⟨0,Nat.zero_le _,fun j _ h=>absurd h (Nat.not_lt_zero j),rfl,by simp [go_sem],(Since.self w).alloc _⟩
 case round=>
  obtain ⟨k,hk,hall,rfl,hcd,hbel⟩:=hrel
  have Hall:=Lib.hid hall
  clear hall
  have hsr:Since lo w0 wr:=hs.trans0 hbel
  by_cases hlt:k<rs.length
  ·rcases (show vRule (rs.map R.toRuleD) (k:Int)=false∨vRule (rs.map R.toRuleD) (k:Int)=true by cases vRule (rs.map R.toRuleD) (k:Int)<;>simp) with hN|hN
   ·have Hb:=Lib.hid (vDesc_no (D:=rs.map R.toRuleD) fun h=>by have:=h.2 k (by simpa using hlt);rw [hN] at this;exact Bool.noConfusion this)
    go_wp2_with (go_at_call 44;refine (validRuleS_any sinS hD hM _).mono ?_;rintro e w1 ⟨rfl,hb1⟩;obtain ⟨hc1,hf1⟩:=bcell hb1)
    go_ret
    exact ⟨ret_bool Hb.out.symm,(Since.b belS)⟩
   ·have HN:=Lib.hid hN
    go_wp2_with (go_at_call 44;refine (validRuleS_any sinS hD hM _).mono ?_;rintro e w1 ⟨rfl,hb1⟩;obtain ⟨hc1,hf1⟩:=bcell hb1)
    have hcd1:=cell_call hcd hb1
    go_roundw
    case rel=>exact ⟨k+1,by omega,upto_succ (P:=fun j hj=>vRule (rs.map R.toRuleD) (j:Int)=true) (fun _=>HN.out) Hall.out,by go_num,hcd1,hbel.call hb1⟩
    case measure=>simp [intOf];omega
  ·have Hv:Hid (vDesc (rs.map R.toRuleD)=(decide (1≤(rs.length:Int)) && decide ((rs.length:Int)≤24))):=by
    unfold Hid
    by_cases hl:1≤rs.length∧rs.length≤24
    ·rw [vDesc_yes ⟨by simpa using hl,fun j hj=>Hall.out j (by simpa using hj) (by simp at hj;omega)⟩]
     simp
     omega
    ·rw [vDesc_no fun h=>hl (by simpa using h.1)]
     simp
     omega
   go_wp2_with (go_at_call 30;refine (l1In_any _ _ _ _).mono ?_;rintro e w1 ⟨rfl,rfl⟩)
   go_ret
   exact ⟨ret_bool Hv.out.symm,(Since.b belS)⟩

theorem validI_any {w0 w:World}{lo:Nat} (hs:Since lo w0 w) {a:Option Addr}{cap M:Nat}{rs:List R} (hD:Ds w0 lo M a cap rs) (hM:M≤1048576) :
  Calls Tryd.prog 32 #[.agg #[.slice a rs.length cap]] w fun e w'=>e=.returned (.bool (vDesc (rs.map R.toRuleD)))∧Below w.heap.size w w':=by
 have hlen:=hD.len
 by_cases hl:1≤rs.length∧rs.length≤24
 ·obtain ⟨hl1,hl2⟩:=hl
  go_enter Tryd.func32,Tryd.ntmps32
  go_wp2_with (go_at_call 36;first|(refine (inRange_t _ _ _ _ ?_).mono ?_;omega;rintro e w1 ⟨rfl,rfl⟩)|(refine (inRange_f _ _ _ _ ?_).mono ?_;omega;rintro e w1 ⟨rfl,rfl⟩)|(refine (inRange_any _ _ _ _).mono ?_;rintro e w1 ⟨rfl,rfl⟩))
  go_loopw [12] (fun i wr=>∃ k:Nat,k≤rs.length∧(∀ j (hj:j<rs.length),j<k→vRule (rs.map R.toRuleD) (j:Int)=true)∧i=.int .i64 k∧wr.cell? ⟨w.heap.size,0,none⟩=some (.slice a rs.length cap)∧Since w.heap.size w wr) (fun i _=>rs.length - (intOf i).toNat)
  case atStart=>exact ⟨0,Nat.zero_le _,fun j _ h=>absurd h (Nat.not_lt_zero j),rfl,by simp [go_sem],(Since.self w).alloc _⟩
  case round=>
   obtain ⟨k,hk,hall,rfl,hcd,hbel⟩:=hrel
   have Hall:=Lib.hid hall
   clear hall
   have hsr:Since lo w0 wr:=hs.trans0 hbel
   by_cases hlt:k<rs.length
   ·rcases (show vRule (rs.map R.toRuleD) (k:Int)=false∨vRule (rs.map R.toRuleD) (k:Int)=true by cases vRule (rs.map R.toRuleD) (k:Int)<;>simp) with hN|hN
    ·have Hb:=Lib.hid (vDesc_no (D:=rs.map R.toRuleD) fun h=>by have:=h.2 k (by simpa using hlt);rw [hN] at this;exact Bool.noConfusion this)
     go_wp2_with (go_at_call 52;refine (validRuleI_any sinS hD hM _).mono ?_;rintro e w1 ⟨rfl,hb1⟩;obtain ⟨hc1,hf1⟩:=bcell hb1)
     go_ret
     exact ⟨ret_bool Hb.out.symm,(Since.b belS)⟩
    ·have HN:=Lib.hid hN
     go_wp2_with (go_at_call 52;refine (validRuleI_any sinS hD hM _).mono ?_;rintro e w1 ⟨rfl,hb1⟩;obtain ⟨hc1,hf1⟩:=bcell hb1)
     have hcd1:=cell_call hcd hb1
     go_roundw
     case rel=>exact ⟨k+1,by omega,upto_succ (P:=fun j hj=>vRule (rs.map R.toRuleD) (j:Int)=true) (fun _=>HN.out) Hall.out,by go_num,hcd1,hbel.call hb1⟩
     case measure=>simp [intOf];omega
   ·have Hv:=Lib.hid (vDesc_yes (D:=rs.map R.toRuleD) ⟨by simpa using And.intro hl1 hl2,fun j hj=>Hall.out j (by simpa using hj) (by simp at hj;omega)⟩)
    go_wp2_with fail
    go_ret
    exact ⟨ret_bool Hv.out.symm,(Since.b belS)⟩
 ·have Hb:=Lib.hid (vDesc_no (D:=rs.map R.toRuleD) fun h=>hl (by simpa using h.1))
  go_enter Tryd.func32,Tryd.ntmps32
  go_wp2_with (go_at_call 36;first|(refine (inRange_t _ _ _ _ ?_).mono ?_;omega;rintro e w1 ⟨rfl,rfl⟩)|(refine (inRange_f _ _ _ _ ?_).mono ?_;omega;rintro e w1 ⟨rfl,rfl⟩)|(refine (inRange_any _ _ _ _).mono ?_;rintro e w1 ⟨rfl,rfl⟩))
  go_ret
  exact ⟨ret_bool Hb.out.symm,(Since.b belS)⟩
noncomputable def vKnown (D:List RuleD) (i:Int):Bool:=vDesc D && decide (0≤i∧i<D.length)
theorem vKnown_no1 {D:List RuleD}{i:Int} (h:vDesc D=false):vKnown D i=false:=by simp [vKnown,h]
theorem vKnown_no2 {D:List RuleD}{i:Int} (h:¬(0≤i∧i<D.length)):vKnown D i=false:=by simp [vKnown,h]
theorem vKnown_yes {D:List RuleD}{i:Int} (h:vDesc D=true) (h2:0≤i∧i<D.length):vKnown D i=true:=by simp [vKnown,h,h2]

theorem known_any {w0 w:World}{lo:Nat} (hs:Since lo w0 w) {a:Option Addr}{cap M:Nat}{rs:List R} (hD:Ds w0 lo M a cap rs) (hM:M≤1048576) (i:Int) :
  Calls Tryd.prog 53 #[.agg #[.slice a rs.length cap],.int .i64 i] w fun e w'=>e=.returned (.bool (vKnown (rs.map R.toRuleD) i))∧Below w.heap.size w w':=by
 have hlen:=hD.len
 rcases (show vDesc (rs.map R.toRuleD)=false∨vDesc (rs.map R.toRuleD)=true by cases vDesc (rs.map R.toRuleD)<;>simp) with hv|hv
 ·have Hb:=Lib.hid (vKnown_no1 (i:=i) hv)
  go_enter Tryd.func53,Tryd.ntmps53
  go_wp2_with (go_at_call 32;refine (validI_any sinS hD hM).mono ?_;rintro e w1 ⟨rfl,hb1⟩;obtain ⟨hc1,hf1⟩:=bcell hb1)
  go_ret
  exact ⟨ret_bool Hb.out.symm,(Since.b belS)⟩
 ·by_cases h2:0≤i∧i<rs.length
  ·have Hb:=Lib.hid (vKnown_yes (D:=rs.map R.toRuleD) (i:=i) hv (by simpa using h2))
   go_enter Tryd.func53,Tryd.ntmps53
   go_wp2_with (first|(go_at_call 32;refine (validI_any sinS hD hM).mono ?_;rintro e w1 ⟨rfl,hb1⟩;obtain ⟨hc1,hf1⟩:=bcell hb1)|(go_at_call 70;refine (hasRule_t _ _ _ _ _ h2).mono ?_;rintro e w2 ⟨rfl,hb2⟩))
   go_ret
   exact ⟨ret_bool Hb.out.symm,(Since.b belS)⟩
  ·have Hb:=Lib.hid (vKnown_no2 (D:=rs.map R.toRuleD) (i:=i) (by simpa using h2))
   go_enter Tryd.func53,Tryd.ntmps53
   go_wp2_with (first|(go_at_call 32;refine (validI_any sinS hD hM).mono ?_;rintro e w1 ⟨rfl,hb1⟩;obtain ⟨hc1,hf1⟩:=bcell hb1)|(go_at_call 70;refine (hasRule_f _ _ _ _ _ h2).mono ?_;rintro e w2 ⟨rfl,hb2⟩))
   go_ret
   exact ⟨ret_bool Hb.out.symm,(Since.b belS)⟩

theorem l7Rule_any {w0 w:World}{lo:Nat} (hs:Since lo w0 w) {a:Option Addr}{cap M:Nat}{rs:List R} (hD:Ds w0 lo M a cap rs) (hM:M≤1048576) (i:Int) :
  Calls Tryd.prog 45 #[.agg #[.slice a rs.length cap],.int .i64 i] w fun e w'=>e=.returned (.bool (vKnown (rs.map R.toRuleD) i))∧Below w.heap.size w w':=by
 have hlen:=hD.len
 by_cases h2:0≤i∧i≤(rs.length:Int) - 1
 ·rcases (show vDesc (rs.map R.toRuleD)=false∨vDesc (rs.map R.toRuleD)=true by cases vDesc (rs.map R.toRuleD)<;>simp) with hv|hv
  ·have Hb:=Lib.hid (vKnown_no1 (i:=i) hv)
   go_enter Tryd.func45,Tryd.ntmps45
   go_wp2_with (first|(go_at_call 30;refine (l1In_t _ _ _ _ h2).mono ?_;rintro e w2 ⟨rfl,rfl⟩)|(go_at_call 27;refine (validS_any sinS hD hM).mono ?_;rintro e w1 ⟨rfl,hb1⟩;obtain ⟨hc1,hf1⟩:=bcell hb1))
   go_ret
   exact ⟨ret_bool Hb.out.symm,(Since.b belS)⟩
  ·have Hb:=Lib.hid (vKnown_yes (D:=rs.map R.toRuleD) (i:=i) hv (by simp;omega))
   go_enter Tryd.func45,Tryd.ntmps45
   go_wp2_with (first|(go_at_call 30;refine (l1In_t _ _ _ _ h2).mono ?_;rintro e w2 ⟨rfl,rfl⟩)|(go_at_call 27;refine (validS_any sinS hD hM).mono ?_;rintro e w1 ⟨rfl,hb1⟩;obtain ⟨hc1,hf1⟩:=bcell hb1))
   go_ret
   exact ⟨ret_bool Hb.out.symm,(Since.b belS)⟩
 ·have Hb:=Lib.hid (vKnown_no2 (D:=rs.map R.toRuleD) (i:=i) (by simp;omega))
  go_enter Tryd.func45,Tryd.ntmps45
  go_wp2_with (go_at_call 30;refine (l1In_f _ _ _ _ h2).mono ?_;rintro e w2 ⟨rfl,rfl⟩)
  go_ret
  exact ⟨ret_bool Hb.out.symm,(Since.b belS)⟩

end Go.Proofs.YtaammoodcgfhpaaDoor
