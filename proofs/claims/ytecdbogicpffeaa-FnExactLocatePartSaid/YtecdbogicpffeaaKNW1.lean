/-
 Steps of a path, as the program yields them.
-/
import Derived.RangeFuncBox
import Derived.RangeFuncFrom
import Derived.RangeFuncCalls
import Derived.RangeFuncLeaves
import Derived.Shelf.Abstract
import Derived.WalkKit
import Derived.OwnWalkIn
import Derived.TacticsInMore
import Derived.LoopNIn
import Derived.LoopIn
import Derived.Maps.AppendAt
import Derived.Test.YtecdbogicpffeaaKNW0
import Derived.Test.YtecdbogicpffeaaKNT2
set_option linter.unusedSimpArgs false
set_option linter.unusedVariables false
set_option linter.defProp false
set_option maxRecDepth 100000
set_option maxHeartbeats 4000000
namespace Go.Proofs.Ytecdbogicpffeaa.Eng
open Go Go.RowKit Go.Shelf
attribute [local go_sem] Oper.semAt_some

abbrev Tx:={ x:ByteArray // x.size≤1048576 }
theorem tx_of {L:List ByteArray} (h:∀ x∈L,x.size≤1048576):∃ Ls:List Tx,Ls.map Subtype.val=L:=⟨L.attach.map fun x=>⟨x.1,h x.1 x.2⟩,by simp⟩
def tx0:Tx:=⟨ByteArray.empty,by decide⟩
theorem stepsIt {s:ByteArray} (hs:s.size≤1048576) {n:Nat}{w:World}{C:CellR} (hC:Cok C w) {n₀ B Bp:Nat} (h0n:n₀≤w.heap.size) (hB:B<w.heap.size) (hBm:∀ k,w.heap.size≤k→¬MineB w B k) (hBp:Bp<w.heap.size) (hp:w.cell? ⟨Bp,0,none⟩=some (.string s)) {L:List Tx} (hLd:L.map Subtype.val=(splT s 47).drop 1) :
  SeqStopsK Fence.wide n Try.prog 185 #[.pointer (some ⟨Bp,0,none⟩)] (fun x:Tx=>#[Value.string x.1]) (KpW n₀ w.heap.size B) (fun xs=>xs=L) (fun pre=>pre <+: L) L.length w:=fun l J Jx W hW hJ hJx hY h0=>by
 have hp':=(hW.cell (p:=⟨Bp,0,none⟩) hBp).trans hp
 have hCW:=hC.below hW
 have hT:=splT_len s 47
 obtain ⟨m,hm⟩:∃ m,(splT s 47).length=m+1:=⟨(splT s 47).length - 1,by simp [splT]⟩
 have hS:=AC.rowTx (splI_c hs 47) (by omega) hCW (vs:=[.string s,.int .u8 47]) repL_v2
 have hLl:L.length=m:=by
  have:=congrArg List.length hLd
  rw [List.length_map,List.length_drop] at this
  omega
 have hL:∀ j (hj:j<L.length),(splT s 47)[1+j]?=some L[j].1:=fun j hj=>by
  rw [←List.getElem?_drop,←hLd,List.getElem?_map,List.getElem?_eq_getElem hj]
  rfl
 rw [hLl] at hY
 clear hLd
 generalize splT s 47=T at *
 rw [hm] at hS
 refine callsIn_of_wp Try.func185 rfl trivial ?_ rfl
 simp only [Try.ntmps185,List.size_toArray,List.length_cons,List.length_nil,Nat.reduceAdd,Nat.reduceSub,Array.replicate_succ,Array.replicate_zero,List.push_toArray,List.append_toArray,List.nil_append,List.cons_append]
 gi_wp2_with (refine ⟨trivial,(fun h=>by cases h),?_⟩;refine (callsIn_wide.2 hS).mono ?_;rintro e W1 ⟨g,cap,rfl,hg,hcap1,hcap2,hcells,hb1⟩)
 all_goals
  have hJ1:J [] W1:=hJ [] W W1 none h0 (below_grow0 hb1 (Nat.le_refl _)) (fun r e=>by cases e)
  have hg0:=hcells 0 _ (List.getElem?_eq_getElem (by omega))
  obtain ⟨og,hog,hogc⟩:=cells_of_cell hg0
  have hm1:¬MineB W1 B g:=fun ⟨n1,c1,h1⟩=>by
   refine hBm g (Nat.le_trans hW.size hg) ⟨n1,c1,?_⟩
   rw [←h1]
   exact ((World.cell?_of_block (a:=⟨B,0,none⟩) ((hb1.block B (Nat.lt_of_lt_of_le hB hW.size)).trans (hW.block B hB))).symm)
  gi_loopw [9] (fun i wr=>∃ k:Nat,k≤m∧i=.int .i64 k∧J (upto (fun j=>L[j]?.getD tx0) k) wr∧KpW n₀ w.heap.size B W1 wr)
   (fun i _=>m - (intOf i).toNat)
  case atStart=>exact ⟨0,Nat.zero_le _,rfl,hJ1,KpW.refl _ _ _ _⟩
  case round=>
   obtain ⟨k,hk,rfl,hJs,hnx⟩:=hrel
   have hrow:=hnx.new g og (Nat.le_trans hW.size hg) hog hogc hm1
   have hcx:k<m→wr.cell? ⟨g,1+k,none⟩=some (.string (L[k]?.getD tx0).1):=fun h=>by
    rw [World.cell?_of_block (w:=W1) (a:=⟨g,1+k,none⟩) (hrow.1.trans hog.symm)]
    refine hcells (1+k) _ ?_
    rw [hL k (by omega)]
    simp [show k<L.length by omega]
   by_cases hlt:k<m
   ·first
    | (exfalso;omega)
    | (have hkL:k<L.length:=by omega
       have hxk:L[k]?.getD tx0=L[k]:=by simp [hkL]
       obtain ⟨fn,tmps,assign,body,hy,hR⟩:=hY _ L[k] wr hJs (by rw [upto_length];exact hlt)
       try dsimp only at hy
       have hcx':=hcx hlt
       rw [hxk] at hcx'
       have hsucc:upto (fun j=>L[j]?.getD tx0) (k+1)=upto (fun j=>L[j]?.getD tx0) k++[L[k]]:=by rw [upto_succ,hxk]
       gi_wp2
       refine ⟨(fun h=>by cases h),hR.mono ?_⟩
       rintro e W3 (⟨rfl,hJ3,hk3⟩|⟨rfl,hJx3⟩)
       ·gi_wp2
        go_roundw
        case rel=>exact ⟨k+1,by omega,by simp,by rw [hsucc];exact hJ3,hnx.trans hk3⟩
        case measure=>simp [intOf];omega
       ·gi_wp2
        refine bodyPost_ret (results_none rfl _ _ _) rfl ?_
        exact ⟨⟨_,rfl⟩,.inr ⟨_,by
         have:=upto_take (zs:=L) (d:=tx0) (k:=k+1) (by omega)
         rw [hsucc] at this
         rw [this]
         exact List.take_prefix _ _,hJx3⟩⟩)
   ·obtain rfl:k=m:=by omega
    gi_wp2
    go_end0
    have hup:=upto_take (zs:=L) (d:=tx0) (k:=k) (by omega)
    rw [List.take_of_length_le (by omega)] at hup
    rw [hup] at hJs
    exact ⟨⟨_,rfl⟩,.inl hJs⟩
end Go.Proofs.Ytecdbogicpffeaa.Eng
