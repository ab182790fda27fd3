/-
 What the laws write over rows of values: the walk.
-/
import Derived.Test.YtomfggmmhkpeeaaGreatDoorKM6
set_option linter.unusedSimpArgs false
set_option linter.unusedVariables false
set_option linter.defProp false
set_option maxRecDepth 100000
set_option maxHeartbeats 4000000
namespace Go.Proofs.YtomfggmmhkpeeaaGreatDoor
open Go.RowKit

theorem markVs_nil (w:World) (a:Option Addr) (cap:Nat) (k:Int):Calls Tryz.prog 39 #[.slice a 0 cap,.int .i64 k] w fun e w'=>e=.returned (.int .i64 k)∧w'=w:=by
 go_enter Tryz.func39,Tryz.ntmps39
 go_wp2_with fail
 go_loopw [1,5] (fun kk i wr=>kk=.int .i64 k∧i=.int .i64 0∧wr=w) (fun _ _ _=>0)
 case atStart=>exact ⟨rfl,rfl,rfl⟩
 case round=>
  obtain ⟨rfl,rfl,rfl⟩:=hrel
  go_wp2_with fail
  go_ret
  exact ⟨rfl,rfl⟩
theorem markVs_some {l:List V} (ht:Eng.Thins l) (H:∀ n bs vs,V.mk n bs vs∈l→Eng.MVOK vs) {k:Int}{C:Eng.CellR}{w:World}{b o cap:Nat} (h0:0≤k) (hk:k+Eng.cntVs l≤4611686018427387904) (hm:l.length≤maxLen) (hcm:Eng.CokM C w) (hsp:Eng.RepSp C 3 (Eng.encWs l) b o) :
  Calls Tryz.prog 39 #[.slice (some ⟨b,o,none⟩) l.length cap,.int .i64 k] w fun e w'=>e=.returned (.int .i64 (k+Eng.cntVs l))∧Eng.MSt C l k b o w w' l.length:=by
 unfold maxLen at hm
 go_enter Tryz.func39,Tryz.ntmps39
 go_wp2_with fail
 go_loopw [1,5] (fun kk i wr=>∃ j:Nat,j≤l.length∧kk=.int .i64 (k+Eng.cntVs (l.take j))∧i=.int .i64 j∧Eng.MSt C l k b o w wr j) (fun _ i _=>l.length - (intOf i).toNat)
 case atStart=>exact ⟨0,Nat.zero_le _,by simp [Eng.cntVs],rfl,⟨Eng.BelowX.refl _ _ _,C,fun b o v h=>⟨_,_,h⟩,hcm,by simpa [Eng.mkVs] using hsp⟩⟩
 case round=>
  obtain ⟨j,hj,rfl,rfl,hd⟩:=hrel
  by_cases hlt:j<l.length
  ·obtain ⟨fw,Cj,c1,c2,c3⟩:=hd
   have hdr:l.drop j=l[j]::l.drop (j+1):=List.drop_eq_getElem_cons hlt
   have hlen:(Eng.mkVs (l.take j) k).length=j:=by rw [Eng.mkVs_len,List.length_take];omega
   have hmem:l[j]∈l:=List.getElem_mem hlt
   have htk:=Eng.cntVs_take hlt
   have hle:=Eng.cntVs_le (l:=l) (j+1)
   obtain ⟨n,bs,vs,hv⟩:∃ n bs vs,l[j]=V.mk n bs vs:=by
    cases hv:l[j] with
    | mk n bs vs=>exact ⟨n,bs,vs,rfl⟩
   have hth:=ht.get _ hmem
   rw [hv] at hmem hth htk
   rw [hdr,hv] at c3
   rw [totV] at htk
   have hce:=Eng.cntVs_eq vs
   unfold Eng.Thin at hth
   obtain ⟨F,f0,u1,u2,a0,a1,a2,r1,r2,up⟩:=Eng.spv_open c3
   rw [hlen] at a0 a1 a2
   obtain ⟨K,hK⟩:∃ K:Int,K=k+Eng.cntVs (l.take j):=⟨_,rfl⟩
   have hK0:0≤K:=by omega
   have hKb:K+1+bs.length+Eng.cntVs vs≤4611686018427387904:=by omega
   have hfin:k+(Eng.cntVs (l.take (j+1)):Int)=K+1+bs.length+Eng.cntVs vs:=by omega
   rw [←hK]
   have HK:=Lib.hid hK
   have Hf:=Lib.hid hfin
   clear hK hfin htk hle hce
   obtain ⟨g0,_,g0f⟩:=c2 _ _ _ a0
   obtain ⟨g1,_,_⟩:=c2 _ _ _ a1
   obtain ⟨g2,_,g2f⟩:=c2 _ _ _ a2
   have e1:(wr.setCell ⟨b,o+j*3,none⟩ (.int .i64 K)).cell? ⟨b,o+j*3+1,none⟩=some u1:=(World.cell?_setCell_other _ _ _ _ (by simp)).trans g1
   have e2:(wr.setCell ⟨b,o+j*3,none⟩ (.int .i64 K)).cell? ⟨b,o+j*3+2,none⟩=some u2:=(World.cell?_setCell_other _ _ _ _ (by simp)).trans g2
   have m1:Eng.CokM (Cj.on F) (wr.setCell ⟨b,o+j*3,none⟩ (.int .i64 K)):=fun b' o' v h=>by
    obtain ⟨q1,q2,q3⟩:=c2 _ _ _ h.1
    exact ⟨(World.cell?_setCell_other _ _ _ _ fun e=>f0 (by simp only [Addr.mk.injEq] at e;rw [e.1];exact h.2)).trans q1,q2,(World.frozen?_setCell ..).trans q3⟩
   have HB:=Eng.markB_p (k:=K+1) hth.1 (by omega) (by omega) m1 r1 r2
   have HV:Eng.MVOK vs:=H n bs vs hmem
   have hsz:w.heap.size≤(wr.setCell ⟨b,o+j*3,none⟩ (.int .i64 K)).heap.size:=by rw [World.setCell];simpa using fw.size
   have Hd:Hid (w.heap.size≤wr.heap.size∧Eng.BelowX (Eng.Zof C) w.heap.size w wr):=Lib.hid ⟨fw.size,fw⟩
   have zF:∀ b',Eng.Zof (Cj.on F) b'→F b':=fun b' ⟨_,_,h⟩=>h.2
   clear c3 hcm hsp g1 g2 hdr hmem H fw
   go_wp2_with (first|(go_at_call 17;refine HB.mono ?_;rintro e w2 ⟨rfl,hfw2,C2,q1,q2,q3,q4⟩;have e3:w2.cell? ⟨b,o+j*3+2,none⟩=some u2:=(World.cell?_of_block (w:=wr.setCell ⟨b,o+j*3,none⟩ (.int .i64 K)) (a:=⟨b,o+j*3+2,none⟩) (hfw2.block b (Eng.cell_lt e2) fun h=>f0 (zF b h))).trans e2)|(go_at_call 39;refine (Eng.markV_p (k:=K+1+bs.length) HV (by rcases hth.1 with rfl|h;exact .inl (by simp [Eng.mkB]);exact .inr h) (by omega) (by omega) q2 q3 q4).mono ?_;rintro e w3 ⟨rfl,hfw3,C3,p1,p2,p3,p4⟩))
   go_roundw
   case rel=>
    refine ⟨j+1,by omega,by rw [Hf.out],by go_num,?_⟩
    have hb1:∀ b' o' v,Cj b' o' v→b'<(wr.setCell ⟨b,o+j*3,none⟩ (.int .i64 K)).heap.size:=fun b' o' v h=>by
     have:=Eng.cell_lt (c2 _ _ _ h).1
     rw [World.setCell];simpa using this
    exact Eng.MSt.step hlt hv HK.out Hd.out.2 c1 c2 f0 a0 up (hfw2.le hsz) (fun b' o' v h hn=>hfw2.block b' (hb1 _ _ _ h) fun hz=>hn (zF _ hz)) (hfw3.le (Nat.le_trans hsz hfw2.size)) (fun b' o' v h hn=>hfw3.block b' (Nat.lt_of_lt_of_le (hb1 _ _ _ h) hfw2.size) fun ⟨o2,v2,hz⟩=>hn (zF _ (q1 _ _ _ hz))) q1 p1 p2 p3 p4
   case measure=>simp [intOf];omega
  ·obtain rfl:j=l.length:=by omega
   have Hd:=Lib.hid hd
   clear hd hcm hsp
   go_wp2_with fail
   go_ret
   refine ⟨?_,Hd.out⟩
   rw [List.take_length]
   rfl
theorem Eng.markVs_ok:∀ N:Nat,∀ {l:List V},SizeOf.sizeOf l≤N→Eng.Thins l→Eng.MVOK l
 | 0,[],h,_=>by simp at h
 | 0,_::_,h,_=>by simp only [List.cons.sizeOf_spec] at h;omega
 | N+1,l,h,ht=>fun k C u w h0 hk hcm hr=>by
  have hr':=hr
  unfold Eng.RepD at hr
  obtain ⟨a,cap,rfl,h2,h3,h4⟩:=hr
  rw [Eng.encWs_len] at h2 hr' ⊢
  cases l with
  | nil=>
   refine (markVs_nil w a cap k).mono fun e w' ⟨e1,e2⟩=>?_
   subst e2
   exact ⟨by rw [e1];simp [Eng.cntVs],Eng.BelowX.refl _ _ _,C,fun b o v h=>⟨_,_,h⟩,hcm,by rw [Eng.mkVs];exact hr'⟩
  | cons v l=>
   rcases h4 with h4|⟨b,o,rfl,hsp⟩
   ·simp [Eng.encWs] at h4
   ·refine (markVs_some ht (fun n bs vs hmem=>Eng.markVs_ok N (by have:=List.sizeOf_lt_of_mem hmem;simp only [V.mk.sizeOf_spec] at this;omega) (by have:=ht.get _ hmem;unfold Eng.Thin at this;exact this.2)) h0 hk (Nat.le_trans h2 h3) hcm hsp).mono fun e w' ⟨e1,e2⟩=>?_
    obtain ⟨fw,Cj,c1,c2,c3⟩:=e2
    refine ⟨e1,fw,Cj,c1,c2,?_⟩
    rw [List.take_length,List.drop_length,List.append_nil] at c3
    unfold Eng.RepD
    exact ⟨_,cap,by rw [Eng.encWs_len,Eng.mkVs_len],by rw [Eng.encWs_len,Eng.mkVs_len];exact h2,h3,.inr ⟨b,o,rfl,c3⟩⟩
end Go.Proofs.YtomfggmmhkpeeaaGreatDoor
