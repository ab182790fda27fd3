/-
 The laws' helpers.

 The laws' helpers: rules, descriptions.

 The laws' helpers: descriptions.

 The laws' helpers: sizes of flat slices.

 The laws' helpers: sizes of slices of strings.

 The laws' helpers: the size of a rule.

 The laws' helpers: the size of a description.

 The laws' helpers: what is equal to itself.
-/
import Derived.Test.YtaammoodcgfhpaaDoorKTy
import Derived.Test.YtaammoodcgfhpaaDoorKN0
import Derived.Test.YtaammoodcgfhpaaDoorKE30
set_option linter.unusedSimpArgs false
set_option linter.unusedVariables false
set_option linter.defProp false
set_option maxRecDepth 100000
set_option maxHeartbeats 4000000
namespace Go.Proofs.YtaammoodcgfhpaaDoor.Eng
open Go Go.RowKit

private def tyF:=ai (ai (ai tg54 (ai tg22 tg26)) (ai tg28 (ai tg39 tg24))) (ai (ai tg30 (ai tg56 tg61)) (ai (ai tg3 tg4) (ai tg5 tg9)))
theorem toByteS_i {l:List UInt8} (hl:l.length≤1048576):ACI Tryd.prog 49 [.d (encB l)] (encB l):=by
 have h0:List.map A.d (List.replicate l.length [D.v (Value.int IntKind.u8 0)]).flatten=arrC (fun c=>[uD c]) [uD 0] l 0:=arrC_0.symm
 refine calls_bodyI Tryd.func49 rfl Tryd.call49 Tryd.ntmps49 (by simp) (by simp [ArgsOk]) fun en hsz hcok hX hks=>?_;refine enS ?_
 (repeat (first|refine walkS ?_|(refine ow_make ?_ dsS rfl rfl ?_ te54 tr5 tz5 ?_;exact trS;omega;refine stS0 ?_)))
 rw [h0]
 refine aw_loopS [0,2,3] (fun _ _=>[]) (fun _ k=>[(4,.d (iD (k:Nat)))]) [16] (fun _ k=>[(16,some (arrC (fun c=>[uD c]) [uD 0] l k))]) [] (fun _ _=>[]) (fun k=>k≤l.length) (fun k=>l.length - k) (0) hks (fun _=>rfl) (Nat.zero_le _) wkS ?_;intro x hx;refine headS ?_
 (repeat (first|refine walkS ?_|(refine ow_make ?_ dsS rfl rfl ?_ te54 tr5 tz5 ?_;exact trS;omega;refine stS0 ?_)))
 refine aw_condS rfl (fun hk=>?_) (fun hk=>?_)
 ·have hA:=arrC_len (f:=fun c:UInt8=>[uD c]) (zero:=[uD 0]) (l:=l) (k:=x) (z:=1) (fun _ _=>rfl) rfl hx
  have hB:splice (arrC (fun c=>[uD c]) [uD 0] l x) [A.d (uD (l[x]'(by omega)))] (x*1)=arrC (fun c=>[uD c]) [uD 0] l (x+1):=arrC_step (f:=fun c:UInt8=>[uD c]) (z:=1) (fun _ _=>rfl) rfl (show x<l.length by omega)
  (repeat (first|refine ctlS ?_|(refine ol_go ?_ (fun K1 hK1=>?_);exact trS;refine evS ?_;(try rw [hB]);refine hK1 _ _ ?_;clear hK1 K1)|(refine ow_go ?_ dsS (fun K1 hK1=>?_);exact trS;refine evS ?_;(try rw [hB]);refine hK1 _ ?_;clear hK1 K1)|refine skipS ?_|(refine ow_make ?_ dsS rfl rfl ?_ te54 tr5 tz5 ?_;exact trS;omega;refine stS0 ?_)))
  refine ⟨x+1,by omega,by omega,?_⟩
  exact wkS
 ·have hx':x=l.length:=by omega
  subst hx'
  (repeat (first|refine walkS ?_|(refine ow_make ?_ dsS rfl rfl ?_ te54 tr5 tz5 ?_;exact trS;omega;refine stS0 ?_)))
  refine aw_freezeY (.iv (fun b=>en.w.heap.size≤b) (.sl 1 (l.map fun c=>[uD c]))) 2 16 1 l.length (l.map fun c=>[uD c]) rfl (by rw [←arrC_all];rfl) (by simp) (by simp) hks (by decide) (freeze_new hX fun a=>.cons .v .nil) ?_
  (refine rtS Tryd.results49 ?_;exact ⟨_,_,.inl ⟨rfl,rfl⟩,List.nodup_nil,rfl⟩)
theorem toIntS_i {l:List Int} (hl:l.length≤1048576):ACI Tryd.prog 51 [.d (encI l)] (encI l):=by
 have h0:List.map A.d (List.replicate l.length [D.v (Value.int IntKind.i64 0)]).flatten=arrC (fun c=>[iD c]) [iD 0] l 0:=arrC_0.symm
 refine calls_bodyI Tryd.func51 rfl Tryd.call51 Tryd.ntmps51 (by simp) (by simp [ArgsOk]) fun en hsz hcok hX hks=>?_;refine enS ?_
 (repeat (first|refine walkS ?_|(refine ow_make ?_ dsS rfl rfl ?_ te39 tr3 tz3 ?_;exact trS;omega;refine stS0 ?_)))
 rw [h0]
 refine aw_loopS [0,2,3] (fun _ _=>[]) (fun _ k=>[(4,.d (iD (k:Nat)))]) [16] (fun _ k=>[(16,some (arrC (fun c=>[iD c]) [iD 0] l k))]) [] (fun _ _=>[]) (fun k=>k≤l.length) (fun k=>l.length - k) (0) hks (fun _=>rfl) (Nat.zero_le _) wkS ?_;intro x hx;refine headS ?_
 (repeat (first|refine walkS ?_|(refine ow_make ?_ dsS rfl rfl ?_ te39 tr3 tz3 ?_;exact trS;omega;refine stS0 ?_)))
 refine aw_condS rfl (fun hk=>?_) (fun hk=>?_)
 ·have hA:=arrC_len (f:=fun c:Int=>[iD c]) (zero:=[iD 0]) (l:=l) (k:=x) (z:=1) (fun _ _=>rfl) rfl hx
  have hB:splice (arrC (fun c=>[iD c]) [iD 0] l x) [A.d (iD (l[x]'(by omega)))] (x*1)=arrC (fun c=>[iD c]) [iD 0] l (x+1):=arrC_step (f:=fun c:Int=>[iD c]) (z:=1) (fun _ _=>rfl) rfl (show x<l.length by omega)
  (repeat (first|refine ctlS ?_|(refine ol_go ?_ (fun K1 hK1=>?_);exact trS;refine evS ?_;(try rw [hB]);refine hK1 _ _ ?_;clear hK1 K1)|(refine ow_go ?_ dsS (fun K1 hK1=>?_);exact trS;refine evS ?_;(try rw [hB]);refine hK1 _ ?_;clear hK1 K1)|refine skipS ?_|(refine ow_make ?_ dsS rfl rfl ?_ te39 tr3 tz3 ?_;exact trS;omega;refine stS0 ?_)))
  refine ⟨x+1,by omega,by omega,?_⟩
  exact wkS
 ·have hx':x=l.length:=by omega
  subst hx'
  (repeat (first|refine walkS ?_|(refine ow_make ?_ dsS rfl rfl ?_ te39 tr3 tz3 ?_;exact trS;omega;refine stS0 ?_)))
  refine aw_freezeY (.iv (fun b=>en.w.heap.size≤b) (.sl 1 (l.map fun c=>[iD c]))) 2 16 1 l.length (l.map fun c=>[iD c]) rfl (by rw [←arrC_all];rfl) (by simp) (by simp) hks (by decide) (freeze_new hX fun a=>.cons .v .nil) ?_
  (refine rtS Tryd.results51 ?_;exact ⟨_,_,.inl ⟨rfl,rfl⟩,List.nodup_nil,rfl⟩)
theorem toStringS_i {l:List ByteArray} (hl:l.length≤1048576):ACI Tryd.prog 50 [.d (encS l)] (encS l):=by
 have h0:List.map A.d (List.replicate l.length [D.v (Value.string ByteArray.empty)]).flatten=arrC (fun c=>[sD c]) [sD ByteArray.empty] l 0:=arrC_0.symm
 refine calls_bodyI Tryd.func50 rfl Tryd.call50 Tryd.ntmps50 (by simp) (by simp [ArgsOk]) fun en hsz hcok hX hks=>?_;refine enS ?_
 (repeat (first|refine walkS ?_|(refine ow_make ?_ dsS rfl rfl ?_ te26 tr9 tz9 ?_;exact trS;omega;refine stS0 ?_)))
 rw [h0]
 refine aw_loopS [0,2,3] (fun _ _=>[]) (fun _ k=>[(4,.d (iD (k:Nat)))]) [16] (fun _ k=>[(16,some (arrC (fun c=>[sD c]) [sD ByteArray.empty] l k))]) [] (fun _ _=>[]) (fun k=>k≤l.length) (fun k=>l.length - k) (0) hks (fun _=>rfl) (Nat.zero_le _) wkS ?_;intro x hx;refine headS ?_
 (repeat (first|refine walkS ?_|(refine ow_make ?_ dsS rfl rfl ?_ te26 tr9 tz9 ?_;exact trS;omega;refine stS0 ?_)))
 refine aw_condS rfl (fun hk=>?_) (fun hk=>?_)
 ·have hA:=arrC_len (f:=fun c:ByteArray=>[sD c]) (zero:=[sD ByteArray.empty]) (l:=l) (k:=x) (z:=1) (fun _ _=>rfl) rfl hx
  have hB:splice (arrC (fun c=>[sD c]) [sD ByteArray.empty] l x) [A.d (sD (l[x]'(by omega)))] (x*1)=arrC (fun c=>[sD c]) [sD ByteArray.empty] l (x+1):=arrC_step (f:=fun c:ByteArray=>[sD c]) (z:=1) (fun _ _=>rfl) rfl (show x<l.length by omega)
  (repeat (first|refine ctlS ?_|(refine ol_go ?_ (fun K1 hK1=>?_);exact trS;refine evS ?_;(try rw [hB]);refine hK1 _ _ ?_;clear hK1 K1)|(refine ow_go ?_ dsS (fun K1 hK1=>?_);exact trS;refine evS ?_;(try rw [hB]);refine hK1 _ ?_;clear hK1 K1)|refine skipS ?_|(refine ow_make ?_ dsS rfl rfl ?_ te26 tr9 tz9 ?_;exact trS;omega;refine stS0 ?_)))
  refine ⟨x+1,by omega,by omega,?_⟩
  exact wkS
 ·have hx':x=l.length:=by omega
  subst hx'
  (repeat (first|refine walkS ?_|(refine ow_make ?_ dsS rfl rfl ?_ te26 tr9 tz9 ?_;exact trS;omega;refine stS0 ?_)))
  refine aw_freezeY (.iv (fun b=>en.w.heap.size≤b) (.sl 1 (l.map fun c=>[sD c]))) 2 16 1 l.length (l.map fun c=>[sD c]) rfl (by rw [←arrC_all];rfl) (by simp) (by simp) hks (by decide) (freeze_new hX fun a=>.cons .v .nil) ?_
  (refine rtS Tryd.results50 ?_;exact ⟨_,_,.inl ⟨rfl,rfl⟩,List.nodup_nil,rfl⟩)
end Go.Proofs.YtaammoodcgfhpaaDoor.Eng
namespace Go.Proofs.YtaammoodcgfhpaaDoor.Eng
open Go Go.RowKit

def encRcI (p:Nat→Prop) (r:RuleD):List Eng.D:=[sD r.name,iD r.kind,iD r.size,bD r.little,.iv p (encB r.bytes),.iv p (encS r.names),.iv p (encI r.tags),.iv p (encI r.kids)]
theorem encRcI_on (p:Nat→Prop) (r:RuleD):OnSL p (encRcI p r) (encRc r):=.cons .v (.cons .v (.cons .v (.cons .v (.cons .iv (.cons .iv (.cons .iv (.cons .iv .nil)))))))
theorem encRcI_anti (r:RuleD):∀ m n,m≤n→∀ (C:CellR) u,RepD C (.agg (encRcI (fun b=>n≤b) r)) u→RepD C (.agg (encRcI (fun b=>m≤b) r)) u:=
 anti_agg fun m n hmn C us k=>repL_semv (fun _ k=>repL_semv (fun _ k=>repL_semv (fun _ k=>repL_semv (fun _ k=>repL_semi hmn (fun _ k=>repL_semi hmn (fun _ k=>repL_semi hmn (fun _ k=>repL_semi hmn (fun _ k=>k) k) k) k) k) k) k) k) k
theorem encRcI_len (p:Nat→Prop) (r:RuleD):(encRcI p r).length=8:=rfl
theorem RB.mono {M M':Nat}{r:RuleD} (h:RB M r) (k:M≤M'):RB M' r:=⟨Nat.le_trans h.name k,Nat.le_trans h.lb k,Nat.le_trans h.ln k,Nat.le_trans h.lt k,Nat.le_trans h.lk k,fun s hs=>Nat.le_trans (h.nm s hs) k⟩

theorem toRule_i {M:Nat}{r:RuleD} (hr:RB M r) (hM:M≤1048576):ACN Tryd.prog 31 [.d (encR r)] (fun n=>.agg (encRcI (fun b=>n≤b) r)):=by
 have h1:=hr.lb
 have h2:=hr.ln
 have h3:=hr.lt
 have h4:=hr.lk
 refine calls_bodyI Tryd.func31 rfl Tryd.call31 Tryd.ntmps31 (by simp) (by simp [ArgsOk]) fun en hsz hcok hX hks=>?_;refine enS ?_
 (repeat (first|refine walkS ?_|(refine ow_callFA ?_ dsS rfl (toByteS_i (l:=r.bytes) (by omega)) ?_;exact trS;simp only [St.set,List.map_cons,List.map_nil])|(refine ol_callN ?_ rfl (toByteS_i (l:=r.bytes) (by omega)) ?_;exact trS;simp only [St.set,List.map_cons,List.map_nil])|(refine ow_callFA ?_ dsS rfl (toStringS_i (l:=r.names) (by omega)) ?_;exact trS;simp only [St.set,List.map_cons,List.map_nil])|(refine ol_callN ?_ rfl (toStringS_i (l:=r.names) (by omega)) ?_;exact trS;simp only [St.set,List.map_cons,List.map_nil])|(refine ow_callFA ?_ dsS rfl (toIntS_i (l:=r.tags) (by omega)) ?_;exact trS;simp only [St.set,List.map_cons,List.map_nil])|(refine ol_callN ?_ rfl (toIntS_i (l:=r.tags) (by omega)) ?_;exact trS;simp only [St.set,List.map_cons,List.map_nil])|(refine ow_callFA ?_ dsS rfl (toIntS_i (l:=r.kids) (by omega)) ?_;exact trS;simp only [St.set,List.map_cons,List.map_nil])|(refine ol_callN ?_ rfl (toIntS_i (l:=r.kids) (by omega)) ?_;exact trS;simp only [St.set,List.map_cons,List.map_nil])))
 (refine rtS Tryd.results31 ?_;exact ⟨_,_,.inl ⟨rfl,rfl⟩,List.nodup_nil,rfl⟩)
theorem toRuleS_i {M:Nat}{l:List RuleD} (hl:DB M l) (hM:M≤1048576):ACI Tryd.prog 17 [.d (encDs l)] (encDs l):=by
 have hl1:=hl.len
 refine calls_bodyI Tryd.func17 rfl Tryd.call17 Tryd.ntmps17 (by simp) (by simp [ArgsOk]) fun en hsz hcok hX hks=>?_;refine enS ?_
 obtain ⟨Z,hZl,h0⟩:∃ Z:List D,Z.length=8∧List.map A.d (List.replicate l.length [D.v (Value.string ByteArray.empty),D.v (Value.int IntKind.i64 0),D.v (Value.int IntKind.i64 0),D.v (Value.bool false),D.v (Value.slice none 0 0),D.v (Value.slice none 0 0),D.v (Value.slice none 0 0),D.v (Value.slice none 0 0)]).flatten=arrC (encRcI (fun b=>en.w.heap.size≤b)) Z l 0:=⟨[D.v (Value.string ByteArray.empty),D.v (Value.int IntKind.i64 0),D.v (Value.int IntKind.i64 0),D.v (Value.bool false),D.v (Value.slice none 0 0),D.v (Value.slice none 0 0),D.v (Value.slice none 0 0),D.v (Value.slice none 0 0)],rfl,arrC_0.symm⟩
 (repeat (first|refine walkS ?_|(refine ow_make ?_ dsS rfl rfl ?_ te28 tr61 tz61 ?_;exact trS;omega;refine stS0 ?_)))
 rw [h0]
 refine aw_loopS [0,2,3] (fun _ _=>[]) (fun _ k=>[(4,.d (iD (k:Nat)))]) [16] (fun _ k=>[(16,some (arrC (encRcI (fun b=>en.w.heap.size≤b)) Z l k))]) [] (fun _ _=>[]) (fun k=>k≤l.length) (fun k=>l.length - k) (0) hks (fun _=>rfl) (Nat.zero_le _) wkS ?_;intro x hx;refine headS ?_
 (repeat (first|refine walkS ?_|(refine ow_make ?_ dsS rfl rfl ?_ te28 tr61 tz61 ?_;exact trS;omega;refine stS0 ?_)))
 refine aw_condS rfl (fun hk=>?_) (fun hk=>?_)
 ·have hA:=arrC_len (f:=encRcI (fun b=>en.w.heap.size≤b)) (zero:=Z) (l:=l) (k:=x) (z:=8) (fun _ _=>rfl) hZl hx
  have hB:splice (arrC (encRcI (fun b=>en.w.heap.size≤b)) Z l x) [A.d (sD (l[x]'(by omega)).name),A.d (iD (l[x]'(by omega)).kind),A.d (iD (l[x]'(by omega)).size),A.d (bD (l[x]'(by omega)).little),A.d (.iv (fun b=>en.w.heap.size≤b) (encB (l[x]'(by omega)).bytes)),A.d (.iv (fun b=>en.w.heap.size≤b) (encS (l[x]'(by omega)).names)),A.d (.iv (fun b=>en.w.heap.size≤b) (encI (l[x]'(by omega)).tags)),A.d (.iv (fun b=>en.w.heap.size≤b) (encI (l[x]'(by omega)).kids))] (x*8)=arrC (encRcI (fun b=>en.w.heap.size≤b)) Z l (x+1):=arrC_step (f:=encRcI (fun b=>en.w.heap.size≤b)) (zero:=Z) (z:=8) (fun _ _=>rfl) hZl (show x<l.length by omega)
  have hrx:=hl.rule (l[x]'(by omega)) (List.getElem_mem _)
  have hanti:=encRcI_anti (l[x]'(by omega))
  (repeat (first|refine ctlS ?_|(refine ol_go ?_ (fun K1 hK1=>?_);exact trS;refine evS ?_;(try rw [hB]);refine hK1 _ _ ?_;clear hK1 K1)|(refine ow_go ?_ dsS (fun K1 hK1=>?_);exact trS;refine evS ?_;(try rw [hB]);refine hK1 _ ?_;clear hK1 K1)|refine skipS ?_|(refine ow_make ?_ dsS rfl rfl ?_ te28 tr61 tz61 ?_;exact trS;omega;refine stS0 ?_)|(refine ow_callFA ?_ dsS rfl (toRule_i hrx hM) ?_;exact trS;simp only [St.set,List.map_cons,List.map_nil,encRcI])|(refine ol_callN ?_ rfl (toRule_i hrx hM) ?_;exact trS;simp only [St.set,List.map_cons,List.map_nil,encRcI])))
  refine ⟨x+1,by omega,by omega,?_⟩
  exact wkS
 ·have hx':x=l.length:=by omega
  subst hx'
  (repeat (first|refine walkS ?_|(refine ow_make ?_ dsS rfl rfl ?_ te28 tr61 tz61 ?_;exact trS;omega;refine stS0 ?_)))
  refine aw_freezeY (.iv (fun b=>en.w.heap.size≤b) (.sl 8 (l.map encRc))) 2 16 8 l.length (l.map (encRcI (fun b=>en.w.heap.size≤b))) rfl (by rw [←arrC_all (zero:=Z)];rfl) (by simp) (by simp [encRcI_len]) hks (by decide) (freeze_new hX fun a=>encRcI_on _ a) ?_
  (refine rtS Tryd.results17 ?_;exact ⟨_,_,.inl ⟨rfl,rfl⟩,List.nodup_nil,rfl⟩)
end Go.Proofs.YtaammoodcgfhpaaDoor.Eng
namespace Go.Proofs.YtaammoodcgfhpaaDoor.Eng
open Go Go.RowKit

theorem toDescription_n {M:Nat}{D:List RuleD} (hD:DB M D) (hM:M≤1048576):ACN Tryd.prog 6 [.d (encD D)] (fun n=>.agg [.iv (fun b=>n≤b) (encDs D)]):=by
 refine calls_bodyI Tryd.func6 rfl Tryd.call6 Tryd.ntmps6 (by simp) (by simp [ArgsOk]) fun en hsz hcok hX hks=>?_;refine enS ?_
 (repeat (first|refine walkS ?_|(refine ow_callFA ?_ dsS rfl (toRuleS_i hD hM) ?_;exact trS;simp only [St.set,List.map_cons,List.map_nil])|(refine ol_callN ?_ rfl (toRuleS_i hD hM) ?_;exact trS;simp only [St.set,List.map_cons,List.map_nil])))
 (refine rtS Tryd.results6 ?_;exact ⟨_,_,.inl ⟨rfl,rfl⟩,List.nodup_nil,rfl⟩)
theorem toDescription_c {M:Nat}{D:List RuleD} (hD:DB M D) (hM:M≤1048576):AC Tryd.prog 6 [.d (encD D)] none (fun r' _=>r'=.d (encD D)):=(toDescription_n hD hM).sem fun n C u k=>RepD.mono (fun _ _ _ hc=>hc.1) _ _ (on_agg1 C u k)

theorem boundA_iv (n:Nat) (q:Nat→Prop) (x:Eng.D):boundA n (.d (.iv q x))=.d (.iv (fun b=>q b∧b<n) x):=rfl
theorem boundA_sl (n z:Nat) (es:List (List Eng.D)):boundA n (.d (.sl z es))=.d (.iv (fun b=>b<n) (.sl z es)):=rfl
theorem boundA_B (n:Nat) (l:List UInt8):boundA n (.d (encB l))=.d (.iv (fun b=>b<n) (encB l)):=rfl
theorem boundA_I (n:Nat) (l:List Int):boundA n (.d (encI l))=.d (.iv (fun b=>b<n) (encI l)):=rfl
theorem boundA_S (n:Nat) (l:List ByteArray):boundA n (.d (encS l))=.d (.iv (fun b=>b<n) (encS l)):=rfl
theorem boundA_Ds (n:Nat) (l:List RuleD):boundA n (.d (encDs l))=.d (.iv (fun b=>b<n) (encDs l)):=rfl
theorem boundA_v (n:Nat) (v:Value):boundA n (.d (.v v))=.d (.iv (fun b=>b<n) (.v v)):=rfl
end Go.Proofs.YtaammoodcgfhpaaDoor.Eng
namespace Go.Proofs.YtaammoodcgfhpaaDoor.Eng
open Go Go.RowKit

def lft (x:Int) (n:Nat):Int:=if x - n<0 then -1 else x - n
theorem szByteS_c {l:List UInt8} (hl:l.length≤9223372036854775807) (x:Int) (hx:0≤x∧x≤1048576):AC Tryd.prog 41 [.d (encB l),.d (iD x)] none (fun r' _=>r'=.d (iD (lft x l.length))):=by
 refine cbS Tryd.func41 rfl Tryd.call41 Tryd.ntmps41 fun en hsz hks hk0=>?_;refine enS ?_
 refine walkS ?_
 refine aw_condS rfl (fun hc=>?_) (fun hc=>?_)
 ·refine walkS ?_
  (refine rtS Tryd.results41 ?_;exact ⟨_,_,.inl ⟨rfl,rfl⟩,List.nodup_nil,by rw [lft,if_pos hc]⟩)
 ·refine walkS ?_
  (refine rtS Tryd.results41 ?_;exact ⟨_,_,.inl ⟨rfl,rfl⟩,List.nodup_nil,by rw [lft,if_neg hc]⟩)
theorem szIntS_c {l:List Int} (hl:l.length≤9223372036854775807) (x:Int) (hx:0≤x∧x≤1048576):AC Tryd.prog 43 [.d (encI l),.d (iD x)] none (fun r' _=>r'=.d (iD (lft x l.length))):=by
 refine cbS Tryd.func43 rfl Tryd.call43 Tryd.ntmps43 fun en hsz hks hk0=>?_;refine enS ?_
 refine walkS ?_
 refine aw_condS rfl (fun hc=>?_) (fun hc=>?_)
 ·refine walkS ?_
  (refine rtS Tryd.results43 ?_;exact ⟨_,_,.inl ⟨rfl,rfl⟩,List.nodup_nil,by rw [lft,if_pos hc]⟩)
 ·refine walkS ?_
  (refine rtS Tryd.results43 ?_;exact ⟨_,_,.inl ⟨rfl,rfl⟩,List.nodup_nil,by rw [lft,if_neg hc]⟩)
end Go.Proofs.YtaammoodcgfhpaaDoor.Eng
namespace Go.Proofs.YtaammoodcgfhpaaDoor.Eng
open Go Go.RowKit

def subS:Int→List ByteArray→Int
 | x,[]=>x
 | x,s::r=>if x - s.size<0 then -1 else subS (x - s.size) r
def lftS (x:Int) (l:List ByteArray):Int:=if x - l.length<0 then -1 else subS (x - l.length) l
theorem szStringS_c {l:List ByteArray} (hl:l.length≤9223372036854775807) (hs:∀ s∈l,s.size≤9223372036854775807) (x0:Int) (hx0:0≤x0∧x0≤1048576):AC Tryd.prog 42 [.d (encS l),.d (iD x0)] none (fun r' _=>r'=.d (iD (lftS x0 l))):=by
 refine cbS Tryd.func42 rfl Tryd.call42 Tryd.ntmps42 fun en hsz hks hk0=>?_;refine enS ?_
 refine walkS ?_
 refine aw_condS rfl (fun h0=>?_) (fun h0=>?_)
 ·refine walkS ?_
  (refine rtS Tryd.results42 ?_;exact ⟨_,_,.inl ⟨rfl,rfl⟩,List.nodup_nil,by rw [lftS,if_pos h0]⟩)
 ·refine walkS ?_
  refine aw_loopS [0,4] (fun _ _=>[]) (fun _ y=>[(5,.d (iD (y.1:Nat))),(1,.d (iD y.2))]) [] (fun _ _=>[]) [] (fun _ _=>[]) (fun y:Nat × Int=>y.1≤l.length∧(0≤y.2∧y.2≤1048576)∧lftS x0 l=subS y.2 (l.drop y.1)) (fun y=>l.length - y.1) ((0,x0 - l.length)) hks (fun _=>rfl) ⟨Nat.zero_le _,by simp only;omega,by rw [lftS,if_neg h0];rfl⟩ wkS ?_;intro x hx;refine headS ?_
  obtain ⟨k,y⟩:=x
  simp only at hx ⊢
  obtain ⟨hx1,hx2,hx3⟩:=hx
  refine walkS ?_
  refine aw_condS rfl (fun hk=>?_) (fun hk=>?_)
  ·have hd:l.drop k=l[k]'(by omega)::l.drop (k+1):=List.drop_eq_getElem_cons (by omega)
   have hsz':=hs (l[k]'(by omega)) (List.getElem_mem _)
   rw [hd,subS] at hx3
   refine walkS ?_
   refine aw_condS rfl (fun hn=>?_) (fun hn=>?_)
   ·rw [if_pos hn] at hx3
    refine walkS ?_
    (refine rtS Tryd.results42 ?_;exact ⟨_,_,.inl ⟨rfl,rfl⟩,List.nodup_nil,by rw [hx3]⟩)
   ·rw [if_neg hn] at hx3
    refine walkS ?_
    refine ⟨(k+1,y - (l[k]'(by omega)).size),⟨by simp only;omega,by simp only;omega,hx3⟩,by simp only;omega,?_⟩
    exact wkS
  ·rw [List.drop_eq_nil_of_le (by omega),subS] at hx3
   refine walkS ?_
   (refine rtS Tryd.results42 ?_;exact ⟨_,_,.inl ⟨rfl,rfl⟩,List.nodup_nil,by rw [hx3]⟩)
end Go.Proofs.YtaammoodcgfhpaaDoor.Eng
namespace Go.Proofs.YtaammoodcgfhpaaDoor.Eng
open Go Go.RowKit

theorem lft_le {x:Int}{n:Nat} (h:0≤x):-1≤lft x n∧lft x n≤x:=by unfold lft;split<;>omega
theorem subS_le:∀ {l:List ByteArray}{x:Int},0≤x→-1≤subS x l∧subS x l≤x
 | [],x,h=>by unfold subS;omega
 | s::r,x,h=>by
  unfold subS
  split
  ·omega
  ·have:=subS_le (l:=r) (x:=x - s.size) (by omega)
   omega
theorem lftS_le {x:Int}{l:List ByteArray} (h:0≤x):-1≤lftS x l∧lftS x l≤x:=by
 unfold lftS
 split
 ·omega
 ·have:=subS_le (l:=l) (x:=x - l.length) (by omega)
  omega
def lftR (x:Int) (r:RuleD):Int:=
 if x - r.name.size<0 then -1 else
 if lft (x - r.name.size) r.bytes.length<0 then -1 else
 if lftS (lft (x - r.name.size) r.bytes.length) r.names<0 then -1 else
 if lft (lftS (lft (x - r.name.size) r.bytes.length) r.names) r.tags.length<0 then -1 else
 lft (lft (lftS (lft (x - r.name.size) r.bytes.length) r.names) r.tags.length) r.kids.length
abbrev Big:Nat:=9223372036854775807
theorem szRule_c {r:RuleD} (hr:RB 9223372036854775807 r) (x0:Int) (hx0:0≤x0∧x0≤1048576):AC Tryd.prog 26 [.d (encR r),.d (iD x0)] none (fun r' _=>r'=.d (iD (lftR x0 r))):=by
 have b1:=hr.name
 refine cbS Tryd.func26 rfl Tryd.call26 Tryd.ntmps26 fun en hsz hks hk0=>?_;refine enS ?_
 refine walkS ?_
 refine aw_condS rfl (fun h0=>?_) (fun h0=>?_)
 ·refine walkS ?_
  (refine rtS Tryd.results26 ?_;exact ⟨_,_,.inl ⟨rfl,rfl⟩,List.nodup_nil,by rw [lftR,if_pos h0]⟩)
 have a1:=lft_le (x:=x0 - r.name.size) (n:=r.bytes.length) (by omega)
 (repeat (first|refine walkS ?_|(refine callPre ?_;(first|refine callN_funS rfl (szByteS_c hr.lb (x0 - r.name.size) (by omega)) ?_))|(refine callPreL ?_;(first|refine callL_funS rfl (szByteS_c hr.lb (x0 - r.name.size) (by omega)) ?_))))
 refine aw_condS rfl (fun h1=>?_) (fun h1=>?_)
 ·refine walkS ?_
  (refine rtS Tryd.results26 ?_;exact ⟨_,_,.inl ⟨rfl,rfl⟩,List.nodup_nil,by rw [lftR,if_neg h0,if_pos h1]⟩)
 have a2:=lftS_le (x:=lft (x0 - r.name.size) r.bytes.length) (l:=r.names) (by omega)
 (repeat (first|refine walkS ?_|(refine callPre ?_;(first|refine callN_funS rfl (szStringS_c hr.ln hr.nm (lft (x0 - r.name.size) r.bytes.length) (by omega)) ?_))|(refine callPreL ?_;(first|refine callL_funS rfl (szStringS_c hr.ln hr.nm (lft (x0 - r.name.size) r.bytes.length) (by omega)) ?_))))
 refine aw_condS rfl (fun h2=>?_) (fun h2=>?_)
 ·refine walkS ?_
  (refine rtS Tryd.results26 ?_;exact ⟨_,_,.inl ⟨rfl,rfl⟩,List.nodup_nil,by rw [lftR,if_neg h0,if_neg h1,if_pos h2]⟩)
 have a3:=lft_le (x:=lftS (lft (x0 - r.name.size) r.bytes.length) r.names) (n:=r.tags.length) (by omega)
 (repeat (first|refine walkS ?_|(refine callPre ?_;(first|refine callN_funS rfl (szIntS_c hr.lt (lftS (lft (x0 - r.name.size) r.bytes.length) r.names) (by omega)) ?_))|(refine callPreL ?_;(first|refine callL_funS rfl (szIntS_c hr.lt (lftS (lft (x0 - r.name.size) r.bytes.length) r.names) (by omega)) ?_))))
 refine aw_condS rfl (fun h3=>?_) (fun h3=>?_)
 ·refine walkS ?_
  (refine rtS Tryd.results26 ?_;exact ⟨_,_,.inl ⟨rfl,rfl⟩,List.nodup_nil,by rw [lftR,if_neg h0,if_neg h1,if_neg h2,if_pos h3]⟩)
 have a4:=lft_le (x:=lft (lftS (lft (x0 - r.name.size) r.bytes.length) r.names) r.tags.length) (n:=r.kids.length) (by omega)
 (repeat (first|refine walkS ?_|(refine callPre ?_;(first|refine callN_funS rfl (szIntS_c hr.lk (lft (lftS (lft (x0 - r.name.size) r.bytes.length) r.names) r.tags.length) (by omega)) ?_))|(refine callPreL ?_;(first|refine callL_funS rfl (szIntS_c hr.lk (lft (lftS (lft (x0 - r.name.size) r.bytes.length) r.names) r.tags.length) (by omega)) ?_))))
 refine aw_condS rfl (fun h4=>?_) (fun h4=>?_)
 ·refine walkS ?_
  (refine rtS Tryd.results26 ?_;exact ⟨_,_,.inl ⟨rfl,rfl⟩,List.nodup_nil,by rw [lftR,if_neg h0,if_neg h1,if_neg h2,if_neg h3,show lft (lft (lftS (lft (x0 - r.name.size) r.bytes.length) r.names) r.tags.length) r.kids.length=-1 by omega]⟩)
 ·refine walkS ?_
  (refine rtS Tryd.results26 ?_;exact ⟨_,_,.inl ⟨rfl,rfl⟩,List.nodup_nil,by rw [lftR,if_neg h0,if_neg h1,if_neg h2,if_neg h3]⟩)
end Go.Proofs.YtaammoodcgfhpaaDoor.Eng
namespace Go.Proofs.YtaammoodcgfhpaaDoor.Eng
open Go Go.RowKit

theorem lftR_le {x:Int}{r:RuleD} (h:0≤x):-1≤lftR x r∧lftR x r≤x:=by
 unfold lftR
 split
 ·omega
 ·have a1:=lft_le (x:=x - r.name.size) (n:=r.bytes.length) (by omega)
  split
  ·omega
  ·have a2:=lftS_le (x:=lft (x - r.name.size) r.bytes.length) (l:=r.names) (by omega)
   split
   ·omega
   ·have a3:=lft_le (x:=lftS (lft (x - r.name.size) r.bytes.length) r.names) (n:=r.tags.length) (by omega)
    split
    ·omega
    ·have a4:=lft_le (x:=lft (lftS (lft (x - r.name.size) r.bytes.length) r.names) r.tags.length) (n:=r.kids.length) (by omega)
     omega
def subR:Int→List RuleD→Int
 | x,[]=>x
 | x,r::rs=>if lftR x r<0 then -1 else subR (lftR x r) rs
def lftDs (x:Int) (D:List RuleD):Int:=if x - D.length<0 then -1 else subR (x - D.length) D
theorem subR_le:∀ {l:List RuleD}{x:Int},0≤x→-1≤subR x l∧subR x l≤x
 | [],x,h=>by unfold subR;omega
 | r::rs,x,h=>by
  unfold subR
  have:=lftR_le (r:=r) h
  split
  ·omega
  ·have:=subR_le (l:=rs) (x:=lftR x r) (by omega)
   omega
theorem szRuleS_c {l:List RuleD} (hl:DB 9223372036854775807 l) (x0:Int) (hx0:0≤x0∧x0≤1048576):AC Tryd.prog 13 [.d (encDs l),.d (iD x0)] none (fun r' _=>r'=.d (iD (lftDs x0 l))):=by
 have hl1:=hl.len
 refine cbS Tryd.func13 rfl Tryd.call13 Tryd.ntmps13 fun en hsz hks hk0=>?_;refine enS ?_
 refine walkS ?_
 refine aw_condS rfl (fun h0=>?_) (fun h0=>?_)
 ·refine walkS ?_
  (refine rtS Tryd.results13 ?_;exact ⟨_,_,.inl ⟨rfl,rfl⟩,List.nodup_nil,by rw [lftDs,if_pos h0]⟩)
 ·refine walkS ?_
  refine aw_loopS [0,4] (fun _ _=>[]) (fun _ y=>[(5,.d (iD (y.1:Nat))),(1,.d (iD y.2))]) [] (fun _ _=>[]) [] (fun _ _=>[]) (fun y:Nat × Int=>y.1≤l.length∧(0≤y.2∧y.2≤1048576)∧lftDs x0 l=subR y.2 (l.drop y.1)) (fun y=>l.length - y.1) ((0,x0 - l.length)) hks (fun _=>rfl) ⟨Nat.zero_le _,by simp only;omega,by rw [lftDs,if_neg h0];rfl⟩ wkS ?_;intro x hx;refine headS ?_
  obtain ⟨k,y⟩:=x
  simp only at hx ⊢
  obtain ⟨hx1,hx2,hx3⟩:=hx
  refine walkS ?_
  refine aw_condS rfl (fun hk=>?_) (fun hk=>?_)
  ·have hd:l.drop k=l[k]'(by omega)::l.drop (k+1):=List.drop_eq_getElem_cons (by omega)
   have hrx:=hl.rule (l[k]'(by omega)) (List.getElem_mem _)
   have hb:=lftR_le (r:=l[k]'(by omega)) hx2.1
   rw [hd,subR] at hx3
   (repeat (first|refine walkS ?_|refine cS (szRule_c hrx y hx2) ?_))
   refine aw_condS rfl (fun hn=>?_) (fun hn=>?_)
   ·rw [if_pos hn] at hx3
    refine walkS ?_
    (refine rtS Tryd.results13 ?_;exact ⟨_,_,.inl ⟨rfl,rfl⟩,List.nodup_nil,by rw [hx3]⟩)
   ·rw [if_neg hn] at hx3
    refine walkS ?_
    refine ⟨(k+1,lftR y (l[k]'(by omega))),⟨by simp only;omega,by simp only;omega,hx3⟩,by simp only;omega,?_⟩
    exact wkS
  ·rw [List.drop_eq_nil_of_le (by omega),subR] at hx3
   refine walkS ?_
   (refine rtS Tryd.results13 ?_;exact ⟨_,_,.inl ⟨rfl,rfl⟩,List.nodup_nil,by rw [hx3]⟩)

theorem lftDs_le {x:Int}{D:List RuleD} (h:0≤x):-1≤lftDs x D∧lftDs x D≤x:=by
 unfold lftDs
 split
 ·omega
 ·have:=subR_le (l:=D) (x:=x - D.length) (by omega)
  omega
theorem szDescription_c {D:List RuleD} (hD:DB 9223372036854775807 D) (x0:Int) (hx0:0≤x0∧x0≤1048576):AC Tryd.prog 4 [.d (encD D),.d (iD x0)] none (fun r' _=>r'=.d (iD (lftDs x0 D))):=by
 have hb:=lftDs_le (D:=D) hx0.1
 refine cbS Tryd.func4 rfl Tryd.call4 Tryd.ntmps4 fun en hsz hks hk0=>?_;refine enS ?_
 (repeat (first|refine walkS ?_|refine cS (szRuleS_c hD x0 hx0) ?_))
 refine aw_condS rfl (fun hn=>?_) (fun hn=>?_)
 ·refine walkS ?_
  (refine rtS Tryd.results4 ?_;exact ⟨_,_,.inl ⟨rfl,rfl⟩,List.nodup_nil,by rw [show lftDs x0 D=-1 by omega]⟩)
 ·refine walkS ?_
  (refine rtS Tryd.results4 ?_;exact ⟨_,_,.inl ⟨rfl,rfl⟩,List.nodup_nil,rfl⟩)
theorem lft_ge {x:Int}{n:Nat} (h:0≤lft x n):lft x n=x - n:=by unfold lft at h ⊢;split<;>simp_all
theorem subS_ge:∀ {l:List ByteArray}{x:Int},0≤x→0≤subS x l→∀ s∈l,(s.size:Int)≤x
 | [],x,_,_,s,hs=>by cases hs
 | t::r,x,h,k,s,hs=>by
  unfold subS at k
  split at k
  ·omega
  ·rcases List.mem_cons.1 hs with rfl|hs
   ·omega
   ·have:=subS_ge (l:=r) (by omega) k s hs
    omega
theorem lftS_ge {x:Int}{l:List ByteArray} (h:0≤x) (k:0≤lftS x l):(l.length:Int)≤x∧∀ s∈l,(s.size:Int)≤x:=by
 unfold lftS at k
 split at k
 ·omega
 ·refine ⟨by omega,fun s hs=>?_⟩
  have:=subS_ge (by omega) k s hs
  omega
theorem lftR_ge {x:Int}{r:RuleD}{M:Nat} (h:0≤x) (hM:x≤M) (k:0≤lftR x r):RB M r:=by
 unfold lftR at k
 split at k
 ·omega
 ·split at k
  ·omega
  ·have a1:=lft_ge (x:=x - r.name.size) (n:=r.bytes.length) (by omega)
   split at k
   ·omega
   ·have a2:=lftS_ge (x:=lft (x - r.name.size) r.bytes.length) (l:=r.names) (by omega) (by omega)
    have b2:=lftS_le (x:=lft (x - r.name.size) r.bytes.length) (l:=r.names) (by omega)
    split at k
    ·omega
    ·have a3:=lft_ge (x:=lftS (lft (x - r.name.size) r.bytes.length) r.names) (n:=r.tags.length) (by omega)
     have a4:=lft_ge k
     exact ⟨by omega,by omega,by omega,by omega,by omega,fun s hs=>by have:=a2.2 s hs;omega⟩
theorem subR_ge:∀ {l:List RuleD}{x:Int}{M:Nat},0≤x→x≤M→0≤subR x l→∀ r∈l,RB M r
 | [],x,M,_,_,_,s,hs=>by cases hs
 | t::r,x,M,h,hM,k,s,hs=>by
  unfold subR at k
  have hb:=lftR_le (r:=t) h
  split at k
  ·omega
  ·rcases List.mem_cons.1 hs with rfl|hs
   ·exact lftR_ge h hM (by omega)
   ·exact subR_ge (l:=r) (by omega) (by omega) k s hs
theorem lftDs_ge {x:Int}{D:List RuleD}{M:Nat} (h:0≤x) (hM:x≤M) (k:0≤lftDs x D):DB M D:=by
 unfold lftDs at k
 split at k
 ·omega
 ·exact ⟨by omega,fun r hr=>subR_ge (by omega) (by omega) k r hr⟩
end Go.Proofs.YtaammoodcgfhpaaDoor.Eng
namespace Go.Proofs.YtaammoodcgfhpaaDoor.Eng
open Go Go.RowKit

theorem eqByteS_c {l:List UInt8} (hl:l.length≤1048576):AC Tryd.prog 66 [.d (encB l),.d (encB l)] none (fun r' _=>r'=.d (bD true)):=by
 refine cbS Tryd.func66 rfl Tryd.call66 Tryd.ntmps66 fun en hsz hks hk0=>?_;refine enS ?_
 refine walkS ?_
 refine aw_condS rfl (fun hc=>?_) (fun hc=>?_)
 ·exact absurd rfl hc
 ·refine walkS ?_
  refine aw_loopS [0,1,4] (fun _ _=>[]) (fun _ k=>[(5,.d (iD (k:Nat)))]) [] (fun _ _=>[]) [] (fun _ _=>[]) (fun k:Nat=>k≤l.length) (fun k=>l.length - k) (0) hks (fun _=>rfl) (Nat.zero_le _) wkS ?_;intro x hx;refine headS ?_
  refine walkS ?_
  refine aw_condS rfl (fun hk=>?_) (fun hk=>?_)
  ·refine walkS ?_
   refine aw_condS rfl (fun hne=>?_) (fun hne=>?_)
   ·(first|exact absurd rfl hne|(cases hne;done))
   ·refine walkS ?_
    refine ⟨x+1,by omega,by omega,?_⟩
    exact wkS
  ·refine walkS ?_
   (refine rtS Tryd.results66 ?_;exact ⟨_,_,.inl ⟨rfl,rfl⟩,List.nodup_nil,rfl⟩)
theorem eqIntS_c {l:List Int} (hl:l.length≤1048576):AC Tryd.prog 67 [.d (encI l),.d (encI l)] none (fun r' _=>r'=.d (bD true)):=by
 refine cbS Tryd.func67 rfl Tryd.call67 Tryd.ntmps67 fun en hsz hks hk0=>?_;refine enS ?_
 refine walkS ?_
 refine aw_condS rfl (fun hc=>?_) (fun hc=>?_)
 ·exact absurd rfl hc
 ·refine walkS ?_
  refine aw_loopS [0,1,4] (fun _ _=>[]) (fun _ k=>[(5,.d (iD (k:Nat)))]) [] (fun _ _=>[]) [] (fun _ _=>[]) (fun k:Nat=>k≤l.length) (fun k=>l.length - k) (0) hks (fun _=>rfl) (Nat.zero_le _) wkS ?_;intro x hx;refine headS ?_
  refine walkS ?_
  refine aw_condS rfl (fun hk=>?_) (fun hk=>?_)
  ·refine walkS ?_
   refine aw_condS rfl (fun hne=>?_) (fun hne=>?_)
   ·(first|exact absurd rfl hne|(cases hne;done))
   ·refine walkS ?_
    refine ⟨x+1,by omega,by omega,?_⟩
    exact wkS
  ·refine walkS ?_
   (refine rtS Tryd.results67 ?_;exact ⟨_,_,.inl ⟨rfl,rfl⟩,List.nodup_nil,rfl⟩)
theorem eqStringS_c {l:List ByteArray} (hl:l.length≤1048576):AC Tryd.prog 8 [.d (encS l),.d (encS l)] none (fun r' _=>r'=.d (bD true)):=by
 refine cbS Tryd.func8 rfl Tryd.call8 Tryd.ntmps8 fun en hsz hks hk0=>?_;refine enS ?_
 refine walkS ?_
 refine aw_condS rfl (fun hc=>?_) (fun hc=>?_)
 ·exact absurd rfl hc
 ·refine walkS ?_
  refine aw_loopS [0,1,4] (fun _ _=>[]) (fun _ k=>[(5,.d (iD (k:Nat)))]) [] (fun _ _=>[]) [] (fun _ _=>[]) (fun k:Nat=>k≤l.length) (fun k=>l.length - k) (0) hks (fun _=>rfl) (Nat.zero_le _) wkS ?_;intro x hx;refine headS ?_
  refine walkS ?_
  refine aw_condS rfl (fun hk=>?_) (fun hk=>?_)
  ·refine walkS ?_
   refine aw_condS rfl (fun hne=>?_) (fun hne=>?_)
   ·(first|exact absurd rfl hne|(cases hne;done))
   ·refine walkS ?_
    refine ⟨x+1,by omega,by omega,?_⟩
    exact wkS
  ·refine walkS ?_
   (refine rtS Tryd.results8 ?_;exact ⟨_,_,.inl ⟨rfl,rfl⟩,List.nodup_nil,rfl⟩)
theorem eqRule_c {M:Nat}{r:RuleD} (hr:RB M r) (hM:M≤1048576):AC Tryd.prog 38 [.d (encR r),.d (encR r)] none (fun r' _=>r'=.d (bD true)):=by
 have h1:=hr.lb
 have h2:=hr.ln
 have h3:=hr.lt
 have h4:=hr.lk
 refine cbS Tryd.func38 rfl Tryd.call38 Tryd.ntmps38 fun en hsz hks hk0=>?_;refine enS ?_
 refine walkS ?_
 refine aw_condS rfl (fun hc=>?_) (fun hc=>?_)
 ·(first|exact absurd trivial hc|exact absurd rfl hc|(cases hc;done)|omega|exact absurd hc (by decide)|(simp at hc;done))
 refine walkS ?_
 refine aw_condS rfl (fun hc=>?_) (fun hc=>?_)
 ·(first|exact absurd trivial hc|exact absurd rfl hc|(cases hc;done)|omega|exact absurd hc (by decide)|(simp at hc;done))
 refine walkS ?_
 refine aw_condS rfl (fun hc=>?_) (fun hc=>?_)
 ·(first|exact absurd trivial hc|exact absurd rfl hc|(cases hc;done)|omega|exact absurd hc (by decide)|(simp at hc;done))
 refine walkS ?_
 refine aw_condS rfl (fun hc=>?_) (fun hc=>?_)
 ·(first|exact absurd trivial hc|exact absurd rfl hc|(cases hc;done)|omega|exact absurd hc (by decide)|(simp at hc;done))
 (repeat (first|refine walkS ?_|(refine callPre ?_;(first|refine callN_funS rfl (eqByteS_c (l:=r.bytes) (by omega)) ?_))|(refine callPreL ?_;(first|refine callL_funS rfl (eqByteS_c (l:=r.bytes) (by omega)) ?_))))
 refine aw_condS rfl (fun hc=>?_) (fun hc=>?_)
 ·(first|exact absurd trivial hc|exact absurd rfl hc|(cases hc;done)|omega|exact absurd hc (by decide)|(simp at hc;done))
 (repeat (first|refine walkS ?_|(refine callPre ?_;(first|refine callN_funS rfl (eqStringS_c (l:=r.names) (by omega)) ?_))|(refine callPreL ?_;(first|refine callL_funS rfl (eqStringS_c (l:=r.names) (by omega)) ?_))))
 refine aw_condS rfl (fun hc=>?_) (fun hc=>?_)
 ·(first|exact absurd trivial hc|exact absurd rfl hc|(cases hc;done)|omega|exact absurd hc (by decide)|(simp at hc;done))
 (repeat (first|refine walkS ?_|(refine callPre ?_;(first|refine callN_funS rfl (eqIntS_c (l:=r.tags) (by omega)) ?_))|(refine callPreL ?_;(first|refine callL_funS rfl (eqIntS_c (l:=r.tags) (by omega)) ?_))))
 refine aw_condS rfl (fun hc=>?_) (fun hc=>?_)
 ·(first|exact absurd trivial hc|exact absurd rfl hc|(cases hc;done)|omega|exact absurd hc (by decide)|(simp at hc;done))
 (repeat (first|refine walkS ?_|(refine callPre ?_;(first|refine callN_funS rfl (eqIntS_c (l:=r.kids) (by omega)) ?_))|(refine callPreL ?_;(first|refine callL_funS rfl (eqIntS_c (l:=r.kids) (by omega)) ?_))))
 refine aw_condS rfl (fun hc=>?_) (fun hc=>?_)
 ·(first|exact absurd trivial hc|exact absurd rfl hc|(cases hc;done)|omega|exact absurd hc (by decide)|(simp at hc;done))
 ·refine walkS ?_
  (refine rtS Tryd.results38 ?_;exact ⟨_,_,.inl ⟨rfl,rfl⟩,List.nodup_nil,rfl⟩)

theorem eqRuleS_c {M:Nat}{l:List RuleD} (hl:DB M l) (hM:M≤1048576):AC Tryd.prog 23 [.d (encDs l),.d (encDs l)] none (fun r' _=>r'=.d (bD true)):=by
 have hl1:=hl.len
 refine cbS Tryd.func23 rfl Tryd.call23 Tryd.ntmps23 fun en hsz hks hk0=>?_;refine enS ?_
 refine walkS ?_
 refine aw_condS rfl (fun hc=>?_) (fun hc=>?_)
 ·(first|exact absurd trivial hc|exact absurd rfl hc|(cases hc;done)|omega|exact absurd hc (by decide)|(simp at hc;done))
 ·refine walkS ?_
  refine aw_loopS [0,1,4] (fun _ _=>[]) (fun _ k=>[(5,.d (iD (k:Nat)))]) [] (fun _ _=>[]) [] (fun _ _=>[]) (fun k:Nat=>k≤l.length) (fun k=>l.length - k) (0) hks (fun _=>rfl) (Nat.zero_le _) wkS ?_;intro x hx;refine headS ?_
  refine walkS ?_
  refine aw_condS rfl (fun hk=>?_) (fun hk=>?_)
  ·have hrx:=hl.rule (l[x]'(by omega)) (List.getElem_mem _)
   (repeat (first|refine walkS ?_|refine cS (eqRule_c hrx hM) ?_))
   refine aw_condS rfl (fun hc=>?_) (fun hc=>?_)
   ·(first|exact absurd trivial hc|exact absurd rfl hc|(cases hc;done)|omega|exact absurd hc (by decide)|(simp at hc;done))
   ·refine walkS ?_
    refine ⟨x+1,by omega,by omega,?_⟩
    exact wkS
  ·refine walkS ?_
   (refine rtS Tryd.results23 ?_;exact ⟨_,_,.inl ⟨rfl,rfl⟩,List.nodup_nil,rfl⟩)

theorem eqDescription_c {M:Nat}{D:List RuleD} (hD:DB M D) (hM:M≤1048576):AC Tryd.prog 9 [.d (encD D),.d (encD D)] none (fun r' _=>r'=.d (bD true)):=by
 refine cbS Tryd.func9 rfl Tryd.call9 Tryd.ntmps9 fun en hsz hks hk0=>?_;refine enS ?_
 (repeat (first|refine walkS ?_|refine cS (eqRuleS_c hD hM) ?_))
 refine aw_condS rfl (fun hc=>?_) (fun hc=>?_)
 ·(first|exact absurd trivial hc|exact absurd rfl hc|(cases hc;done)|omega|exact absurd hc (by decide)|(simp at hc;done))
 ·refine walkS ?_
  (refine rtS Tryd.results9 ?_;exact ⟨_,_,.inl ⟨rfl,rfl⟩,List.nodup_nil,rfl⟩)
end Go.Proofs.YtaammoodcgfhpaaDoor.Eng
