/-
 Mutations: the program.

 Mutations, the program: ApplyMutation.

 What laws of mutations share.
-/
import Derived.Test.YtndnefealooolaaGreatDoorKTy
import Derived.Test.YtndnefealooolaaGreatDoorKN0
import Derived.Test.YtndnefealooolaaGreatDoorKN44
import Derived.Test.YtndnefealooolaaGreatDoorKE38
import Derived.Test.YtndnefealooolaaGreatDoorKPR1
set_option linter.unusedSimpArgs false
set_option linter.unusedVariables false
set_option linter.defProp false
set_option maxRecDepth 100000
set_option maxHeartbeats 4000000
namespace Go.Proofs.YtndnefealooolaaGreatDoor.Eng
open Go Go.RowKit

abbrev rzB (x:List UInt8 × Bool):Rz:=.tup [.own 5 1 (x.1.map fun c=>[uD c]),.d (bD x.2)]
def rowD (b:List UInt8) (tl:List Value):List D:=(b.map fun c=>uD c)++tl.map .v
theorem rowD_len (b:List UInt8) (tl:List Value):(rowD b tl).length=b.length+tl.length:=by simp [rowD]
theorem rowA_eq (b:List UInt8) (tl:List Value):((b.map fun c=>[uD c]).flatten.map A.d)++(tl.map fun x=>A.d (.v x))=(rowD b tl).map A.d:=by
 have h:∀ b:List UInt8,(b.map fun c=>[uD c]).flatten.map A.d=(b.map fun c=>uD c).map A.d:=fun b=>by
  induction b with
  | nil=>rfl
  | cons c b ih=>simp only [List.map_cons,List.flatten_cons,List.cons_append,List.nil_append,ih]
 unfold rowD
 rw [List.map_append,h,List.map_map (f:=D.v)]
 rfl
theorem rowA_set {b:List UInt8}{tl:List Value}{i:Nat} (h:i<b.length) (c:UInt8):splice ((rowD b tl).map A.d) [A.d (uD c)] i=(rowD (b.set i c) tl).map A.d:=by
 unfold rowD splice
 rw [List.length_singleton,List.map_append,List.take_append_of_le_length (by simp;omega),List.drop_append_of_le_length (by simp;omega),List.set_eq_take_append_cons_drop,if_pos h]
 simp [List.map_take,List.map_drop]
theorem argsT_d {k z n:Nat}{es:List (List D)}{d:D} (h:n=es.length):argsT k z es [.d d,.arr k z n]=some [.d d,.d (.sl z es)]:=by
 simp [argsT,argT,argOf,frz,h]
theorem u8_nat (c:Nat):IntKind.u8.wrap (c:Int)=((UInt8.ofNat c).toNat:Int):=by
 have h1:IntKind.u8.wrap (c:Int)=(c:Int) % 256:=by
  simp [IntKind.wrap,IntKind.bits,IntKind.signed]
 rw [h1,UInt8.toNat_ofNat']
 omega
private def tyF:=ai (ai tg102 (ai tg22 tg30)) (ai tg3 (ai tg4 tg5))
theorem inRangeI_c (n a b:Int):AC Tryz.prog 42 [.d (iD n),.d (iD a),.d (iD b)] none (fun r' _=>r'=.d (bD (decide (a≤n) && decide (n≤b)))):=by
 refine cbS Tryz.func42 rfl Tryz.call42 Tryz.ntmps42 fun en hsz hks hk0=>?_;refine enS ?_
 refine walkS ?_
 (refine ow_gd rfl rfl dsS (fun hg K1 hK1=>?_) (fun hg=>?_);((try simp only [hg]);refine evS ?_;refine hK1 _ ?_;clear hK1 K1);rotate_left;(simp only [Bool.not_true,Bool.not_false] at hg;simp only [St.set,hg]);rotate_left)
 ·refine walkS ?_
  (refine rtS Tryz.results42 ?_;exact ⟨_,_,.inl ⟨rfl,rfl⟩,List.nodup_nil,by simp at hg;simp [hg]⟩)
 ·refine walkS ?_
  (refine rtS Tryz.results42 ?_;exact ⟨_,_,.inl ⟨rfl,rfl⟩,List.nodup_nil,by simp at hg;simp<;>omega⟩)
section
variable {b:List UInt8}
abbrev mutD (x:List UInt8) (n:Nat):Eng.D:=.tup [.iv (fun k=>n≤k) (encB x),bD true]
abbrev mutE (kind i c:Int):Eng.D:=.agg [iD kind,iD i,iD c]
theorem anti_tup {f:Nat→List D} (h:∀ m n,m≤n→∀ (C:CellR) us,RepL C (f n) us→RepL C (f m) us):∀ m n,m≤n→∀ (C:CellR) u,RepD C (.tup (f n)) u→RepD C (.tup (f m)) u:=fun m n hmn C u k=>by
 unfold RepD at k ⊢
 obtain ⟨us,h1,h2⟩:=k
 exact ⟨us,h1,h m n hmn C us h2⟩
theorem anti_mutD (x:List UInt8):∀ m n,m≤n→∀ (C:CellR) u,RepD C (mutD x n) u→RepD C (mutD x m) u:=
 anti_tup (f:=fun n=>[.iv (fun k=>n≤k) (encB x),bD true]) fun m n h C us k=>repL_semi h (fun _ k=>k) k
abbrev repN (x:List UInt8 × Mut × Bool) (n:Nat):Eng.D:=.tup [.iv (fun k=>n≤k) (encB x.1),mutE x.2.1.1 x.2.1.2.1 x.2.1.2.2,bD x.2.2]
theorem anti_repN (x:List UInt8 × Mut × Bool):∀ m n,m≤n→∀ (C:CellR) u,RepD C (repN x n) u→RepD C (repN x m) u:=
 anti_tup (f:=fun n=>[.iv (fun k=>n≤k) (encB x.1),mutE x.2.1.1 x.2.1.2.1 x.2.1.2.2,bD x.2.2]) fun m n h C us k=>repL_semi h (fun _ k=>k) k
end
end Go.Proofs.YtndnefealooolaaGreatDoor.Eng
namespace Go.Proofs.YtndnefealooolaaGreatDoor.Eng
open Go Go.RowKit

section
variable {b:List UInt8}
theorem applyI_1 (hb:b.length≤1048576) {i c:Nat} (hi:i<b.length) (hc:c≤255):ACN Tryz.prog 52 [.d (encB b),.d (mutE 1 i c)] (mutD (cutB b i 1 [UInt8.ofNat c])):=by
 have r1:AC Tryz.prog 42 [.d (iD (c:Nat)),.d (iD 0),.d (iD 255)] none (fun r' _=>r'=.d (bD true)):=(inRangeI_c _ _ _).eqv (by simp;omega)
 have e1:decide ((i:Int)<0)=false:=by simp
 have e2:decide ((i:Int)<(b.length:Int))=true:=by simp;omega
 have hS:∀ tl,splice ((rowD b tl).map A.d) [A.d (uD (UInt8.ofNat c))] (i*1)=(rowD (b.set i (UInt8.ofNat c)) tl).map A.d:=fun tl=>by rw [Nat.mul_one];exact rowA_set hi _
 refine calls_bodyI Tryz.func52 rfl Tryz.call52 Tryz.ntmps52 (by simp) (by simp [ArgsOk]) fun en hsz hcok hX hks=>?_;refine enS ?_
 (repeat (first|(refine ow_bs0 ?_ dsS rfl te22 tr5 (fun ad=>?_);exact trS;simp only [St.set])|(refine ow_appendA ?_ dsS rfl te22 tr5 tz5 rfl rfl ?_ ?_ (fun tl=>?_);exact trS;(simp only [List.length_map];omega);(simp only [List.length_map];omega);simp only [St.set])|refine ctlS ?_|(refine ol_go ?_ (fun K1 hK1=>?_);exact trS;refine evS ?_;(try simp only [e1,e2,rowA_eq]);refine hK1 _ _ ?_;clear hK1 K1)|(refine ow_go ?_ dsS (fun K1 hK1=>?_);exact trS;refine evS ?_;(try simp only [e1,e2,rowA_eq]);refine hK1 _ ?_;clear hK1 K1)|refine skipS ?_|refine cS (r1) ?_))
 have hL:=rowD_len b tl
 (repeat (first|refine ctlS ?_|(refine ol_go ?_ (fun K1 hK1=>?_);exact trS;refine evS ?_;(try simp only [e1,e2,u8_nat,hS]);refine hK1 _ _ ?_;clear hK1 K1)|(refine ow_go ?_ dsS (fun K1 hK1=>?_);exact trS;refine evS ?_;(try simp only [e1,e2,u8_nat,hS]);refine hK1 _ ?_;clear hK1 K1)|refine skipS ?_|refine cS (r1) ?_|refine aw_condT rfl ?_|refine aw_condF rfl ?_))
 refine aw_freezeT (.iv (fun k=>en.w.heap.size≤k) (encB (b.set i (UInt8.ofNat c)))) 4 48 1 b.length ((b.set i (UInt8.ofNat c)).map fun c=>[uD c]) (tl.map fun x=>A.d (.v x)) rfl (by rw [rowA_eq];rfl) (by simp) (fun e he=>by obtain ⟨x,_,rfl⟩:=List.mem_map.1 he;rfl) hks (by decide) (freeze_new hX fun a=>.cons .v .nil) ?_
 (refine rtS Tryz.results52 ?_;exact ⟨_,_,.inl ⟨rfl,rfl⟩,List.nodup_nil,by rw [←set_cut hi]⟩)
end
end Go.Proofs.YtndnefealooolaaGreatDoor.Eng
namespace Go.Proofs.YtndnefealooolaaGreatDoor.Eng
open Go Go.RowKit

theorem repN_sem (x:List UInt8 × Mut × Bool) (n:Nat) (C:CellR) (u:Value) (k:RepD C (repN x n) u):RepD C (.tup [encB x.1,mutE x.2.1.1 x.2.1.2.1 x.2.1.2.2,bD x.2.2]) u:=by
 unfold RepD at k ⊢
 obtain ⟨us,h1,h2⟩:=k
 refine ⟨us,h1,?_⟩
 unfold RepL at h2 ⊢
 obtain ⟨u,us',e,h3,h4⟩:=h2
 exact ⟨u,us',e,RepD.mono (fun _ _ _ h=>h.1) _ _ (repD_iv.1 h3),h4⟩
end Go.Proofs.YtndnefealooolaaGreatDoor.Eng
