/-
 The program's locator: alternatives, steps.
-/
import Derived.Test.YtecdbogicpffeaaKNI3
import Derived.Test.YtecdbogicpffeaaKPT3
set_option linter.unusedSimpArgs false
set_option linter.unusedVariables false
set_option linter.defProp false
set_option maxRecDepth 100000
set_option maxHeartbeats 4000000
namespace Go.Proofs.Ytecdbogicpffeaa.Eng
open Go Go.RowKit

section
variable {M:Nat}{D:List RuleD}{b:List UInt8}
theorem kid00 {r:RuleD} (h:1≤r.kids.length):r.kids[0]?=some (kid0 r):=by
 rw [List.getElem?_eq_getElem (by omega)]
 simp [kid0,List.headD_eq_head?_getD,List.head?_eq_getElem?,show 0<r.kids.length by omega]
private def tyF:=ai (ai (ai tg22 (ai tg24 tg54)) (ai tg55 (ai tg106 tg26))) (ai (ai tg57 (ai tg104 tg108)) (ai (ai tg3 tg4) (ai tg5 tg9)))
theorem alt_n {n:Int}{p e:Nat}{r:RuleD} (hk:1≤r.kids.length) (hlt:r.tags.length≤1048576) {v:Int}{ok:Bool} (HN:AC Try.prog 164 [.ptr 0 0,.d (iD (kid0 r))] (some ((locD D b n p).map .d)) (fun r' bx=>r'=.d (.tup [iD v,bD ok])∧bx=some ((locD D b n e).map .d)))
  (h:ok=false∨tagIx r.tags v=none):AC Try.prog 132 [.ptr 0 0,.d (encR r)] (some ((locD D b n p).map .d)) (fun r' bx=>r'=.d (bD false)∧bx=some ((locD D b n e).map .d)):=by
 have i0:=kid00 hk
 have HI:=ixAlt_c (l:=r.tags) hlt v
 have n1:(!true)=false:=rfl
 have n2:(!false)=true:=rfl
 generalize hx:ixA (tagIx r.tags v)=x at HI
 refine cbS Try.func132 rfl Try.call132 Try.ntmps132 fun en hsz hks hk0=>?_;refine enS ?_
 (repeat (first|refine walkS ?_|refine aw_condT rfl ?_|refine aw_condF rfl ?_))
 (first|refine vS 0 (HN) ?_)
 (iterate 7 (first|refine aw_seq ?_|refine aw_region ?_|refine aw_block ?_|(refine aw_exit ?_;(try simp (decide:=true) only [reduceIte]))|(refine aw_skip ?_;try dsimp only)|(refine aw_any (by kernel_rfl) (by kernel_rfl) (by simp only [hsz];kernel_rfl) ?_)|(refine ow_nil ?_;try dsimp only)|(refine ol_go ?_ (fun K1 hK1=>?_);exact trS;refine evS ?_;refine hK1 _ _ ?_;clear hK1 K1)|(refine ol_skip rfl rfl ?_ ?_;(focus (intro hne;cases hne;done));simp only [St.set])|(refine ol_nil ⟨by kernel_rfl,?_⟩;try dsimp only)|(refine ow_go ?_ dsS (fun K1 hK1=>?_);exact trS;refine evS ?_;refine hK1 _ ?_;clear hK1 K1)|(refine ow_skip rfl rfl ?_ dsS ?_;(focus (intro hne;cases hne;done));simp only [St.set])))
 refine aw_freezeB 5 64 [iD v] rfl rfl hks (by decide) ?_
 cases ok
 ·(repeat (first|refine ctlS ?_|(refine ol_go ?_ (fun K1 hK1=>?_);exact trS;refine evS ?_;(try simp only [n2]);refine hK1 _ _ ?_;clear hK1 K1)|(refine ow_go ?_ dsS (fun K1 hK1=>?_);exact trS;refine evS ?_;(try simp only [n2]);refine hK1 _ ?_;clear hK1 K1)|refine skipS ?_|refine cS (HI) ?_|refine aw_condT rfl ?_|refine aw_condF rfl ?_))
  (refine rtS Try.results132 ?_;exact ⟨_,[],.inl ⟨rfl,rfl⟩,_,(locD D b n e:List Eng.D).map .d,[],rfl,toZL_d _ (locD D b n e),by simp,⟨rfl,rfl⟩⟩)
 ·have ht:tagIx r.tags v=none:=h.resolve_left (by decide)
  rw [ht] at hx
  have w0:decide (x<0)=true:=by rw [←hx];rfl
  (repeat (first|refine ctlS ?_|(refine ol_go ?_ (fun K1 hK1=>?_);exact trS;refine evS ?_;(try simp only [n1,w0]);refine hK1 _ _ ?_;clear hK1 K1)|(refine ow_go ?_ dsS (fun K1 hK1=>?_);exact trS;refine evS ?_;(try simp only [n1,w0]);refine hK1 _ ?_;clear hK1 K1)|refine skipS ?_|refine cS (HI) ?_|refine aw_condT rfl ?_|refine aw_condF rfl ?_))
  (refine rtS Try.results132 ?_;exact ⟨_,[],.inl ⟨rfl,rfl⟩,_,(locD D b n e:List Eng.D).map .d,[],rfl,toZL_d _ (locD D b n e),by simp,⟨rfl,rfl⟩⟩)
theorem alt_y {n:Int}{p e:Nat}{r:RuleD}{v:Int} (hlt:r.tags.length≤1048576) (HN:AC Try.prog 164 [.ptr 0 0,.d (iD (kid0 r))] (some ((locD D b n p).map .d)) (fun r' bx=>r'=.d (.tup [iD v,bD true])∧bx=some ((locD D b n e).map .d)))
  {k κ:Nat} (ht:tagIx r.tags v=some k) (hk:k+1<r.kids.length) (hκ:r.kids[k+1]=(κ:Int)):AC Try.prog 132 [.ptr 0 0,.d (encR r)] (some ((locD D b n p).map .d)) (fun r' bx=>r'=.d (bD true)∧bx=some ((locD D b κ e).map .d)):=by
 have i0:=kid00 (r:=r) (by omega)
 have hkt:=tagIx_lt ht
 have HI:=ixAlt_c (l:=r.tags) hlt v
 rw [ht] at HI
 have HI':AC Try.prog 166 [.d (encI r.tags),.clo 167 [] [.d (.rp [iD v])]] none (fun r' _=>r'=.d (iD (k:Nat))):=HI
 have n1:(!true)=false:=rfl
 have w0:decide ((k:Int)<0)=false:=decide_eq_false (by omega)
 have e1:IntKind.i64.wrap ((k:Int)+1)=((k+1:Nat):Int):=by rw [wrap_small (by omega) (by omega)];omega
 have i1:r.kids[k+1]?=some (κ:Int):=by rw [List.getElem?_eq_getElem hk,hκ]
 refine cbS Try.func132 rfl Try.call132 Try.ntmps132 fun en hsz hks hk0=>?_;refine enS ?_
 (repeat (first|refine walkS ?_|refine aw_condT rfl ?_|refine aw_condF rfl ?_))
 (first|refine vS 0 (HN) ?_)
 (iterate 7 (first|refine aw_seq ?_|refine aw_region ?_|refine aw_block ?_|(refine aw_exit ?_;(try simp (decide:=true) only [reduceIte]))|(refine aw_skip ?_;try dsimp only)|(refine aw_any (by kernel_rfl) (by kernel_rfl) (by simp only [hsz];kernel_rfl) ?_)|(refine ow_nil ?_;try dsimp only)|(refine ol_go ?_ (fun K1 hK1=>?_);exact trS;refine evS ?_;refine hK1 _ _ ?_;clear hK1 K1)|(refine ol_skip rfl rfl ?_ ?_;(focus (intro hne;cases hne;done));simp only [St.set])|(refine ol_nil ⟨by kernel_rfl,?_⟩;try dsimp only)|(refine ow_go ?_ dsS (fun K1 hK1=>?_);exact trS;refine evS ?_;refine hK1 _ ?_;clear hK1 K1)|(refine ow_skip rfl rfl ?_ dsS ?_;(focus (intro hne;cases hne;done));simp only [St.set])))
 refine aw_freezeB 5 64 [iD v] rfl rfl hks (by decide) ?_
 (repeat (first|refine ctlS ?_|(refine ol_go ?_ (fun K1 hK1=>?_);exact trS;refine evS ?_;(try simp only [n1,w0,e1]);refine hK1 _ _ ?_;clear hK1 K1)|(refine ow_go ?_ dsS (fun K1 hK1=>?_);exact trS;refine evS ?_;(try simp only [n1,w0,e1]);refine hK1 _ ?_;clear hK1 K1)|refine skipS ?_|refine cS (HI') ?_|refine aw_condT rfl ?_|refine aw_condF rfl ?_))
 (refine rtS Try.results132 ?_;exact ⟨_,[],.inl ⟨rfl,rfl⟩,_,(locD D b κ e:List Eng.D).map .d,[],rfl,toZL_d _ (locD D b κ e),by simp,⟨rfl,rfl⟩⟩)
end
end Go.Proofs.Ytecdbogicpffeaa.Eng
