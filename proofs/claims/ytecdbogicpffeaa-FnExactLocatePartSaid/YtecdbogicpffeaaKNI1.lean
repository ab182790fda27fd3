/-
 The engine, part 46: jumps back to a label.

 The program's locator: it passes parts, reads integers, goes to parts.
-/
import Derived.Test.YtecdbogicpffeaaKE41
import Derived.ScopeJumps
import Derived.Test.YtecdbogicpffeaaKNT1
import Derived.Test.YtecdbogicpffeaaKE6
import Derived.Test.YtecdbogicpffeaaKE4
import Derived.Test.YtecdbogicpffeaaKNAX
set_option linter.unusedSimpArgs false
set_option linter.unusedVariables false
set_option linter.defProp false
set_option maxRecDepth 100000
set_option maxHeartbeats 4000000
namespace Go.Proofs.Ytecdbogicpffeaa.Eng
open Go Go.RowKit

section
variable {P:Program}{en:En}{K:Exit→St→Prop}{s:St}
theorem aw_label {l:Nat} (h:K .normal s):AWs P en (.label l) K s:=fun a w hs=>wp_label ⟨s,hs,h⟩
theorem aw_goto {l:Nat} (h:K (.goto l) s):AWs P en (.goto l) K s:=fun a w hs=>wp_goto ⟨s,hs,h⟩
theorem aw_scope0 {c:Code} (h:AWs P en c (fun e s'=>match e with|.goto _=>False|e=>K e s') s):AWs P en (.scope c) K s:=fun a w hs=>
 wp_scope_straight (wp_mono (h a w hs) fun e a' w' ⟨s',h1,h2⟩=>by
  cases e<;>first|exact h2|exact ⟨s',h1,h2⟩)
theorem aw_scopeR {σ:Type} (mk:σ→St) (I:σ→Prop) (μ:σ→Nat) {c rest:Code} (l:Nat) (hf:findLabel c l=some (.seq .skip rest)) (hk:∀ k,en.ks k→k=0) (hk0:∀ x,0<(mk x).nx)
  (hr:∀ x,I x→AWs P en rest (fun e s'=>match e with|.goto l'=>l'=l∧∃ y ρ,I y∧μ y<μ x∧sg ρ 0=some 0∧s'.wk (sg ρ) (mk y)|e=>K e s') (mk x))
  (h1:(∀ s' x ρ,I x→sg ρ 0=some 0→s'.wk (sg ρ) (mk x)→AWs P en rest (fun e s'=>match e with|.goto l'=>l'=l∧∃ y ρ,I y∧sg ρ 0=some 0∧s'.wk (sg ρ) (mk y)|e=>K e s') s')→AWs P en c (fun e s'=>match e with|.goto l'=>l'=l∧∃ y ρ,I y∧sg ρ 0=some 0∧s'.wk (sg ρ) (mk y)|e=>K e s') s):AWs P en (.scope c) K s:=fun a w hs=>by
 have hkk:∀ (ρ:List (Nat × Option Nat)) x,sg ρ 0=some 0→∀ k,en.ks k→k<(mk x).nx∧sg ρ k=some k:=fun ρ x h k hk'=>by
  have:=hk k hk';subst this
  exact ⟨hk0 x,h⟩
 refine wp_scope_jumps l (fun a w=>∃ x,I x∧SimS en (mk x) a w) (fun a w=>leastOf fun n=>∃ x,I x∧SimS en (mk x) a w∧μ x=n) hf ?_ ?_
 ·refine wp_mono (h1 (fun s' x ρ hI hρ hle a w hs'=>?_) a w hs) fun e a' w' ⟨s',h2,h3⟩=>?_
  ·refine wp_mono (hr x hI a w (simS_wk (hkk ρ x hρ) hle hs')) fun e a' w' ⟨s2,h2,h3⟩=>⟨s2,h2,?_⟩
   cases e with
   | goto l'=>
    obtain ⟨e1,y,ρ',hy,_,hρ',hle'⟩:=h3
    exact ⟨e1,y,ρ',hy,hρ',hle'⟩
   | _=>exact h3
  ·cases e with
   | goto l'=>
    obtain ⟨e1,y,ρ',hy,hρ',hle'⟩:=h3
    exact ⟨e1,y,hy,simS_wk (hkk ρ' y hρ') hle' h2⟩
   | _=>exact ⟨s',h2,h3⟩
 ·rintro a w ⟨x,hx,hsx⟩
  obtain ⟨⟨z,hz,hsz,hμ⟩,_⟩:=leastOf_spec (S:=fun n=>∃ x,I x∧SimS en (mk x) a w∧μ x=n) ⟨x,hx,hsx,rfl⟩
  refine wp_mono (aw_seq (aw_skip (hr z hz)) a w hsz) fun e a' w' ⟨s',h2,h3⟩=>?_
  cases e with
  | goto l'=>
   obtain ⟨e1,y,ρ',hy,hlt,hρ',hle'⟩:=h3
   have hsy:=simS_wk (hkk ρ' y hρ') hle' h2
   refine ⟨e1,⟨y,hy,hsy⟩,?_⟩
   obtain ⟨_,hmin⟩:=leastOf_spec (S:=fun n=>∃ x,I x∧SimS en (mk x) a' w'∧μ x=n) ⟨y,hy,hsy,rfl⟩
   have:=hmin (μ y) ⟨y,hy,hsy,rfl⟩
   omega
  | _=>exact ⟨s',h2,h3⟩
end
end Go.Proofs.Ytecdbogicpffeaa.Eng
namespace Go.Proofs.Ytecdbogicpffeaa.Eng
open Go Go.RowKit

section
variable {M:Nat}{D:List RuleD}{b:List UInt8}
abbrev locD (D:List RuleD) (b:List UInt8) (r:Int) (p:Nat):List Eng.D:=[encDs D,encB b,iD r,iD p]
theorem known_ys (hV:descP D) {n:Nat} (hn:n<D.length):vKnown D (n:Int)=true:=by
 unfold vKnown
 rw [vDesc_yes hV,decide_eq_true (by omega)]
 rfl
theorem readV_r (hV:descP D) (hb4:b.length≤400) {k q:Nat} (hk:k<D.length) (hq:q≤b.length):readV D b (k:Int) (q:Int)=rd D b D.length k q:=by
 unfold readV
 rw [if_pos ⟨known_ys hV hk,by omega,hb4⟩,Int.toNat_natCast,Int.toNat_natCast]
private def tyF:=ai (ai (ai tg22 (ai tg24 tg54)) (ai tg55 (ai tg106 tg26))) (ai (ai tg57 (ai tg104 tg3)) (ai tg4 (ai tg5 tg9)))
theorem pass_c (hD:DB M D) (hM:M≤1048576) (hb4:b.length≤400) (hV:descP D) {k p:Nat} (hk:k<D.length) (hp:p≤b.length) (r:Int) {v:V}{q c:Nat} (h:rd D b D.length k p=(v,q,c)):AC Try.prog 79 [.ptr 0 0,.d (iD k)] (some ((locD D b r p).map .d)) (fun r' bx=>r'=.d (bD (decide (c=0)))∧bx=some ((locD D b r q).map .d)):=by
 have HC:=checkValueI_c hD hM (b:=b) (by omega) (k:Nat) (p:Nat)
 rw [readV_r hV hb4 hk hp,h] at HC
 have e1:(((c:Nat):Int)==0)=decide (c=0):=by
  by_cases h:c=0
  ·subst h;rfl
  ·rw [decide_eq_false h,beq_eq_false_iff_ne];omega
 refine cbS Try.func79 rfl Try.call79 Try.ntmps79 fun en hsz hks hk0=>?_;refine enS ?_
 (repeat (first|refine ctlS ?_|(refine ol_go ?_ (fun K1 hK1=>?_);exact trS;refine evS ?_;(try simp only [e1]);refine hK1 _ _ ?_;clear hK1 K1)|(refine ow_go ?_ dsS (fun K1 hK1=>?_);exact trS;refine evS ?_;(try simp only [e1]);refine hK1 _ ?_;clear hK1 K1)|refine skipS ?_|refine cS (HC) ?_|refine aw_condT rfl ?_|refine aw_condF rfl ?_))
 (refine rtS Try.results79 ?_;exact ⟨_,[],.inl ⟨rfl,rfl⟩,_,(locD D b r q:List Eng.D).map .d,[],rfl,toZL_d _ (locD D b r q),by simp,⟨rfl,rfl⟩⟩)
theorem numI_n (hD:DB M D) (hM:M≤1048576) (hb4:b.length≤400) (hV:descP D) {j p:Nat}{q:RuleD} (hj:D[j]?=some q) (hq:q.kind=1) (hp:p≤b.length) (r:Int) (hi:intAt q b p=none):AC Try.prog 164 [.ptr 0 0,.d (iD j)] (some ((locD D b r p).map .d)) (fun r' bx=>r'=.d (.tup [iD 0,bD false])∧bx=some ((locD D b r (rd D b D.length j p).2.1).map .d)):=by
 have hjl:j<D.length:=(List.getElem?_eq_some_iff.1 hj).1
 obtain ⟨F,hF⟩:∃ F,D.length=F+1:=⟨D.length - 1,by omega⟩
 have HP:=fun v q' c (h:rd D b D.length j p=(v,q',c))=>pass_c hD hM hb4 hV hjl hp r h
 have hr:=rd_1n (f:=F) (ruleD_get hj) hq hi
 rw [←hF] at hr
 rw [hr]
 have HP':=HP _ _ _ hr
 have n1:(!false)=true:=rfl
 refine cbS Try.func164 rfl Try.call164 Try.ntmps164 fun en hsz hks hk0=>?_;refine enS ?_
 (repeat (first|refine ctlS ?_|(refine ol_go ?_ (fun K1 hK1=>?_);exact trS;refine evS ?_;(try simp only [n1]);refine hK1 _ _ ?_;clear hK1 K1)|(refine ow_go ?_ dsS (fun K1 hK1=>?_);exact trS;refine evS ?_;(try simp only [n1]);refine hK1 _ ?_;clear hK1 K1)|refine skipS ?_|refine vS 0 (HP') ?_|refine aw_condT rfl ?_|refine aw_condF rfl ?_))
 (refine rtS Try.results164 ?_;exact ⟨_,[],.inl ⟨rfl,rfl⟩,_,(locD D b r _:List Eng.D).map .d,[],rfl,toZL_d _ (locD D b r _),by simp,⟨rfl,rfl⟩⟩)
theorem numI_s (hD:DB M D) (hM:M≤1048576) (hb4:b.length≤400) (hV:descP D) {j p:Nat}{q:RuleD} (hj:D[j]?=some q) (hq:q.kind=1) (hp:p≤b.length) (r:Int) {m:Nat} (hi:intAt q b p=some m):AC Try.prog 164 [.ptr 0 0,.d (iD j)] (some ((locD D b r p).map .d)) (fun r' bx=>r'=.d (.tup [iD (m:Nat),bD true])∧bx=some ((locD D b r (p+q.size.toNat)).map .d)):=by
 have hjl:j<D.length:=(List.getElem?_eq_some_iff.1 hj).1
 obtain ⟨F,hF⟩:∃ F,D.length=F+1:=⟨D.length - 1,by omega⟩
 have HP:=fun v q' c (h:rd D b D.length j p=(v,q',c))=>pass_c hD hM hb4 hV hjl hp r h
 have hr:=rd_1s (f:=F) (ruleD_get hj) hq hi
 rw [←hF] at hr
 have HP':=HP _ _ _ hr
 obtain ⟨hi1,hi2⟩:=intAt_in hi hp
 have hri:readInt ((b.drop p).take q.size.toNat) q.little=m:=by
  unfold intAt at hi
  split at hi
  ·cases hi
  ·exact Option.some.inj hi
 have HI:=(readIntI_c (l:=List.take (p+q.size.toNat - p) (List.drop p b)) q.little).eqv (r1:=.d (iD (m:Nat))) (by rw [show p+q.size.toNat - p=q.size.toNat by omega,hri])
 have n1:(!true)=false:=rfl
 refine cbS Try.func164 rfl Try.call164 Try.ntmps164 fun en hsz hks hk0=>?_;refine enS ?_
 (repeat (first|refine ctlS ?_|(refine ol_go ?_ (fun K1 hK1=>?_);exact trS;refine evS ?_;(try simp only [n1]);refine hK1 _ _ ?_;clear hK1 K1)|(refine ow_go ?_ dsS (fun K1 hK1=>?_);exact trS;refine evS ?_;(try simp only [n1]);refine hK1 _ ?_;clear hK1 K1)|refine skipS ?_|refine vS 0 (HP') ?_|refine cS (HI) ?_|refine aw_condT rfl ?_|refine aw_condF rfl ?_))
 (refine rtS Try.results164 ?_;exact ⟨_,[],.inl ⟨rfl,rfl⟩,_,(locD D b r (p+q.size.toNat):List Eng.D).map .d,[],rfl,toZL_d _ (locD D b r (p+q.size.toNat)),by simp,⟨rfl,rfl⟩⟩)
end
end Go.Proofs.Ytecdbogicpffeaa.Eng
