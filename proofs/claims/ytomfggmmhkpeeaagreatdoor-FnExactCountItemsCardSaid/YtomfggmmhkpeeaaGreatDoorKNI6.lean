/-
 Parts are located (the reference).

 Paths are split (the program), in the engine's words.

 Parts are located (the program).
-/
import Derived.Test.YtomfggmmhkpeeaaGreatDoorKNL2
import Derived.Test.YtomfggmmhkpeeaaGreatDoorKNW2
import Derived.Test.YtomfggmmhkpeeaaGreatDoorKNI2
import Derived.Test.YtomfggmmhkpeeaaGreatDoorKNI5
set_option linter.unusedSimpArgs false
set_option linter.unusedVariables false
set_option linter.defProp false
set_option maxRecDepth 100000
set_option maxHeartbeats 4000000
namespace Go.Proofs.YtomfggmmhkpeeaaGreatDoor.Eng
open Go Go.RowKit

def locE (s:ByteArray):Option (Nat × Nat × Nat)→Eng.D
 | some x=>.tup [.agg [sD s,iD x.1,iD x.2.1,iD x.2.2],bD true]
 | none=>.tup [.agg [sD ⟨#[]⟩,iD 0,iD 0,iD 0],bD false]
theorem goN_at {D:List RuleD}{b:List UInt8}{ss:List ByteArray}{i r p:Nat} (hi:i<ss.length):goN D b (ss.drop i) r p=(goS D b r p ss[i]).bind fun x=>goN D b (ss.drop (i+1)) x.1 x.2:=by
 rw [List.drop_eq_getElem_cons hi,goN]
theorem goN_end {D:List RuleD}{b:List UInt8}{ss:List ByteArray}{i r p:Nat} (hi:¬i<ss.length):goN D b (ss.drop i) r p=some (r,p):=by
 rw [List.drop_eq_nil_of_le (by omega),goN]
theorem locP_no {D:List RuleD}{b:List UInt8}{s:ByteArray} (h:¬((splP s).2=true∧vDesc D=true∧b.length≤400)):locP D b s=none:=by
 unfold locP
 rw [if_neg h]
theorem locP_go {D:List RuleD}{b:List UInt8}{s:ByteArray} (h:(splP s).2=true∧vDesc D=true∧b.length≤400):locP D b s=(goN D b (splP s).1 (D.length - 1) 0).bind fun x=>if (rd D b D.length x.1 x.2).2.2=0 then some (x.1,x.2,(rd D b D.length x.1 x.2).2.1) else none:=by
 unfold locP
 rw [if_pos h]
section
variable {M:Nat}{D:List RuleD}{b:List UInt8}
theorem vDesc_len (h:vDesc D=true):descP D∧0<D.length:=by
 have hV:descP D:=by
  refine Classical.byContradiction fun hq=>?_
  rw [vDesc_no hq] at h
  cases h
 refine ⟨hV,?_⟩
 have:=hV.1
 omega
private def tyF:=ai (ai (ai (ai tg25 tg27) (ai tg32 tg86)) (ai (ai tg87 tg151) (ai tg194 tg29))) (ai (ai (ai tg34 tg89) (ai tg138 tg192)) (ai (ai tg3 tg4) (ai tg5 tg9)))
theorem locS_n (hD:DB M D) (hM:M≤1048576) {s:ByteArray} (hs:s.size≤1048576) (h:¬((splP s).2=true∧vDesc D=true∧b.length≤400)):AC Tryz.prog 97 [.d (encD D),.d (encB b),.d (sD s)] none (fun r' _=>r'=.d (locE s none)):=by
 have HP:=splPS_c hs
 have HV:=validS_c hD hM
 have n1:(!true)=false:=rfl
 have n2:(!false)=true:=rfl
 generalize splP s=sp at *
 obtain ⟨ss,ok⟩:=sp
 simp only at HP h
 cases ok
 ·refine cbS Tryz.func97 rfl Tryz.call97 Tryz.ntmps97 fun en hsz hks hk0=>?_;refine enS ?_
  (repeat (first|refine ctlS ?_|(refine ol_go ?_ (fun K1 hK1=>?_);exact trS;refine evS ?_;(try simp only [n2]);refine hK1 _ _ ?_;clear hK1 K1)|(refine ow_go ?_ dsS (fun K1 hK1=>?_);exact trS;refine evS ?_;(try simp only [n2]);refine hK1 _ ?_;clear hK1 K1)|refine skipS ?_|refine cS (HP) ?_|refine aw_condT rfl ?_|refine aw_condF rfl ?_))
  (refine rtS Tryz.results97 ?_;exact ⟨_,_,.inl ⟨rfl,rfl⟩,List.nodup_nil,rfl⟩)
 ·cases hv:vDesc D
  ·rw [hv] at HV
   refine cbS Tryz.func97 rfl Tryz.call97 Tryz.ntmps97 fun en hsz hks hk0=>?_;refine enS ?_
   (repeat (first|refine ctlS ?_|(refine ol_go ?_ (fun K1 hK1=>?_);exact trS;refine evS ?_;(try simp only [n1,n2]);refine hK1 _ _ ?_;clear hK1 K1)|(refine ow_go ?_ dsS (fun K1 hK1=>?_);exact trS;refine evS ?_;(try simp only [n1,n2]);refine hK1 _ ?_;clear hK1 K1)|refine skipS ?_|refine cS (HP) ?_|refine cS (HV) ?_|refine aw_condT rfl ?_|refine aw_condF rfl ?_))
   (refine rtS Tryz.results97 ?_;exact ⟨_,_,.inl ⟨rfl,rfl⟩,List.nodup_nil,rfl⟩)
  ·rw [hv] at HV h
   have w1:decide ((400:Int)<(b.length:Int))=true:=decide_eq_true (by
    have:¬b.length≤400:=fun h2=>h ⟨rfl,rfl,h2⟩
    omega)
   refine cbS Tryz.func97 rfl Tryz.call97 Tryz.ntmps97 fun en hsz hks hk0=>?_;refine enS ?_
   (repeat (first|refine ctlS ?_|(refine ol_go ?_ (fun K1 hK1=>?_);exact trS;refine evS ?_;(try simp only [n1,w1]);refine hK1 _ _ ?_;clear hK1 K1)|(refine ow_go ?_ dsS (fun K1 hK1=>?_);exact trS;refine evS ?_;(try simp only [n1,w1]);refine hK1 _ ?_;clear hK1 K1)|refine skipS ?_|refine cS (HP) ?_|refine cS (HV) ?_|refine aw_condT rfl ?_|refine aw_condF rfl ?_))
   (refine rtS Tryz.results97 ?_;exact ⟨_,_,.inl ⟨rfl,rfl⟩,List.nodup_nil,rfl⟩)
theorem locS_y (hD:DB M D) (hM:M≤1048576) {s:ByteArray} (hs:s.size≤1048576) (h:(splP s).2=true∧vDesc D=true∧b.length≤400):AC Tryz.prog 97 [.d (encD D),.d (encB b),.d (sD s)] none (fun r' _=>r'=.d (locE s (locP D b s))):=by
 obtain ⟨hV,hl⟩:=vDesc_len h.2.1
 have hb4:=h.2.2
 rw [locP_go h]
 have HP:=splPS_c hs
 have hpl:=splP_len s
 have HV:=validS_c hD hM
 rw [h.2.1] at HV
 have HRt:=(rootS_c hD hM).eqv (r1:=.d (iD ((D.length - 1:Nat):Int))) (by rw [show ((D.length - 1:Nat):Int)=(D.length:Int) - 1 by omega])
 have hok:=h.1
 have n1:(!true)=false:=rfl
 have n2:(!false)=true:=rfl
 have w1:decide ((400:Int)<(b.length:Int))=false:=decide_eq_false (by omega)
 have HR:∀ k q':Nat,k<D.length→q'≤b.length→AC Tryz.prog 31 [.d (encD D),.d (iD k),.d (encB b),.d (iD q')] none (fun r _=>r=rdR (rd D b D.length k q')):=fun k q' h1 h2=>l11Read_all hD hM (by omega) hV D.length k q' h1 h1 h2
 generalize splP s=sp at *
 obtain ⟨ss,ok⟩:=sp
 simp only at HP hok hpl ⊢
 subst hok
 refine cbS Tryz.func97 rfl Tryz.call97 Tryz.ntmps97 fun en hsz hks hk0=>?_;refine enS ?_
 (repeat (first|refine ctlS ?_|(refine ol_go ?_ (fun K1 hK1=>?_);exact trS;refine evS ?_;(try simp only [n1,w1]);refine hK1 _ _ ?_;clear hK1 K1)|(refine ow_go ?_ dsS (fun K1 hK1=>?_);exact trS;refine evS ?_;(try simp only [n1,w1]);refine hK1 _ ?_;clear hK1 K1)|refine skipS ?_|refine cS (HP) ?_|refine cS (HV) ?_|refine cS (HRt) ?_|refine aw_condT rfl ?_|refine aw_condF rfl ?_))
 refine aw_loopS [1,2,3,6,7,8] (fun _ _=>[]) (fun _ z=>[(12,.d (iD (z.1:Nat))),(10,.d (iD (z.2.1:Nat))),(11,.d (iD (z.2.2:Nat)))]) [] (fun _ _=>[]) [] (fun _ _=>[]) (fun z:Nat × Nat × Nat=>z.1≤ss.length∧z.2.1<D.length∧z.2.2≤b.length∧goN D b ss (D.length - 1) 0=goN D b (ss.drop z.1) z.2.1 z.2.2) (fun z=>ss.length - z.1) ((0,D.length - 1,0)) hks (fun _=>rfl) ⟨Nat.zero_le _,by simp only;omega,Nat.zero_le _,rfl⟩ wkS ?_;intro x hx;refine headS ?_
 obtain ⟨i,r,p⟩:=x
 simp only at hx ⊢
 obtain ⟨hx1,hx2,hx3,hx4⟩:=hx
 refine walkS ?_
 refine aw_condS rfl (fun hi=>?_) (fun hi=>?_)
 ·have hil:i<ss.length:=by omega
  have i1:ss[i]?=some ss[i]:=List.getElem?_eq_getElem hil
  have e1:IntKind.i64.wrap ((i:Int)+1)=((i+1:Nat):Int):=by rw [wrap_small (by omega) (by omega)];omega
  have HS:=stpS_c hD hM (b:=b) (by omega) hV hx2 hx3 ss[i]
  rw [goN_at hil] at hx4
  cases hg:goS D b r p ss[i] with
  | none=>
   rw [hg] at HS hx4
   have HS':AC Tryz.prog 135 [.d (encD D),.d (iD r),.d (encB b),.d (iD p),.d (sD ss[i])] none (fun r' _=>r'=.d (.tup [iD 0,iD 0,bD false])):=HS
   rw [hx4]
   (repeat (first|refine ctlS ?_|(refine ol_go ?_ (fun K1 hK1=>?_);exact trS;refine evS ?_;(try simp only [n2]);refine hK1 _ _ ?_;clear hK1 K1)|(refine ow_go ?_ dsS (fun K1 hK1=>?_);exact trS;refine evS ?_;(try simp only [n2]);refine hK1 _ ?_;clear hK1 K1)|refine skipS ?_|refine cS (HS') ?_|refine aw_condT rfl ?_|refine aw_condF rfl ?_))
   (refine rtS Tryz.results97 ?_;exact ⟨_,_,.inl ⟨rfl,rfl⟩,List.nodup_nil,rfl⟩)
  | some y=>
   obtain ⟨k,q⟩:=y
   have hin:=goS_in hV hx2 hx3 hg
   simp only at hin
   rw [hg] at HS hx4
   have HS':AC Tryz.prog 135 [.d (encD D),.d (iD r),.d (encB b),.d (iD p),.d (sD ss[i])] none (fun r' _=>r'=.d (.tup [iD k,iD q,bD true])):=HS
   (repeat (first|refine ctlS ?_|(refine ol_go ?_ (fun K1 hK1=>?_);exact trS;refine evS ?_;(try simp only [n1,e1]);refine hK1 _ _ ?_;clear hK1 K1)|(refine ow_go ?_ dsS (fun K1 hK1=>?_);exact trS;refine evS ?_;(try simp only [n1,e1]);refine hK1 _ ?_;clear hK1 K1)|refine skipS ?_|refine cS (HS') ?_|refine aw_condT rfl ?_|refine aw_condF rfl ?_))
   refine ⟨(i+1,k,q),⟨by simp only;omega,by simp only;omega,hin.2,hx4⟩,by simp only;omega,?_⟩
   exact wkS
 ·rw [goN_end (by omega)] at hx4
  rw [hx4]
  have hR:=HR r p hx2 hx3
  simp only [Option.bind_some]
  generalize rd D b D.length r p=res at *
  obtain ⟨v,q,c⟩:=res
  simp only
  by_cases hc:c=0
  ·subst hc
   have w2:(((0:Nat):Int) != 0)=false:=rfl
   rw [if_pos rfl]
   (repeat (first|refine ctlS ?_|(refine ol_go ?_ (fun K1 hK1=>?_);exact trS;refine evS ?_;(try simp only [w2]);refine hK1 _ _ ?_;clear hK1 K1)|(refine ow_go ?_ dsS (fun K1 hK1=>?_);exact trS;refine evS ?_;(try simp only [w2]);refine hK1 _ ?_;clear hK1 K1)|refine skipS ?_|refine cS (hR) ?_|refine aw_condT rfl ?_|refine aw_condF rfl ?_))
   (refine rtS Tryz.results97 ?_;exact ⟨_,_,.inl ⟨rfl,rfl⟩,List.nodup_nil,rfl⟩)
  ·have w2:((c:Int) != 0)=true:=by rw [bne_iff_ne];omega
   rw [if_neg hc]
   (repeat (first|refine ctlS ?_|(refine ol_go ?_ (fun K1 hK1=>?_);exact trS;refine evS ?_;(try simp only [w2]);refine hK1 _ _ ?_;clear hK1 K1)|(refine ow_go ?_ dsS (fun K1 hK1=>?_);exact trS;refine evS ?_;(try simp only [w2]);refine hK1 _ ?_;clear hK1 K1)|refine skipS ?_|refine cS (hR) ?_|refine aw_condT rfl ?_|refine aw_condF rfl ?_))
   (refine rtS Tryz.results97 ?_;exact ⟨_,_,.inl ⟨rfl,rfl⟩,List.nodup_nil,rfl⟩)
theorem locS_c (hD:DB M D) (hM:M≤1048576) {s:ByteArray} (hs:s.size≤1048576):AC Tryz.prog 97 [.d (encD D),.d (encB b),.d (sD s)] none (fun r' _=>r'=.d (locE s (locP D b s))):=by
 by_cases h:(splP s).2=true∧vDesc D=true∧b.length≤400
 ·exact locS_y hD hM hs h
 ·rw [locP_no h]
  exact locS_n hD hM hs h
end
end Go.Proofs.YtomfggmmhkpeeaaGreatDoor.Eng
namespace Go.Proofs.YtomfggmmhkpeeaaGreatDoor.Eng
open Go Go.RowKit

theorem repEs_row {C:CellR}{g:Nat}:∀ (l:List ByteArray) (o:Nat),(∀ j x,l[j]?=some x→C g (o+j) (.string x))→RepEs C 1 (l.map fun t=>[sD t]) g o
 | [],_,_=>by simp only [List.map_nil];unfold RepEs;trivial
 | x::l,o,h=>by
  simp only [List.map_cons]
  unfold RepEs
  refine ⟨rfl,?_,repEs_row l (o+1) fun j y hj=>?_⟩
  ·unfold RepCs
   refine ⟨⟨_,h 0 x rfl,by unfold RepD;rfl⟩,?_⟩
   unfold RepCs
   trivial
  ·have:=h (j+1) y (by simpa using hj)
   rwa [show o+(j+1)=o+1+j by omega] at this
theorem AC.of_row {P:Program}{f:FuncId}{args:List A}{l:List ByteArray}{ok:Bool}{t:TypeId} (he:∀ vs w,(callFunc f vs).run P w=.ok (.enter f vs) w)
  (h:∀ w C vs,Cok C w→RepAL (argG C none 0) args vs→Calls P f ⟨vs⟩ w fun e w'=>∃ v,e=.returned (.tuple #[v,.bool ok])∧w'.ownsRow w.heap.size t 1 v l.length (l.map Value.string)∧Below w.heap.size w w'):AC P f args none (fun r _=>r=.d (.tup [encS l,bD ok])):=by
 refine ⟨he,fun w C β F0 vs hC hr hbo _=>?_⟩
 have e0:argG C none β=argG C none 0:=by simp [argG]
 rw [e0] at hr
 refine (h w C vs hC hr).mono fun e w' ⟨v,h1,h2,h3⟩=>?_
 have hC1:=hC.below h3
 -- the row's cells
 obtain ⟨g,hrow⟩:∃ g,(v=.slice none 0 0∧l=[])∨(∃ cap,v=.slice (some ⟨g,0,none⟩) l.length cap∧w.heap.size≤g∧l.length≤cap∧cap≤maxLen∧(∀ j x,l[j]?=some x→w'.cell? ⟨g,j,none⟩=some (.string x))∧∀ o,w'.frozen? ⟨g,o,none⟩=false):=by
  rcases h2.2 with ⟨rfl,h0⟩|⟨g,cap,cur,rfl,hb,hg,hn,hm,hs,ht⟩
  ·exact ⟨0,.inl ⟨rfl,List.length_eq_zero_iff.1 h0⟩⟩
  ·refine ⟨g,.inr ⟨cap,rfl,hb,hn,hm,fun j x hj=>?_,fun o=>frz_of_cells hg⟩⟩
   have:=h2.cells (g:=g) rfl j (.string x) (by rw [List.getElem?_map,hj];rfl)
   rwa [addr_add,Nat.zero_add] at this
 let C':CellR:=fun b o u=>C b o u∨(b=g∧w.heap.size≤g∧w'.cell? ⟨g,o,none⟩=some u∧(∃ x,u=.string x)∧w'.frozen? ⟨g,o,none⟩=false)
 refine ⟨_,.d (.tup [encS l,bD ok]),none,C',[],[],h1,rfl,rfl,fun _ _ _ h=>.inl h,⟨fun b o u hc=>?_,fun b o u hc hb=>?_,hC1.gl.mono fun _ _ _ h=>.inl h,hC1.tb⟩,BelowX.of h3,fun b o u hc=>?_,?_,rfl,by simp [XO],fun b hb=>by simp at hb⟩
 ·rcases hc with hc|⟨rfl,_,hc,⟨x,rfl⟩,_⟩
  ·exact hC1.cell b o u hc
  ·exact ⟨hc,rfl⟩
 ·rcases hc with hc|⟨rfl,_,_,_,hc⟩
  ·exact hC1.nf b o u hc hb
  ·exact hc
 ·rcases hc with hc|⟨rfl,hg,_⟩
  ·exact .inl hc
  ·exact .inr (.inl hg)
 ·unfold RepZ
  refine ⟨rfl,?_⟩
  unfold RepD
  refine ⟨_,rfl,?_⟩
  unfold RepL
  refine ⟨_,_,rfl,?_,?_⟩
  ·unfold encS RepD
   rcases hrow with ⟨rfl,rfl⟩|⟨cap,rfl,hg,h4,h5,h6,h7⟩
   ·exact ⟨none,0,rfl,Nat.le_refl _,by decide,.inl rfl⟩
   ·refine ⟨_,cap,by simp,by simpa using h4,h5,.inr ⟨g,0,rfl,repEs_row l 0 fun j x hj=>.inr ⟨rfl,hg,?_,⟨x,rfl⟩,h7 _⟩⟩⟩
    rw [Nat.zero_add]
    exact h6 j x hj
  ·unfold RepL
   refine ⟨_,_,rfl,by unfold RepD;rfl,?_⟩
   unfold RepL
   rfl
theorem splitW_c {s:ByteArray} (hs:s.size≤1048576):AC Tryz.prog 151 [.d (sD s),(.d (.v (.func (.func 152) #[] #[])))] none (fun r' _=>r'=.d (.tup [encS (splP s).1,bD (splP s).2])):=
 AC.of_row (t:=9) Tryz.call151 fun w C vs hC hr=>by
  unfold RepAL at hr
  obtain ⟨u,us,rfl,h2,h3⟩:=hr
  unfold RepAL at h3
  obtain ⟨u2,us2,rfl,h4,h5⟩:=h3
  unfold RepAL at h5
  subst h5
  unfold RepA RepD at h2 h4
  subst h2 h4
  exact splitI_of hs hC
theorem splPI_c {s:ByteArray} (hs:s.size≤1048576):AC Tryz.prog 136 [.d (sD s)] none (fun r' _=>r'=.d (.tup [encS (splP s).1,bD (splP s).2])):=by
 refine cbS Tryz.func136 rfl Tryz.call136 Tryz.ntmps136 fun en hsz hks hk0=>?_;refine enS ?_
 (repeat (first|refine walkS ?_|refine cS (splitW_c hs) ?_|refine aw_condT rfl ?_|refine aw_condF rfl ?_))
 (refine rtS Tryz.results136 ?_;exact ⟨_,_,.inl ⟨rfl,rfl⟩,List.nodup_nil,rfl⟩)
end Go.Proofs.YtomfggmmhkpeeaaGreatDoor.Eng
namespace Go.Proofs.YtomfggmmhkpeeaaGreatDoor.Eng
open Go Go.RowKit

section
variable {M:Nat}{D:List RuleD}{b:List UInt8}
theorem locI_n (hD:DB M D) (hM:M≤1048576) {s:ByteArray} (hs:s.size≤1048576) (h:¬((splP s).2=true∧vDesc D=true∧b.length≤400)):AC Tryz.prog 98 [.d (encD D),.d (encB b),.d (sD s)] none (fun r' _=>r'=.d (locE s none)):=by
 have HP:=splPI_c hs
 have HV:=validI_c hD hM
 have n1:(!true)=false:=rfl
 have n2:(!false)=true:=rfl
 generalize splP s=sp at *
 obtain ⟨ss,ok⟩:=sp
 simp only at HP h
 cases ok
 ·refine cbS Tryz.func98 rfl Tryz.call98 Tryz.ntmps98 fun en hsz hks hk0=>?_;refine enS ?_
  (repeat (first|refine ctlS ?_|(refine ol_go ?_ (fun K1 hK1=>?_);exact trS;refine evS ?_;(try simp only [n2]);refine hK1 _ _ ?_;clear hK1 K1)|(refine ow_go ?_ dsS (fun K1 hK1=>?_);exact trS;refine evS ?_;(try simp only [n2]);refine hK1 _ ?_;clear hK1 K1)|refine skipS ?_|refine cS (HP) ?_|refine aw_condT rfl ?_|refine aw_condF rfl ?_))
  (refine rtS Tryz.results98 ?_;exact ⟨_,_,.inl ⟨rfl,rfl⟩,List.nodup_nil,rfl⟩)
 ·cases hv:vDesc D
  ·rw [hv] at HV
   refine cbS Tryz.func98 rfl Tryz.call98 Tryz.ntmps98 fun en hsz hks hk0=>?_;refine enS ?_
   (repeat (first|refine ctlS ?_|(refine ol_go ?_ (fun K1 hK1=>?_);exact trS;refine evS ?_;(try simp only [n1,n2]);refine hK1 _ _ ?_;clear hK1 K1)|(refine ow_go ?_ dsS (fun K1 hK1=>?_);exact trS;refine evS ?_;(try simp only [n1,n2]);refine hK1 _ ?_;clear hK1 K1)|refine skipS ?_|refine cS (HP) ?_|refine cS (HV) ?_|refine aw_condT rfl ?_|refine aw_condF rfl ?_))
   (refine rtS Tryz.results98 ?_;exact ⟨_,_,.inl ⟨rfl,rfl⟩,List.nodup_nil,rfl⟩)
  ·rw [hv] at HV h
   have w1:decide ((400:Int)<(b.length:Int))=true:=decide_eq_true (by
    have:¬b.length≤400:=fun h2=>h ⟨rfl,rfl,h2⟩
    omega)
   refine cbS Tryz.func98 rfl Tryz.call98 Tryz.ntmps98 fun en hsz hks hk0=>?_;refine enS ?_
   (repeat (first|refine ctlS ?_|(refine ol_go ?_ (fun K1 hK1=>?_);exact trS;refine evS ?_;(try simp only [n1,w1]);refine hK1 _ _ ?_;clear hK1 K1)|(refine ow_go ?_ dsS (fun K1 hK1=>?_);exact trS;refine evS ?_;(try simp only [n1,w1]);refine hK1 _ ?_;clear hK1 K1)|refine skipS ?_|refine cS (HP) ?_|refine cS (HV) ?_|refine aw_condT rfl ?_|refine aw_condF rfl ?_))
   (refine rtS Tryz.results98 ?_;exact ⟨_,_,.inl ⟨rfl,rfl⟩,List.nodup_nil,rfl⟩)
theorem locI_y (hD:DB M D) (hM:M≤1048576) {s:ByteArray} (hs:s.size≤1048576) (h:(splP s).2=true∧vDesc D=true∧b.length≤400):AC Tryz.prog 98 [.d (encD D),.d (encB b),.d (sD s)] none (fun r' _=>r'=.d (locE s (locP D b s))):=by
 obtain ⟨hV,hl⟩:=vDesc_len h.2.1
 have hb4:=h.2.2
 rw [locP_go h]
 have HP:=splPI_c hs
 have hpl:=splP_len s
 have hpi:=fun x (hx:x∈(splP s).1)=>splP_in hx
 have HV:=validI_c hD hM
 rw [h.2.1] at HV
 have HRt:=(rootI_c hD hM).eqv (r1:=.d (iD ((D.length - 1:Nat):Int))) (by rw [show ((D.length - 1:Nat):Int)=(D.length:Int) - 1 by omega])
 have hok:=h.1
 have n1:(!true)=false:=rfl
 have n2:(!false)=true:=rfl
 have w1:decide ((400:Int)<(b.length:Int))=false:=decide_eq_false (by omega)
 generalize splP s=sp at *
 obtain ⟨ss,ok⟩:=sp
 simp only at HP hok hpl hpi ⊢
 subst hok
 refine cbS Tryz.func98 rfl Tryz.call98 Tryz.ntmps98 fun en hsz hks hk0=>?_;refine enS ?_
 (repeat (first|refine ctlS ?_|(refine ol_go ?_ (fun K1 hK1=>?_);exact trS;refine evS ?_;(try simp only [n1,w1]);refine hK1 _ _ ?_;clear hK1 K1)|(refine ow_go ?_ dsS (fun K1 hK1=>?_);exact trS;refine evS ?_;(try simp only [n1,w1]);refine hK1 _ ?_;clear hK1 K1)|refine skipS ?_|refine cS (HP) ?_|refine cS (HV) ?_|refine cS (HRt) ?_|refine aw_condT rfl ?_|refine aw_condF rfl ?_))
 refine aw_loopS [2,6,7,10,38,39] (fun _ _=>[]) (fun _ z=>[(40,.d (iD (z.1:Nat)))]) [160] (fun _ z=>[(160,some ((locD D b (z.2.1:Nat) z.2.2).map .d))]) [] (fun _ _=>[]) (fun z:Nat × Nat × Nat=>z.1≤ss.length∧z.2.1<D.length∧z.2.2≤b.length∧goN D b ss (D.length - 1) 0=goN D b (ss.drop z.1) z.2.1 z.2.2) (fun z=>ss.length - z.1) ((0,D.length - 1,0)) hks (fun _=>rfl) ⟨Nat.zero_le _,by simp only;omega,Nat.zero_le _,rfl⟩ wkS ?_;intro x hx;refine headS ?_
 obtain ⟨i,r,p⟩:=x
 simp only at hx ⊢
 obtain ⟨hx1,hx2,hx3,hx4⟩:=hx
 refine walkS ?_
 refine aw_condS rfl (fun hi=>?_) (fun hi=>?_)
 ·have hil:i<ss.length:=by omega
  have i1:ss[i]?=some ss[i]:=List.getElem?_eq_getElem hil
  have e1:IntKind.i64.wrap ((i:Int)+1)=((i+1:Nat):Int):=by rw [wrap_small (by omega) (by omega)];omega
  have HF:=fol_all hD hM hb4 hV hx2 hx3 (s:=ss[i]) (by have:=hpi ss[i] (List.getElem_mem _);omega)
  unfold FolOK at HF
  rw [goN_at hil] at hx4
  cases hg:goS D b r p ss[i] with
  | none=>
   rw [hg] at HF hx4
   obtain ⟨n',e,HF'⟩:=HF
   rw [hx4]
   (repeat (first|refine ctlS ?_|(refine ol_go ?_ (fun K1 hK1=>?_);exact trS;refine evS ?_;(try simp only [n2]);refine hK1 _ _ ?_;clear hK1 K1)|(refine ow_go ?_ dsS (fun K1 hK1=>?_);exact trS;refine evS ?_;(try simp only [n2]);refine hK1 _ ?_;clear hK1 K1)|refine skipS ?_|refine vS 160 (HF') ?_|refine aw_condT rfl ?_|refine aw_condF rfl ?_))
   (refine rtS Tryz.results98 ?_;exact ⟨_,_,.inl ⟨rfl,rfl⟩,List.nodup_nil,rfl⟩)
  | some y=>
   obtain ⟨k,q⟩:=y
   have hin:=goS_in hV hx2 hx3 hg
   simp only at hin
   rw [hg] at HF hx4
   have HF':AC Tryz.prog 137 [.ptr 0 0,.d (sD ss[i])] (some ((locD D b (r:Nat) p).map .d)) (fun r' bx=>r'=.d (bD true)∧bx=some ((locD D b (k:Nat) q).map .d)):=HF
   (repeat (first|refine ctlS ?_|(refine ol_go ?_ (fun K1 hK1=>?_);exact trS;refine evS ?_;(try simp only [n1,e1]);refine hK1 _ _ ?_;clear hK1 K1)|(refine ow_go ?_ dsS (fun K1 hK1=>?_);exact trS;refine evS ?_;(try simp only [n1,e1]);refine hK1 _ ?_;clear hK1 K1)|refine skipS ?_|refine vS 160 (HF') ?_|refine aw_condT rfl ?_|refine aw_condF rfl ?_))
   refine ⟨(i+1,k,q),⟨by simp only;omega,by simp only;omega,hin.2,hx4⟩,by simp only;omega,?_⟩
   exact wkS
 ·rw [goN_end (by omega)] at hx4
  rw [hx4]
  have hQ:=fun v q c=>pass_c hD hM hb4 hV hx2 hx3 (r:Int) (v:=v) (q:=q) (c:=c)
  simp only [Option.bind_some]
  generalize rd D b D.length r p=res at *
  obtain ⟨v,q,c⟩:=res
  simp only
  by_cases hc:c=0
  ·subst hc
   have hP:AC Tryz.prog 138 [.ptr 0 0,.d (iD (r:Nat))] (some ((locD D b (r:Nat) p).map .d)) (fun r' bx=>r'=.d (bD true)∧bx=some ((locD D b (r:Nat) q).map .d)):=hQ v q 0 rfl
   rw [if_pos rfl]
   (repeat (first|refine ctlS ?_|(refine ol_go ?_ (fun K1 hK1=>?_);exact trS;refine evS ?_;(try simp only [n1]);refine hK1 _ _ ?_;clear hK1 K1)|(refine ow_go ?_ dsS (fun K1 hK1=>?_);exact trS;refine evS ?_;(try simp only [n1]);refine hK1 _ ?_;clear hK1 K1)|refine skipS ?_|refine vS 160 (hP) ?_|refine aw_condT rfl ?_|refine aw_condF rfl ?_))
   (refine rtS Tryz.results98 ?_;exact ⟨_,_,.inl ⟨rfl,rfl⟩,List.nodup_nil,rfl⟩)
  ·have hP:AC Tryz.prog 138 [.ptr 0 0,.d (iD (r:Nat))] (some ((locD D b (r:Nat) p).map .d)) (fun r' bx=>r'=.d (bD false)∧bx=some ((locD D b (r:Nat) q).map .d)):=by
    have:=hQ v q c rfl
    rwa [decide_eq_false hc] at this
   rw [if_neg hc]
   (repeat (first|refine ctlS ?_|(refine ol_go ?_ (fun K1 hK1=>?_);exact trS;refine evS ?_;(try simp only [n2]);refine hK1 _ _ ?_;clear hK1 K1)|(refine ow_go ?_ dsS (fun K1 hK1=>?_);exact trS;refine evS ?_;(try simp only [n2]);refine hK1 _ ?_;clear hK1 K1)|refine skipS ?_|refine vS 160 (hP) ?_|refine aw_condT rfl ?_|refine aw_condF rfl ?_))
   (refine rtS Tryz.results98 ?_;exact ⟨_,_,.inl ⟨rfl,rfl⟩,List.nodup_nil,rfl⟩)
theorem locI_c (hD:DB M D) (hM:M≤1048576) {s:ByteArray} (hs:s.size≤1048576):AC Tryz.prog 98 [.d (encD D),.d (encB b),.d (sD s)] none (fun r' _=>r'=.d (locE s (locP D b s))):=by
 by_cases h:(splP s).2=true∧vDesc D=true∧b.length≤400
 ·exact locI_y hD hM hs h
 ·rw [locP_no h]
  exact locI_n hD hM hs h
end
end Go.Proofs.YtomfggmmhkpeeaaGreatDoor.Eng
