/-
 Values whose rows lie in blocks of their own.

 The program's reader: bytes that nobody else has.
-/
import Derived.Test.YtomfggmmhkpeeaaGreatDoorKE47
import Derived.Test.YtomfggmmhkpeeaaGreatDoorKNF
import Derived.Test.YtomfggmmhkpeeaaGreatDoorKP2
import Derived.Test.YtomfggmmhkpeeaaGreatDoorKN32
set_option linter.unusedSimpArgs false
set_option linter.unusedVariables false
set_option linter.defProp false
set_option maxRecDepth 100000
set_option maxHeartbeats 4000000
namespace Go.Proofs.YtomfggmmhkpeeaaGreatDoor.Eng
open Go Go.RowKit

mutual
def encWc:V→List D
 | .mk n bs vs=>[iD n,encB bs,.sp 3 (encWs vs)]
def encWs:List V→List (List D)
 | []=>[]
 | v::vs=>encWc v::encWs vs
end
theorem encWs_eq (vs:List V):encWs vs=vs.map encWc:=by
 induction vs with
 | nil=>rfl
 | cons v vs ih=>simp only [encWs,List.map_cons,ih]
theorem encWs_len (vs:List V):(encWs vs).length=vs.length:=by rw [encWs_eq];simp
theorem encWs_nil:encWs []=[]:=rfl
theorem encWs_snoc (a:List V) (v:V):encWs (a++[v])=encWs a++[encWc v]:=by simp [encWs_eq]
def encWi (p:Nat→Prop):V→List D
 | .mk n bs vs=>[iD n,.iv p (encB bs),.iv p (.sp 3 (encWs vs))]
theorem encWi_on (p:Nat→Prop):∀ v:V,OnSL p (encWi p v) (encWc v)
 | .mk _ _ _=>.cons .v (.cons .iv (.cons .iv .nil))
theorem encWi_len (p:Nat→Prop):∀ v:V,(encWi p v).length=3
 | .mk _ _ _=>rfl
theorem mkAgg_W (p:Nat→Prop) (v:V):mkAgg (((encWi p v).map .d).take 3)=.d (.agg (encWi p v)):=by cases v;rfl
theorem cells1_W (p:Nat→Prop) (v:V):cells1 (.d (.agg (encWi p v)))=some ((encWi p v).map .d):=rfl

theorem wkSW {p:Prop} (h:p:=by (refine ⟨?_,?_,?_,?_⟩<;>simp (decide:=true) only [St.head,wkFr,wkBx,wkB,wkBc,wkAl,wkAlv,wkA,wkO,wkL,wkD_selfT,wkL_d,ltL_dT,sg,keyOf,keyB,keyBc,List.getD_cons_zero,List.getD_cons_succ,encVs_len,lk,St.f,rmv,keysOk,liveKeys,A.lt,A.ltL,List.map_cons,List.map_nil,List.cons_append,List.nil_append,and_true,true_and,and_self,reduceIte,reduceCtorEq,Option.some.injEq,List.length_cons,List.length_nil,List.length_append,Nat.reduceAdd,exists_eq_left',exists_eq_left,natCast0,natCast1,Int.add_sub_cancel,List.flatten_replicate_singleton,List.take_zero,Nat.sub_zero,List.map_replicate,Nat.zero_add,List.append_nil,List.all_nil,List.all_cons,List.map_append,List.length_map,wkL_arrC,arrC_lt,wkD_ownB,wkD_ownB0,wkD_ownV0,wkD_nilB,wkD_ownV,wkD_nilV,wkD_agg,wkD_tup,wkDL_nil,wkDL_cons,encVs_append,encVs_one,encVs_nil,encV_mk,V0,dle_agg,dle_tup,dleL_nil,dleL_cons,dle_nil,dle_nilB,wkD_tupd,wkD_aggd,dle_selfT,wkSo,encWs_len,encWs_snoc,encWs_nil]<;>(try exact wkD_self _))):p:=h
theorem toZ_agg {m:Mem}{cs:List A}{zs:List Rz}{ks:List Nat} (h:ToZL m cs zs ks):ToZ m (.agg cs) (.agg zs) ks:=by unfold ToZ;exact ⟨_,rfl,h⟩

/-! What says more. -/
inductive SemL:List D→List D→Prop
 | nil:SemL [] []
 | cons {x y xs ys}:Sem x y→SemL xs ys→SemL (x::xs) (y::ys)
theorem SemL.rep {C:CellR}{xs ys:List D} (h:SemL xs ys):∀ {us:List Value},RepL C xs us→RepL C ys us:=by
 induction h with
 | nil=>intro us k;exact k
 | cons hx _ ih=>
  intro us k
  unfold RepL at k ⊢
  obtain ⟨u,us',h1,h2,h3⟩:=k
  exact ⟨u,us',h1,hx _ _ h2,ih h3⟩
theorem SemL.refl:∀ xs:List D,SemL xs xs
 | []=>.nil
 | x::xs=>.cons (fun _ _ h=>h) (SemL.refl xs)
theorem Sem.refl (x:D):Sem x x:=fun _ _ h=>h
theorem Sem.agg {xs ys:List D} (h:SemL xs ys):Sem (.agg xs) (.agg ys):=fun C u k=>by
 unfold RepD at k ⊢
 obtain ⟨us,h1,h2,h3⟩:=k
 exact ⟨us,h1,h.rep h2,h3⟩
theorem Sem.tup {xs ys:List D} (h:SemL xs ys):Sem (.tup xs) (.tup ys):=fun C u k=>by
 unfold RepD at k ⊢
 obtain ⟨us,h1,h2⟩:=k
 exact ⟨us,h1,h.rep h2⟩
theorem Sem.ivle {p q:Nat→Prop} (h:∀ b,p b→q b) {x y:D} (k:Sem x y):Sem (.iv p x) (.iv q y):=fun C u r=>by
 rw [repD_iv] at r ⊢
 exact k _ _ (RepD.mono (fun _ _ _ hc=>⟨hc.1,h _ hc.2⟩) _ _ r)
theorem Sem.nilB {p:Nat→Prop}:Sem (.v (.slice none 0 0)) (.iv p (encB [])):=fun C u r=>by
 rw [repD_v] at r
 subst r
 rw [repD_iv]
 unfold encB RepD
 exact ⟨none,0,rfl,by simp,by decide,.inl rfl⟩
theorem Sem.nilP {p:Nat→Prop}{z:Nat}:Sem (.v (.slice none 0 0)) (.iv p (.sp z [])):=fun C u r=>by
 rw [repD_v] at r
 subst r
 rw [repD_iv]
 unfold RepD
 exact ⟨none,0,rfl,by simp,by decide,.inl rfl⟩
theorem Sem.wi {p q:Nat→Prop} (h:∀ b,p b→q b):∀ v:V,SemL (encWi p v) (encWi q v)
 | .mk _ _ _=>.cons (Sem.refl _) (.cons (Sem.ivle h (Sem.refl _)) (.cons (Sem.ivle h (Sem.refl _)) .nil))
theorem Sem.out {p:Nat→Prop}{x:D}:Sem (.iv p x) x:=fun C u r=>RepD.mono (fun _ _ _ hc=>hc.1) _ _ (repD_iv.1 r)
theorem semS {p:Prop} (h:p:=by
 repeat (first|exact Sem.refl _|exact SemL.refl _|exact Sem.nilB|exact Sem.nilP|(exact Sem.wi (fun b hb=>hb) _)|(exact Sem.wi (fun b hb=>by omega) _)|exact SemL.nil|refine Sem.tup ?_|refine Sem.agg ?_|refine SemL.cons ?_ ?_|(refine Sem.ivle (fun b hb=>by omega) ?_))):p:=h
abbrev rdW (m:Nat) (x:V × Nat × Nat) (n0:Nat):D:=.tup [.agg (encWi (fun b=>n0≤b) x.1),iD m,eD x.2.1 x.2.2]
theorem rdW_p {m:Nat}{v:V}{q c:Nat} (h:c≠0):rdW m (v,q,c)=fun n0=>.tup [.agg (encWi (fun b=>n0≤b) v),iD m,erD q c]:=by funext n0;simp only [rdW,eD_p h]
theorem rdW_anti (v:V) (y z:D):∀ m n,m≤n→∀ (C:CellR) u,RepD C (.tup [.agg (encWi (fun b=>n≤b) v),y,z]) u→RepD C (.tup [.agg (encWi (fun b=>m≤b) v),y,z]) u:=fun m n hmn=>Sem.tup (.cons (Sem.agg (Sem.wi (fun b hb=>by omega) v)) (.cons (Sem.refl _) (.cons (Sem.refl _) .nil)))

/-! Forgetting that. -/
mutual
theorem w_cells:∀ (v:V) {C:CellR}{F:Nat→Prop}{b o:Nat},RepCsF C F (encWc v) b o→RepCs C (encVc v) b o
 | .mk n bs vs,C,F,b,o,h=>by
  simp only [encWc] at h
  simp only [encVc]
  unfold RepCsF at h
  obtain ⟨⟨u0,a1,a2⟩,h⟩:=h
  unfold RepCsF at h
  obtain ⟨⟨u1,b1,b2⟩,h⟩:=h
  unfold RepCsF at h
  obtain ⟨⟨u2,c1,c2⟩,_⟩:=h
  unfold RepCs
  refine ⟨⟨u0,a1,RepD.mono (fun _ _ _ hc=>hc.1) _ _ a2⟩,?_⟩
  unfold RepCs
  refine ⟨⟨u1,b1,RepD.mono (fun _ _ _ hc=>hc.1) _ _ b2⟩,?_⟩
  unfold RepCs
  refine ⟨⟨u2,c1,?_⟩,by unfold RepCs;trivial⟩
  unfold RepD at c2 ⊢
  obtain ⟨a,cap,e1,e2,e3,e4⟩:=c2
  rw [encWs_len] at e1 e2
  refine ⟨a,cap,by rw [encVs_len];exact e1,by rw [encVs_len];exact e2,e3,?_⟩
  rcases e4 with e4|⟨b',o',ha,e4⟩
  ·left
   cases vs with
   | nil=>rfl
   | cons v vs=>simp [encWs] at e4
  ·exact .inr ⟨b',o',ha,RepEs.mono (fun _ _ _ hc=>hc.1) _ _ _ _ (w_rows vs e4)⟩
theorem w_rows:∀ (vs:List V) {C:CellR}{b o:Nat},RepSp C 3 (encWs vs) b o→RepEs C 3 (encVs vs) b o
 | [],C,b,o,_=>by simp only [encVs];unfold RepEs;trivial
 | v::vs,C,b,o,h=>by
  simp only [encWs] at h
  simp only [encVs]
  unfold RepSp at h
  obtain ⟨F,h0,h1,h2,h3⟩:=h
  unfold RepEs
  refine ⟨by obtain ⟨n,bs,vs'⟩:=v;rfl,w_cells v h2,RepEs.mono (fun _ _ _ hc=>hc.1) _ _ _ _ (w_rows vs h3)⟩
end
theorem w_sl (vs:List V):Sem (.sp 3 (encWs vs)) (.sl 3 (encVs vs)):=fun C u h=>by
 unfold RepD at h ⊢
 obtain ⟨a,cap,e1,e2,e3,e4⟩:=h
 rw [encWs_len] at e1 e2
 refine ⟨a,cap,by rw [encVs_len];exact e1,by rw [encVs_len];exact e2,e3,?_⟩
 rcases e4 with e4|⟨b',o',ha,e4⟩
 ·left
  cases vs with
  | nil=>rfl
  | cons v vs=>simp [encWs] at e4
 ·exact .inr ⟨b',o',ha,w_rows vs e4⟩
end Go.Proofs.YtomfggmmhkpeeaaGreatDoor.Eng
namespace Go.Proofs.YtomfggmmhkpeeaaGreatDoor.Eng
open Go Go.RowKit

section
variable {M:Nat}{D:List RuleD}{b:List UInt8}
private def tyF:=ai (ai tg25 (ai tg27 tg29)) (ai (ai tg3 tg5) (ai tg57 tg61))
theorem rtO_c {l:List UInt8} (hl:l.length≤1048576) (p:Nat) (hp:p≤l.length) (t:UInt8) {y:List UInt8 × Nat} (hy:readTerm l p t=some y):AC Tryz.prog 72 [.d (encB l),.d (iD p),.d (uD t)] none (fun r' _=>r'=.tup [.own 5 1 (y.1.map fun c=>[uD c]),.d (iD (y.2:Nat)),.d (bD true)]):=by
 have hy1:rdT l p t=(y.1,y.2,true):=by rw [rdT,hy]
 have e1:decide ((p:Int)<0)=false:=by simp
 have e2:decide ((l.length:Int)<(p:Int))=false:=by simp;omega
 refine cbS Tryz.func72 rfl Tryz.call72 Tryz.ntmps72 fun en hsz hks hk0=>?_;refine enS ?_
 (repeat (first|refine ctlS ?_|(refine ol_go ?_ (fun K1 hK1=>?_);exact trS;refine evS ?_;(try simp only [e1,e2]);refine hK1 _ _ ?_;clear hK1 K1)|(refine ow_go ?_ dsS (fun K1 hK1=>?_);exact trS;refine evS ?_;(try simp only [e1,e2]);refine hK1 _ ?_;clear hK1 K1)|refine skipS ?_))
 refine aw_condS rfl (fun hc=>?_) (fun hc=>?_)
 ·cases hc
 refine walkS ?_
 refine aw_loopS [0,1,2,6,7,8] (fun κ s'=>[(κ,keyOf (s'.f 9))]) (fun κ x=>[(10,.d (iD (x.1:Nat))),(9,.own κ 5 1 (x.2.map fun c=>[uD c]))]) [] (fun _ _=>[]) [16] (fun κ x=>[(κ,some (x.2.length,5,1))]) (fun x=>x.1≤l.length∧TermAt l p t x.1 x.2∧x.2.length≤x.1) (fun x=>l.length - x.1) ((p,[])) hks (fun _=>rfl) ⟨hp,TermAt.refl,Nat.zero_le _⟩ wkS ?_;intro x hx;refine headS ?_
 obtain ⟨hx1,hx2,hx3⟩:=hx
 refine walkS ?_
 refine aw_condS rfl (fun hk=>?_) (fun hk=>?_)
 ·refine walkS ?_
  refine aw_condS rfl (fun he=>?_) (fun he=>?_)
  ·refine walkS ?_
   have hz:=hx2.hit (by omega) (u8_inj he)
   rw [hy1] at hz
   obtain ⟨y1,y2⟩:=y
   simp only [Prod.mk.injEq,and_true] at hz
   obtain ⟨rfl,rfl⟩:=hz
   (refine rtS Tryz.results72 ?_;exact ⟨_,_,.inl (toZ_tup (toZL_cons (toZ_own (by simp [lk,St.mem])) (toZL_cons toZ_d (toZL_cons toZ_d toZL_nil)))),by simp,by rfl⟩)
  ·have he':=u8_ninj he
   refine walkS ?_
   refine aw_condS rfl (fun h92=>?_) (fun h92=>?_)
   ·refine walkS ?_
    refine aw_condS rfl (fun hl2=>?_) (fun hl2=>?_)
    ·refine walkS ?_
     exact absurd (hy1.symm.trans (hx2.last (by omega) (by omega) he' (u8_inj (y:=92) h92))) (by simp)
    ·refine walkS ?_
     refine ⟨(x.1+1+1,x.2++[l[x.1+1]]),⟨by simp only;omega,hx2.esc (by omega) he' (u8_inj (y:=92) h92),by simp;omega⟩,by simp only;omega,?_⟩
     exact wkS
   ·refine walkS ?_
    refine ⟨(x.1+1,x.2++[l[x.1]]),⟨by simp only;omega,hx2.step (by omega) he' (u8_ninj (y:=92) h92),by simp;omega⟩,by simp only;omega,?_⟩
    exact wkS
 ·refine walkS ?_
  exact absurd (hy1.symm.trans (hx2.fin (by omega))) (by simp)

theorem contentO_c (hb:b.length≤1048576) (p:Nat) (hp:p≤b.length) (n:Nat) (hn:n≤4294967296) (h:¬(b.length:Int) - p<n):AC Tryz.prog 66 [.d (frD D b),.d (iD p),.d (iD n)] none (fun r' _=>r'=.tup [.agg [.d (iD 0),.own 5 1 ((List.take n (List.drop p b)).map fun c=>[uD c]),.d (.v (.slice none 0 0))],.d (iD (p+n:Nat)),.d nilE]):=by
 have HT:=take_c (D:=D) hb p hp n ⟨by omega,by omega⟩
 rw [if_neg h] at HT
 have hlen:(List.take n (List.drop p b)).length≤1048576:=by simp;omega
 refine cbS Tryz.func66 rfl Tryz.call66 Tryz.ntmps66 fun en hsz hks hk0=>?_;refine enS ?_
 (repeat (first|refine walkS ?_|refine cS (HT) ?_))
 refine aw_condS rfl (fun hc=>?_) (fun hc=>?_)
 ·(first|exact absurd trivial hc|exact absurd rfl hc|(cases hc;done)|omega|exact absurd hc (by decide)|(simp at hc;done))
 ·refine walkS ?_
  (refine rtS Tryz.results66 ?_;exact ⟨_,_,.inl (toZ_tup (toZL_cons (toZ_agg (toZL_cons toZ_d (toZL_cons (toZ_own (by simp [lk,St.mem])) (toZL_cons toZ_d toZL_nil)))) (toZL_cons toZ_d (toZL_cons toZ_d toZL_nil)))),by simp,by rfl⟩)
end
end Go.Proofs.YtomfggmmhkpeeaaGreatDoor.Eng
