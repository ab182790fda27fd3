/-
 Rules, descriptions, bytes, values of files as the engine has them.

 Contracts of the functions that were walked before, in the engine's words.
-/
import Derived.Test.YtaammoodcgfhpaaDoorKE3
import Derived.Test.YtaammoodcgfhpaaDoorKP
import Derived.Test.YtaammoodcgfhpaaDoorKB3
import Derived.Test.YtaammoodcgfhpaaDoorKA
set_option linter.unusedSimpArgs false
set_option linter.unusedVariables false
set_option linter.defProp false
set_option maxRecDepth 100000
set_option maxHeartbeats 4000000
namespace Go.Proofs.YtaammoodcgfhpaaDoor.Eng
open Go Go.RowKit

abbrev iD (n:Int):D:=.v (.int .i64 n)
abbrev bD (b:Bool):D:=.v (.bool b)
abbrev uD (c:UInt8):D:=.v (.int .u8 c.toNat)
abbrev sD (s:ByteArray):D:=.v (.string s)
def encB (l:List UInt8):D:=.sl 1 (l.map fun c=>[uD c])
def encI (l:List Int):D:=.sl 1 (l.map fun n=>[iD n])
def encS (l:List ByteArray):D:=.sl 1 (l.map fun s=>[sD s])
def encRc (r:RuleD):List D:=[sD r.name,iD r.kind,iD r.size,bD r.little,encB r.bytes,encS r.names,encI r.tags,encI r.kids]
def encR (r:RuleD):D:=.agg (encRc r)
def encDs (D:List RuleD):Eng.D:=.sl 8 (D.map encRc)
def encD (D:List RuleD):Eng.D:=.agg [encDs D]
mutual
def encVc:V→List D
 | .mk n bs vs=>[iD n,encB bs,.sl 3 (encVs vs)]
def encVs:List V→List (List D)
 | []=>[]
 | v::vs=>encVc v::encVs vs
end
def encV (v:V):D:=.agg (encVc v)
theorem encVs_eq (vs:List V):encVs vs=vs.map encVc:=by
 induction vs with
 | nil=>rfl
 | cons v vs ih=>simp only [encVs,List.map_cons,ih]
@[simp] theorem encVs_len (vs:List V):(encVs vs).length=vs.length:=by rw [encVs_eq];simp

structure RB (M:Nat) (r:RuleD):Prop where
 name:r.name.size≤M
 lb:r.bytes.length≤M
 ln:r.names.length≤M
 lt:r.tags.length≤M
 lk:r.kids.length≤M
 nm:∀ s∈r.names,s.size≤M
structure DB (M:Nat) (D:List RuleD):Prop where
 len:D.length≤M
 rule:∀ r∈D,RB M r

/-! ### Words for walking -/
theorem elemsOf_B (l:List UInt8):elemsOf (.d (encB l))=some (1,l.map fun c=>[uD c]):=rfl
theorem elemsOf_I (l:List Int):elemsOf (.d (encI l))=some (1,l.map fun n=>[iD n]):=rfl
theorem elemsOf_S (l:List ByteArray):elemsOf (.d (encS l))=some (1,l.map fun s=>[sD s]):=rfl
theorem elemsOf_Ds (l:List RuleD):elemsOf (.d (encDs l))=some (8,l.map encRc):=rfl
theorem lenA_B (l:List UInt8):lenA (.d (encB l))=some l.length:=by simp [encB,lenA]
theorem lenA_I (l:List Int):lenA (.d (encI l))=some l.length:=by simp [encI,lenA]
theorem lenA_S (l:List ByteArray):lenA (.d (encS l))=some l.length:=by simp [encS,lenA]
theorem lenA_Ds (l:List RuleD):lenA (.d (encDs l))=some l.length:=by simp [encDs,lenA]
theorem lenV_B (P:Program) (t:TypeId) (l:List UInt8) (K:A→Prop):lenV P t (.d (encB l)) K=(isSlc P t=true∧K (.d (iD l.length))):=lenV_of (lenA_B l) fun s h=>by cases h
theorem lenV_I (P:Program) (t:TypeId) (l:List Int) (K:A→Prop):lenV P t (.d (encI l)) K=(isSlc P t=true∧K (.d (iD l.length))):=lenV_of (lenA_I l) fun s h=>by cases h
theorem lenV_S (P:Program) (t:TypeId) (l:List ByteArray) (K:A→Prop):lenV P t (.d (encS l)) K=(isSlc P t=true∧K (.d (iD l.length))):=lenV_of (lenA_S l) fun s h=>by cases h
theorem lenV_Ds (P:Program) (t:TypeId) (l:List RuleD) (K:A→Prop):lenV P t (.d (encDs l)) K=(isSlc P t=true∧K (.d (iD l.length))):=lenV_of (lenA_Ds l) fun s h=>by cases h
theorem sliceV_B (P:Program) (t:TypeId) (b:List UInt8) (lo hi mx:Option A) (K:A→Prop):sliceV P t (.d (encB b)) lo hi mx K=(mx=none∧withS (tyElem P t) fun e=>(∃ g,tyK P e=some (g,1))∧withS (bndA 0 lo) fun l=>withS (bndA b.length hi) fun h=>0≤l∧l≤h∧h≤b.length∧K (.d (encB ((b.drop l.toNat).take (h.toNat - l.toNat))))):=by
 rw [sliceV_of (elemsOf_B b)]
 simp only [List.length_map,encB,List.map_take,List.map_drop]
theorem convV_int (P:Program) (s d:TypeId) (k:IntKind) (n:Int) (K:A→Prop):convV P s d (.d (.v (.int k n))) K=∃ k',P.underlying d=some (.int k')∧(P.underlying s).isSome=true∧K (.d (.v (.int k' (k'.wrap n)))):=rfl
theorem convV_str (P:Program) (s d:TypeId) (b:ByteArray) (K:A→Prop):convV P s d (.d (.v (.string b))) K=(P.underlying d=some .string∧(P.underlying s).isSome=true∧K (.d (.v (.string b)))):=rfl
theorem convV_nil (P:Program) (s d:TypeId) (K:A→Prop):convV P s d (.d (.v (.slice none 0 0))) K=(P.underlying d=some .string∧bytesT P s=true∧K (.d (.v (.string ByteArray.empty)))):=rfl
theorem bytesV_B:∀ l:List UInt8,bytesV (l.map fun c=>[uD c])=some l
 | []=>rfl
 | c::l=>by
  simp only [List.map_cons,bytesV,bytesV_B l,Option.map_some,Int.toNat_natCast,UInt8.ofNat_toNat]
theorem convV_B (P:Program) (s d:TypeId) (l:List UInt8) (K:A→Prop):convV P s d (.d (encB l)) K=(P.underlying d=some .string∧bytesT P s=true∧K (.d (sD ⟨l.toArray⟩))):=by
 show (match bytesA (.d (encB l)) with|some b=>_|none=>False)=_
 simp only [bytesA,elemsOf_B,bytesV_B,Option.map_some]
theorem convV_own (P:Program) (s d:TypeId) (k:Nat) (e:TypeId) (l:List UInt8) (K:A→Prop):convV P s d (.own k e 1 (l.map fun c=>[uD c])) K=(P.underlying d=some .string∧bytesT P s=true∧K (.d (sD ⟨l.toArray⟩))):=by
 show (match bytesA (.own k e 1 (l.map fun c=>[uD c])) with|some b=>_|none=>False)=_
 simp only [bytesA,elemsOf,bytesV_B,Option.map_some]
theorem sliceV_I (P:Program) (t:TypeId) (b:List Int) (lo hi mx:Option A) (K:A→Prop):sliceV P t (.d (encI b)) lo hi mx K=(mx=none∧withS (tyElem P t) fun e=>(∃ g,tyK P e=some (g,1))∧withS (bndA 0 lo) fun l=>withS (bndA b.length hi) fun h=>0≤l∧l≤h∧h≤b.length∧K (.d (encI ((b.drop l.toNat).take (h.toNat - l.toNat))))):=by
 rw [sliceV_of (elemsOf_I b)]
 simp only [List.length_map,encI,List.map_take,List.map_drop]
theorem elemsN_B (l:List UInt8):elemsN 1 (.d (encB l))=some (l.map fun c=>[uD c]):=elemsN_2 _ _
theorem elemsN_I (l:List Int):elemsN 1 (.d (encI l))=some (l.map fun n=>[iD n]):=elemsN_2 _ _
theorem elemsN_S (l:List ByteArray):elemsN 1 (.d (encS l))=some (l.map fun s=>[sD s]):=elemsN_2 _ _
theorem elemsN_Ds (l:List RuleD):elemsN 8 (.d (encDs l))=some (l.map encRc):=elemsN_2 _ _
theorem cells1_D (D:List RuleD):cells1 (.d (encD D))=some [.d (encDs D)]:=rfl
theorem cells1_R (r:RuleD):cells1 (.d (encR r))=some [.d (sD r.name),.d (iD r.kind),.d (iD r.size),.d (bD r.little),.d (encB r.bytes),.d (encS r.names),.d (encI r.tags),.d (encI r.kids)]:=rfl
theorem cells1_V (v:V):cells1 (.d (encV v))=some ((encVc v).map .d):=rfl
theorem cellsOfA_D (D:List RuleD):cellsOfA (.d (encD D))=some [.d (encDs D)]:=rfl
theorem cellsOfA_R (r:RuleD):cellsOfA (.d (encR r))=some [.d (sD r.name),.d (iD r.kind),.d (iD r.size),.d (bD r.little),.d (encB r.bytes),.d (encS r.names),.d (encI r.tags),.d (encI r.kids)]:=rfl
theorem cellsOfA_V (v:V):cellsOfA (.d (encV v))=some ((encVc v).map .d):=rfl
theorem cells1_ivsl (p:Nat→Prop) (z:Nat) (es:List (List D)):cells1 (.d (.iv p (.sl z es)))=some [.d (.iv p (.sl z es))]:=rfl
theorem elemsOf_ivB (p:Nat→Prop) (l:List UInt8):elemsOf (.d (.iv p (encB l)))=some (1,l.map fun c=>[uD c]):=rfl
theorem lenA_ivB (p:Nat→Prop) (l:List UInt8):lenA (.d (.iv p (encB l)))=some l.length:=by simp [encB,lenA]
theorem lenV_ivB (P:Program) (t:TypeId) (p:Nat→Prop) (l:List UInt8) (K:A→Prop):lenV P t (.d (.iv p (encB l))) K=(isSlc P t=true∧K (.d (iD l.length))):=lenV_of (lenA_ivB p l) fun s h=>by cases h
theorem cells1_ivB (p:Nat→Prop) (l:List UInt8):cells1 (.d (.iv p (encB l)))=some [.d (.iv p (encB l))]:=rfl
theorem cells1_ivI (p:Nat→Prop) (l:List Int):cells1 (.d (.iv p (encI l)))=some [.d (.iv p (encI l))]:=rfl
theorem cells1_ivS (p:Nat→Prop) (l:List ByteArray):cells1 (.d (.iv p (encS l)))=some [.d (.iv p (encS l))]:=rfl
theorem cells1_ivDs (p:Nat→Prop) (l:List RuleD):cells1 (.d (.iv p (encDs l)))=some [.d (.iv p (encDs l))]:=rfl
theorem cells1_encB (l:List UInt8):cells1 (.d (encB l))=some [.d (encB l)]:=rfl
theorem cells1_encI (l:List Int):cells1 (.d (encI l))=some [.d (encI l)]:=rfl
theorem cells1_encS (l:List ByteArray):cells1 (.d (encS l))=some [.d (encS l)]:=rfl
theorem cells1_encDs (l:List RuleD):cells1 (.d (encDs l))=some [.d (encDs l)]:=rfl
theorem dropR1 (r:RuleD):(encRc r).drop 1=[iD r.kind,iD r.size,bD r.little,encB r.bytes,encS r.names,encI r.tags,encI r.kids]:=rfl
theorem dropR2 (r:RuleD):(encRc r).drop 2=[iD r.size,bD r.little,encB r.bytes,encS r.names,encI r.tags,encI r.kids]:=rfl
theorem dropR3 (r:RuleD):(encRc r).drop 3=[bD r.little,encB r.bytes,encS r.names,encI r.tags,encI r.kids]:=rfl
theorem dropR4 (r:RuleD):(encRc r).drop 4=[encB r.bytes,encS r.names,encI r.tags,encI r.kids]:=rfl
theorem dropR5 (r:RuleD):(encRc r).drop 5=[encS r.names,encI r.tags,encI r.kids]:=rfl
theorem dropR6 (r:RuleD):(encRc r).drop 6=[encI r.tags,encI r.kids]:=rfl
theorem dropR7 (r:RuleD):(encRc r).drop 7=[encI r.kids]:=rfl
theorem encRc_len (r:RuleD):(encRc r).length=8:=rfl
theorem mkAgg_R (r:RuleD):mkAgg (((encRc r).map .d).take 8)=.d (encR r):=rfl
theorem partA_R0 (r:RuleD) (K:A→Prop):partA (some (false,1)) ((encRc r).map .d) K=K (.d (sD r.name)):=rfl
theorem encVc_len (v:V):(encVc v).length=3:=by cases v;simp [encVc]
theorem mkAgg_V (v:V):mkAgg (((encVc v).map .d).take 3)=.d (encV v):=by cases v;simp [encVc,encV,mkAgg,allD]
theorem encVs_append (a b:List V):encVs (a++b)=encVs a++encVs b:=by simp [encVs_eq]
theorem encVs_one (v:V):encVs [v]=[encVc v]:=by simp [encVs_eq]
theorem encVs_nil:encVs []=[]:=by simp [encVs_eq]
theorem encV_mk (n:Int) (bs:List UInt8) (vs:List V):encV (.mk n bs vs)=.agg [iD n,encB bs,.sl 3 (encVs vs)]:=by simp [encV,encVc]
theorem encVc_mk (n:Int) (bs:List UInt8) (vs:List V):encVc (.mk n bs vs)=[iD n,encB bs,.sl 3 (encVs vs)]:=by simp [encVc]
theorem wkD_ownB (l:List UInt8) (k:Nat) (e:TypeId):wkD (encB l) (.own k e 1 (l.map fun c=>[uD c]))=True:=eq_true (by
 unfold encB wkD
 exact .inr ⟨k,e,_,rfl,dleLL_refl _⟩)
theorem wkD_ownB0 (k:Nat) (e:TypeId):wkD (encB []) (.own k e 1 [])=True:=wkD_ownB [] k e
theorem wkD_nilB:wkD (encB []) (.d (.v (.slice none 0 0)))=True:=eq_true (by
 unfold encB wkD dle
 exact .inl ⟨_,rfl,.inl ⟨rfl,rfl⟩⟩)
theorem wkD_ownV (vs:List V) (k:Nat) (e:TypeId):wkD (.sl 3 (encVs vs)) (.own k e 3 (encVs vs))=True:=eq_true (by
 unfold wkD
 exact .inr ⟨k,e,_,rfl,dleLL_refl _⟩)
theorem wkD_ownV0 (k:Nat) (e:TypeId):wkD (.sl 3 []) (.own k e 3 [])=True:=wkD_ownV [] k e
theorem wkD_nilV (z:Nat):wkD (.sl z []) (.d (.v (.slice none 0 0)))=True:=eq_true (by
 unfold wkD dle
 exact .inl ⟨_,rfl,.inl ⟨rfl,rfl⟩⟩)
theorem wkD_agg (cs:List D) (cs':List A):wkD (.agg cs) (.agg cs')=wkDL cs cs':=by
 unfold wkD
 apply propext
 constructor
 ·rintro (⟨y',h,_⟩|⟨cs'',h,h2⟩)
  ·cases h
  ·cases h;exact h2
 ·intro h;exact .inr ⟨cs',rfl,h⟩
theorem wkD_tup (cs:List D) (cs':List A):wkD (.tup cs) (.tup cs')=wkDL cs cs':=by
 unfold wkD
 apply propext
 constructor
 ·rintro (⟨y',h,_⟩|⟨cs'',h,h2⟩)
  ·cases h
  ·cases h;exact h2
 ·intro h;exact .inr ⟨cs',rfl,h⟩
theorem dle_agg (cs cs':List D):dle (.agg cs) (.agg cs')=dleL cs cs':=by
 unfold dle
 exact propext ⟨fun ⟨x,h,k⟩=>by cases h;exact k,fun h=>⟨cs',rfl,h⟩⟩
theorem dle_tup (cs cs':List D):dle (.tup cs) (.tup cs')=dleL cs cs':=by
 unfold dle
 exact propext ⟨fun ⟨x,h,k⟩=>by cases h;exact k,fun h=>⟨cs',rfl,h⟩⟩
theorem dleL_nil:dleL [] []=True:=eq_true (by unfold dleL;rfl)
theorem dleL_cons (c:D) (cs:List D) (c':D) (cs':List D):dleL (c::cs) (c'::cs')=(dle c c'∧dleL cs cs'):=by
 apply propext
 constructor
 ·intro h
  unfold dleL at h
  obtain ⟨x,xs,h1,h2,h3⟩:=h
  cases h1
  exact ⟨h2,h3⟩
 ·rintro ⟨h1,h2⟩
  unfold dleL
  exact ⟨c',cs',rfl,h1,h2⟩
theorem dle_nil (z:Nat):dle (.sl z []) (.v (.slice none 0 0))=True:=eq_true (by unfold dle;exact .inl ⟨rfl,rfl⟩)
theorem dle_nilB:dle (encB []) (.v (.slice none 0 0))=True:=dle_nil 1
theorem wkD_tupd (cs cs':List D):wkD (.tup cs) (.d (.tup cs'))=dleL cs cs':=by
 apply propext
 constructor
 ·intro h
  unfold wkD at h
  rcases h with ⟨y,h,k⟩|⟨x,h,_⟩
  ·cases h
   rwa [dle_tup] at k
  ·cases h
 ·intro h
  unfold wkD
  exact .inl ⟨_,rfl,by rw [dle_tup];exact h⟩
theorem wkD_aggd (cs cs':List D):wkD (.agg cs) (.d (.agg cs'))=dleL cs cs':=by
 apply propext
 constructor
 ·intro h
  unfold wkD at h
  rcases h with ⟨y,h,k⟩|⟨x,h,_⟩
  ·cases h
   rwa [dle_agg] at k
  ·cases h
 ·intro h
  unfold wkD
  exact .inl ⟨_,rfl,by rw [dle_agg];exact h⟩
theorem wkDL_nil:wkDL [] []=True:=eq_true (by unfold wkDL;rfl)
theorem wkDL_cons (c:D) (cs:List D) (c':A) (cs':List A):wkDL (c::cs) (c'::cs')=(wkD c c'∧wkDL cs cs'):=by
 apply propext
 constructor
 ·intro h
  unfold wkDL at h
  obtain ⟨x,xs,h1,h2,h3⟩:=h
  cases h1
  exact ⟨h2,h3⟩
 ·rintro ⟨h1,h2⟩
  unfold wkDL
  exact ⟨c',cs',rfl,h1,h2⟩
theorem idx_map {α β:Type} (f:α→β) {l:List α}{k:Nat} (h:k<l.length):(l.map f)[k]?=some (f l[k]):=by simp [h]
theorem idx_some {α β:Type} (f:α→β) {l:List α}{k:Nat}{x:α} (h:l[k]?=some x):(l.map f)[k]?=some (f x):=by simp [h]

/-! ### The elder contracts' words -/
theorem row_of {C:CellR}{w:World} (hC:Cok C w) {α:Type} (f:α→Value):∀ (l:List α) {b o:Nat},RepEs C 1 (l.map fun x=>[.v (f x)]) b o→∀ (i:Nat) v,(l.map f)[i]?=some v→w.cell? ⟨b,o+i,none⟩=some v:=fun l b o h i v hv=>by
 simp only [List.getElem?_map,Option.map_eq_some_iff] at hv
 obtain ⟨x,hx,rfl⟩:=hv
 obtain ⟨_,hcs⟩:=h.get i [.v (f x)] (by simp [hx])
 obtain ⟨u,h1,h2⟩:=hcs.get 0 (.v (f x)) rfl
 unfold RepD at h2
 subst h2
 simpa using (hC.cell _ _ _ h1).1
theorem slice_of {C:CellR}{w:World} (hC:Cok C w) {α:Type} (f:α→Value) {l:List α}{u:Value} (h:RepD C (.sl 1 (l.map fun x=>[.v (f x)])) u) :
  ∃ a cap,u=.slice a l.length cap∧l.length≤cap∧cap≤maxLen∧Row w w.heap.size a (l.map f):=by
 unfold RepD at h
 obtain ⟨a,cap,h1,h2,h3,h4⟩:=h
 simp only [List.length_map] at h1 h2
 refine ⟨a,cap,h1,h2,h3,?_⟩
 cases hl:l with
 | nil=>exact .inl rfl
 | cons x xs=>
  rcases h4 with h4|⟨b,o,ha,hes⟩
  ·rw [hl] at h4;simp at h4
  ·subst ha
   have hc:=row_of hC f l hes
   rw [←hl]
   exact .inr ⟨b,o,rfl,cell_lt (hc 0 (f x) (by rw [hl];rfl)),hc⟩
theorem rule_of {C:CellR}{w:World} (hC:Cok C w) {M:Nat}{r:RuleD} (hM:RB M r) {us:List Value} (h:RepL C (encRc r) us):∃ R:R,R.toRuleD=r∧us=R.cells∧R.Ok w w.heap.size M:=by
 unfold encRc at h
 have hg:=h.get
 have hlen:us.length=8:=by simpa using hg.1.symm
 match us,hlen with
 | [u0,u1,u2,u3,u4,u5,u6,u7],_=>
  have g:∀ (i:Nat) (c:D) (u:Value),(encRc r)[i]?=some c→[u0,u1,u2,u3,u4,u5,u6,u7][i]?=some u→RepD C c u:=fun i c u h1 h2=>by
   obtain ⟨u',h3,h4⟩:=hg.2 i c h1
   rw [h2] at h3
   rw [Option.some.inj h3]
   exact h4
  have g0:=g 0 _ u0 rfl rfl
  have g1:=g 1 _ u1 rfl rfl
  have g2:=g 2 _ u2 rfl rfl
  have g3:=g 3 _ u3 rfl rfl
  unfold RepD at g0 g1 g2 g3
  subst g0 g1 g2 g3
  obtain ⟨ba,bc,rfl,b2,b3,b4⟩:=slice_of hC (fun c:UInt8=>.int .u8 c.toNat) (g 4 _ u4 rfl rfl)
  obtain ⟨na,nc,rfl,n2,n3,n4⟩:=slice_of hC (fun c:ByteArray=>.string c) (g 5 _ u5 rfl rfl)
  obtain ⟨ta,tc,rfl,t2,t3,t4⟩:=slice_of hC (fun c:Int=>.int .i64 c) (g 6 _ u6 rfl rfl)
  obtain ⟨ka,kc,rfl,k2,k3,k4⟩:=slice_of hC (fun c:Int=>.int .i64 c) (g 7 _ u7 rfl rfl)
  exact ⟨{ r with ba,bc,na,nc,ta,tc,ka,kc },rfl,rfl,⟨hM.name,b4,n4,t4,k4,hM.lb,hM.ln,hM.lt,hM.lk,hM.nm,⟨b2,b3⟩,⟨n2,n3⟩,⟨t2,t3⟩,⟨k2,k3⟩⟩⟩
theorem rules_of {C:CellR}{w:World} (hC:Cok C w) {M:Nat}:∀ {D:List RuleD}{b o:Nat},(∀ r∈D,RB M r)→RepEs C 8 (D.map encRc) b o→∃ rs:List R,rs.map R.toRuleD=D∧(∀ r∈rs,r.Ok w w.heap.size M)∧∀ (i:Nat) v,(rs.flatMap R.cells)[i]?=some v→w.cell? ⟨b,o+i,none⟩=some v
 | [],b,o,_,_=>⟨[],rfl,(fun _ h=>(by cases h)),fun i v h=>(by simp at h)⟩
 | r::D,b,o,hM,h=>by
  simp only [List.map_cons] at h
  unfold RepEs at h
  obtain ⟨h1,h2,h3⟩:=h
  obtain ⟨us,g1,g2⟩:=h2.list
  obtain ⟨R,k1,k2,k3⟩:=rule_of hC (hM r (List.mem_cons_self ..)) g1
  obtain ⟨rs,q1,q2,q3⟩:=rules_of hC (fun x hx=>hM x (List.mem_cons_of_mem _ hx)) h3
  refine ⟨R::rs,by simp [k1,q1],fun x hx=>?_,fun i v hv=>?_⟩
  ·rcases List.mem_cons.1 hx with rfl|hx
   ·exact k3
   ·exact q2 x hx
  ·rw [List.flatMap_cons,←k2] at hv
   have hul:us.length=8:=by rw [←g1.get.1];rfl
   rcases Nat.lt_or_ge i us.length with hi|hi
   ·rw [List.getElem?_append_left hi] at hv
    exact (hC.cell _ _ _ (g2 i v hv)).1
   ·rw [List.getElem?_append_right hi] at hv
    have:=q3 _ v hv
    rw [hul] at this
    rw [show o+i=o+8+(i - 8) by omega]
    exact this
theorem ds_of {C:CellR}{w:World} (hC:Cok C w) {M:Nat}{D:List RuleD} (hM:DB M D) {u:Value} (h:RepD C (encD D) u):∃ a cap rs,u=.agg #[.slice a rs.length cap]∧rs.map R.toRuleD=D∧Ds w w.heap.size M a cap rs:=by
 unfold encD encDs RepD at h
 obtain ⟨us,rfl,hL,_⟩:=h
 unfold RepL at hL
 obtain ⟨u,us',rfl,hu,hL⟩:=hL
 unfold RepL at hL
 subst hL
 unfold RepD at hu
 obtain ⟨a,cap,rfl,h2,h3,h4⟩:=hu
 simp only [List.length_map] at h2 ⊢
 cases hD:D with
 | nil=>
  subst hD
  exact ⟨a,cap,[],rfl,rfl,⟨.inl rfl,(fun _ h=>by cases h),Nat.zero_le _,⟨Nat.zero_le _,h3⟩⟩⟩
 | cons r D'=>
  rcases h4 with h4|⟨b,o,rfl,hes⟩
  ·rw [hD] at h4;simp at h4
  ·obtain ⟨rs,q1,q2,q3⟩:=rules_of hC hM.rule hes
   have hlen:rs.length=D.length:=by rw [←q1];simp
   rw [←hD]
   refine ⟨_,cap,rs,by rw [hlen],q1,⟨.inr ⟨b,o,rfl,?_,q3⟩,q2,by rw [hlen];exact hM.len,⟨by omega,h3⟩⟩⟩
   cases hrs:rs with
   | nil=>rw [hrs,hD] at hlen;simp at hlen
   | cons x xs=>exact cell_lt (q3 0 (.string x.name) (by rw [hrs];rfl))

theorem AC.of_flat {P:Program}{f:FuncId}{args:List A}{v:Value} (he:∀ vs w,(callFunc f vs).run P w=.ok (.enter f vs) w) (h:∀ w C vs,Cok C w→RepAL (argG C none 0) args vs→Calls P f ⟨vs⟩ w fun e w'=>e=.returned v∧Below w.heap.size w w'):AC P f args none (fun r _=>r=.d (.v v)):=by
 refine ⟨he,fun w C β F0 vs hC hr hbo _=>?_⟩
 have e0:argG C none β=argG C none 0:=by simp [argG]
 rw [e0] at hr
 refine (h w C vs hC hr).mono fun e w' ⟨h1,h2⟩=>?_
 refine ⟨v,.d (.v v),none,C,[],[],h1,rfl,rfl,fun _ _ _ h=>h,⟨fun b o u hc=>?_,fun b o u hc hb=>?_,hC.gl,hC.tb.keep hC.gl fun b _ _ _ h1 _ _=>h2.block b (heap_lt h1)⟩,BelowX.of h2,fun _ _ _ h=>.inl h,by unfold RepZ RepD;exact ⟨rfl,rfl⟩,rfl,by simp [XO],fun b hb=>by simp at hb⟩
 ·have:=hC.cell b o u hc
  exact ⟨(h2.cell (p:=⟨b,o,none⟩) (cell_lt this.1)).trans this.1,this.2⟩
 ·rw [frz_of_block (h2.block b (cell_lt (hC.cell b o u hc).1))]
  exact hC.nf b o u hc hb

end Go.Proofs.YtaammoodcgfhpaaDoor.Eng
namespace Go.Proofs.YtaammoodcgfhpaaDoor.Eng
open Go Go.RowKit

theorem rep1 {G:Gh}{x:D}{vs:List Value} (h:RepAL G [.d x] vs):∃ u,vs=[u]∧RepD G.C x u:=by
 unfold RepAL at h
 obtain ⟨u,us,rfl,h1,h2⟩:=h
 unfold RepAL at h2
 subst h2
 unfold RepA at h1
 exact ⟨u,rfl,h1⟩
theorem rep2 {G:Gh}{x y:D}{vs:List Value} (h:RepAL G [.d x,.d y] vs):∃ u v,vs=[u,v]∧RepD G.C x u∧RepD G.C y v:=by
 unfold RepAL at h
 obtain ⟨u,us,rfl,h1,h2⟩:=h
 obtain ⟨v,rfl,h3⟩:=rep1 h2
 unfold RepA at h1
 exact ⟨u,v,rfl,h1,h3⟩
theorem rep3 {G:Gh}{x y z:D}{vs:List Value} (h:RepAL G [.d x,.d y,.d z] vs):∃ u v t,vs=[u,v,t]∧RepD G.C x u∧RepD G.C y v∧RepD G.C z t:=by
 unfold RepAL at h
 obtain ⟨u,us,rfl,h1,h2⟩:=h
 obtain ⟨v,t,rfl,h3,h4⟩:=rep2 h2
 unfold RepA at h1
 exact ⟨u,v,t,rfl,h1,h3,h4⟩
theorem of_same {P:Program}{f:FuncId}{args:Array Value}{w:World}{v:Value} (h:Calls P f args w fun e w'=>e=.returned v∧w=w'):Calls P f args w fun e w'=>e=.returned v∧Below w.heap.size w w':=
 h.mono fun e w' ⟨h1,h2⟩=>⟨h1,h2▸Below.refl _ _⟩

theorem AC.eqv {P:Program}{f:FuncId}{args:List A}{bx:Option (List Rz)}{r0 r1:Rz} (h:AC P f args bx (fun r _=>r=r0)) (e:r0=r1):AC P f args bx (fun r _=>r=r1):=e▸h

theorem inRange_c (n a b:Int):AC Tryd.prog 36 [.d (iD n),.d (iD a),.d (iD b)] none (fun r _=>r=.d (bD (decide (a≤n) && decide (n≤b)))):=by
 refine AC.of_flat Tryd.call36 fun w C vs hC hr=>?_
 obtain ⟨u,v,t,rfl,h1,h2,h3⟩:=rep3 hr
 unfold RepD at h1 h2 h3
 subst h1 h2 h3
 exact of_same (inRange_any n a b w)
theorem l1In_c (n a b:Int):AC Tryd.prog 30 [.d (iD n),.d (iD a),.d (iD b)] none (fun r _=>r=.d (bD (decide (a≤n) && decide (n≤b)))):=by
 refine AC.of_flat Tryd.call30 fun w C vs hC hr=>?_
 obtain ⟨u,v,t,rfl,h1,h2,h3⟩:=rep3 hr
 unfold RepD at h1 h2 h3
 subst h1 h2 h3
 exact of_same (l1In_any n a b w)

section
variable {M:Nat}{D:List RuleD}
theorem known_c (hD:DB M D) (hM:M≤1048576) (i:Int):AC Tryd.prog 53 [.d (encD D),.d (iD i)] none (fun r _=>r=.d (bD (vKnown D i))):=by
 refine AC.of_flat Tryd.call53 fun w C vs hC hr=>?_
 obtain ⟨u,v,rfl,h1,h2⟩:=rep2 hr
 unfold RepD at h2
 subst h2
 obtain ⟨a,cap,rs,rfl,rfl,hDs⟩:=ds_of hC hD h1
 exact known_any (Since.self w) hDs hM i
theorem l7Rule_c (hD:DB M D) (hM:M≤1048576) (i:Int):AC Tryd.prog 45 [.d (encD D),.d (iD i)] none (fun r _=>r=.d (bD (vKnown D i))):=by
 refine AC.of_flat Tryd.call45 fun w C vs hC hr=>?_
 obtain ⟨u,v,rfl,h1,h2⟩:=rep2 hr
 unfold RepD at h2
 subst h2
 obtain ⟨a,cap,rs,rfl,rfl,hDs⟩:=ds_of hC hD h1
 exact l7Rule_any (Since.self w) hDs hM i
theorem validS_c (hD:DB M D) (hM:M≤1048576):AC Tryd.prog 27 [.d (encD D)] none (fun r _=>r=.d (bD (vDesc D))):=by
 refine AC.of_flat Tryd.call27 fun w C vs hC hr=>?_
 obtain ⟨u,rfl,h1⟩:=rep1 hr
 obtain ⟨a,cap,rs,rfl,rfl,hDs⟩:=ds_of hC hD h1
 exact validS_any (Since.self w) hDs hM
theorem validI_c (hD:DB M D) (hM:M≤1048576):AC Tryd.prog 32 [.d (encD D)] none (fun r _=>r=.d (bD (vDesc D))):=by
 refine AC.of_flat Tryd.call32 fun w C vs hC hr=>?_
 obtain ⟨u,rfl,h1⟩:=rep1 hr
 obtain ⟨a,cap,rs,rfl,rfl,hDs⟩:=ds_of hC hD h1
 exact validI_any (Since.self w) hDs hM
end
end Go.Proofs.YtaammoodcgfhpaaDoor.Eng
