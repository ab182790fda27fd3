/-
 Arguments that came in, as the engine has them: whatever a reading reads is data.

 Descriptions that came in.
-/
import Derived.Test.YtaammoodcgfhpaaDoorKN0
import Derived.Test.YtaammoodcgfhpaaDoorKTy
import Derived.Deep.Slices
import Derived.Lib.LaidU8
import Derived.WideShapes
import Derived.KernelRfl
set_option linter.unusedSimpArgs false
set_option linter.unusedVariables false
set_option linter.defProp false
set_option maxRecDepth 100000
set_option maxHeartbeats 4000000
namespace Go.Proofs.YtaammoodcgfhpaaDoor.Eng
open Go Go.RowKit

def CW (w:World):CellR:=fun b o u=>(w.cell? ⟨b,o,none⟩=some u∧u.oneCell'=true)∧(¬Lst b→w.frozen? ⟨b,o,none⟩=false)
structure GLc (w:World):Prop where
 gl:GL (CW w)
 tb:GLw w
theorem CW_ok {w:World} (h:GLc w):Cok (CW w) w:=⟨fun _ _ _ h=>h.1,fun _ _ _ h=>h.2,h.gl,h.tb⟩
theorem GL0 {w : World} (he : GLe (CW w)) (ht : GLt (CW w)) (hp : Lib.TabIs Tryd.prog w "internal/strconv.uint64pow10" .u64 Lib.pow10Tab) : GLc w := by
 obtain ⟨ty,fr,h1⟩:GLw w:=by
  unfold Lib.TabIs World.var? at hp
  rw [show Tryd.prog.globalNamed "internal/strconv.uint64pow10" = some glP by kernel_rfl] at hp
  simp only [Option.bind_some] at hp
  split at hp
  ·rename_i cs ty fr h1
   obtain rfl:=Option.some.inj hp
   exact ⟨ty,fr,h1⟩
  ·cases hp
 refine ⟨⟨he,ht,fun i hi=>?_⟩,ty,fr,h1⟩
 have hl:Lib.pow10Tab.length=20:=by kernel_rfl
 refine ⟨.int .u64 (Lib.pow10Tab[i]'(by omega)),⟨?_,rfl⟩,fun h=>absurd (Or.inr (Or.inr rfl)) h⟩
 simp [World.cell?,h1,hl,hi]

def OpenN (P:Program) (n:Nat) (t:TypeId) {α:Type} (f:α→List D) (ok:α→Prop):Prop:=
 ∀ {H:Type} (enc:TypeId × Value→H) (w:World) (base:Nat) (spare:Nat→Bool) (held:Bool) (cs:List Value) (x:DataW H × List MemPlace),
  DataW.trod enc P w base spare held n t cs=some x→w.noneFrozen x.2→∃ a:α,RepL (CW w) (f a) cs∧(∀ c∈cs,c.oneCell'=true)∧ok a
def OpenT (P:Program) (t:TypeId) {α:Type} (f:α→List D) (ok:α→Prop):Prop:=∀ n,OpenN P n t f ok

section
variable {P:Program}{t e:TypeId}
theorem repL_one {C:CellR}{v:Value}:RepL C [.v v] [v]:=by simp [RepL,RepD]
theorem open_int (ht:P.underlying t=some (.int .i64)):OpenT P t (fun n:Int=>[iD n]) (fun n=>(Lit.int .i64 n).wf=true):=fun n H enc w base spare held cs x h _=>by
 obtain ⟨k,rfl,_,hw⟩:=DataW.trod_int ht h
 exact ⟨k,repL_one,fun c hc=>by rw [List.mem_singleton] at hc;subst hc;rfl,hw⟩
theorem open_u8 (ht:P.underlying t=some (.int .u8)):OpenT P t (fun c:UInt8=>[uD c]) (fun _=>True):=fun n H enc w base spare held cs x h _=>by
 obtain ⟨k,rfl,_,hw⟩:=DataW.trod_int ht h
 have hk:0≤k∧k≤255:=by
  simp [Lit.wf,IntKind.min,IntKind.max,IntKind.signed,IntKind.bits] at hw
  omega
 refine ⟨UInt8.ofNat k.toNat,?_,fun c hc=>by rw [List.mem_singleton] at hc;subst hc;rfl,trivial⟩
 have e:((UInt8.ofNat k.toNat).toNat:Int)=k:=by
  rw [UInt8.toNat_ofNat_of_lt' (by simp [UInt8.size];omega)];omega
 show RepL _ [.v (.int .u8 _)] _
 rw [e]
 exact repL_one
theorem open_bool (ht:P.underlying t=some .bool):OpenT P t (fun b:Bool=>[bD b]) (fun _=>True):=fun n H enc w base spare held cs x h _=>by
 obtain ⟨k,rfl,_⟩:=DataW.trod_bool ht h
 exact ⟨k,repL_one,fun c hc=>by rw [List.mem_singleton] at hc;subst hc;rfl,trivial⟩
theorem open_str (ht:P.underlying t=some .string):OpenT P t (fun s:ByteArray=>[sD s]) (fun s=>s.size≤maxLen):=fun n H enc w base spare held cs x h _=>by
 obtain ⟨k,rfl,_,hk⟩:=DataW.trod_string ht h
 exact ⟨k,repL_one,fun c hc=>by rw [List.mem_singleton] at hc;subst hc;rfl,hk⟩

theorem row_mem {b o n i k:Nat} (h:i<n) (hk:o+i=k):MemPlace.cell b k∈MemPlace.row ⟨b,o,none⟩ n:=by
 subst hk
 unfold MemPlace.row
 exact List.mem_map.2 ⟨i,List.mem_range.2 h,rfl⟩
theorem rows_of {α:Type}{C:CellR}{f:α→List D}{ok:α→Prop}{z b:Nat} (hz:∀ a,(f a).length=z):∀ (len o:Nat),(∀ i,i<len→∃ a,RepCs C (f a) b (o+i*z)∧ok a)→∃ l:List α,l.length=len∧RepEs C z (l.map f) b o∧∀ x∈l,ok x
 | 0,o,_=>⟨[],rfl,by simp only [List.map_nil];unfold RepEs;trivial,fun x hx=>by cases hx⟩
 | len+1,o,h=>by
  obtain ⟨a,h1,h2⟩:=h 0 (by omega)
  obtain ⟨l,h3,h4,h5⟩:=rows_of hz len (o+z) fun i hi=>by
   have:=h (i+1) (by omega)
   rwa [show o+(i+1)*z=o+z+i*z by rw [Nat.add_mul];omega] at this
  refine ⟨a::l,by simp [h3],?_,fun x hx=>?_⟩
  ·simp only [List.map_cons]
   unfold RepEs
   exact ⟨hz a,by simpa using h1,h4⟩
  ·rcases List.mem_cons.1 hx with rfl|hx
   ·exact h2
   ·exact h5 x hx

theorem open_slN {α:Type}{f:α→List D}{ok:α→Prop}{n z:Nat} (ht:P.underlying t=some (.slice e)) (hC:P.cellsOf e=z) (hz:∀ a,(f a).length=z) (h0:0<z) (h:OpenN P n e f ok):OpenN P (n+1) t (fun l:List α=>[.sl z (l.map f)]) (fun l=>l.length≤maxLen∧∀ x∈l,ok x):=
 fun {H} enc w base spare held cs x hx hzf=>by
 rcases DataW.trod_slice ht hx with ⟨rfl,_⟩|⟨a,len,cap,elems,rest,n',hn,rfl,hxe,hb,hl,hm,hlen,hel,_,_⟩
 ·refine ⟨[],?_,fun c hc=>by rw [List.mem_singleton] at hc;subst hc;rfl,Nat.zero_le _,fun x hx=>by cases hx⟩
  show RepL _ [.sl z []] _
  unfold RepL
  exact ⟨_,[],rfl,by unfold RepD;exact ⟨none,0,rfl,Nat.le_refl _,Nat.zero_le _,.inl rfl⟩,by unfold RepL;rfl⟩
 ·obtain rfl:n=n':=by omega
  have cells:∀ i,i<len→∃ cs',w.cells? base (a.add (i*z)) z=some cs'∧∃ y,DataW.trod enc P w base spare held n e cs'=some y∧y∈elems:=fun i hi=>by
   have:=hel i hi
   rw [hC,List.getElem?_eq_getElem (by omega)] at this
   obtain ⟨cs',h1,h2⟩:=Option.bind_eq_some_iff.1 this
   exact ⟨cs',h1,_,h2,List.getElem_mem _⟩
  have key:∃ l:List α,l.length=len∧(l=[]∨∃ b o,a=⟨b,o,none⟩∧RepEs (CW w) z (l.map f) b o)∧∀ x∈l,ok x:=by
   rcases Nat.eq_zero_or_pos len with rfl|hp
   ·exact ⟨[],rfl,.inl rfl,fun x hx=>by cases hx⟩
   ·have hs:a.spot=none:=by
     obtain ⟨cs',h1,_⟩:=cells 0 hp
     obtain ⟨_,h2,h3⟩:=World.cells?_some h1
     have:=h3 0 h0
     rw [List.getElem?_eq_getElem (by omega)] at this
     have e:(a.add (0*z)).add 0=a:=by simp [Addr.add]
     rw [e] at this
     exact cell_spot this
    obtain ⟨b,o,sp⟩:=a
    simp only at hs
    subst hs
    obtain ⟨l,h1,h2,h3⟩:=rows_of (C:=CW w) (b:=b) (ok:=ok) hz len o fun i hi=>by
     obtain ⟨cs',h1,y,h2,hy⟩:=cells i hi
     obtain ⟨_,h3,h4⟩:=World.cells?_some h1
     obtain ⟨a',k1,k2,k3⟩:=h enc w base spare held cs' y h2 fun b' o' hb'=>hzf b' o' (by
      rw [hxe]
      exact List.mem_append_right _ (List.mem_flatMap.2 ⟨y,List.mem_append_left _ hy,hb'⟩))
     refine ⟨a',RepCs.ofList k1 fun j u hj=>?_,k3⟩
     have hjz:j<z:=by
      rcases Nat.lt_or_ge j z with h|h
      ·exact h
      ·rw [List.getElem?_eq_none (by omega)] at hj;cases hj
     have:=h4 j hjz
     rw [addr_add,addr_add,hj] at this
     refine ⟨⟨this,k2 u (List.mem_of_getElem? hj)⟩,fun _=>hzf b _ ?_⟩
     rw [hxe]
     refine List.mem_append_left _ (row_mem (i:=i*z+j) ?_ ?_)
     ·have e1:(i+1)*z≤(elems.length+rest.length)*z:=Nat.mul_le_mul_right _ (by omega)
      rw [hC]
      rw [Nat.add_mul] at e1
      omega
     ·omega
    exact ⟨l,h1,.inr ⟨b,o,rfl,h2⟩,h3⟩
  obtain ⟨l,h1,h2,h3⟩:=key
  refine ⟨l,?_,fun c hc=>by rw [List.mem_singleton] at hc;subst hc;rfl,by omega,h3⟩
  show RepL _ [.sl z (l.map f)] _
  unfold RepL
  refine ⟨_,[],rfl,?_,by unfold RepL;rfl⟩
  unfold RepD
  refine ⟨some a,cap,by simp [h1],by simpa [h1] using hl,hm,?_⟩
  rcases h2 with rfl|⟨b,o,rfl,h2⟩
  ·exact .inl rfl
  ·exact .inr ⟨b,o,rfl,h2⟩
theorem open_sl {α:Type}{f:α→List D}{ok:α→Prop}{z:Nat} (ht:P.underlying t=some (.slice e)) (hC:P.cellsOf e=z) (hz:∀ a,(f a).length=z) (h0:0<z) (h:OpenT P e f ok):OpenT P t (fun l:List α=>[.sl z (l.map f)]) (fun l=>l.length≤maxLen∧∀ x∈l,ok x)
 | 0=>fun enc w base spare held cs x hx _=>by simp [DataW.trod] at hx
 | n+1=>open_slN ht hC hz h0 (h n)

theorem open_fld {α:Type}{f:α→List D}{ok:α→Prop}{n i off z:Nat}{ft:TypeId} (hf:tyField P t i=some (off,ft)) (hC:P.cellsOf ft=z) (h:OpenN P n ft f ok) {H:Type}{enc:TypeId × Value→H}{w:World}{base:Nat}{spare:Nat→Bool}{held:Bool}{cs:List Value}{x:DataW H × List MemPlace}
  (hx:DataW.trod enc P w base spare held (n+1) t cs=some x) (hz:w.noneFrozen x.2):cs.length=P.cellsOf t∧∃ a:α,RepL (CW w) (f a) ((cs.drop off).take z)∧(∀ c∈(cs.drop off).take z,c.oneCell'=true)∧ok a:=by
 obtain ⟨fs,fd,h1,h2,h3,h4⟩:=tyField_run hf
 obtain ⟨xs,m,hm,hxe,hl,hxl,hg⟩:=DataW.trod_struct h1 hx
 obtain rfl:n=m:=by omega
 have:=hg i fd h2
 rw [h3,h4,hC] at this
 have hi:i<xs.length:=by rw [hxl];exact (Array.getElem?_eq_some_iff.1 h2).1
 rw [List.getElem?_eq_getElem hi] at this
 exact ⟨hl,h enc w base spare held _ _ this fun b' o' hb'=>hz b' o' (by
  rw [hxe]
  exact List.mem_flatMap.2 ⟨xs[i],List.getElem_mem _,hb'⟩)⟩

theorem open_argS {α:Type}{f:α→List D}{ok:α→Prop} (h:OpenT P t f ok) {H:Type}{enc:TypeId × Value→H}{w:World}{base:Nat}{spare:Nat→Bool}{held:Bool}{cs:Array Value}{d:DataW H}{p:List MemPlace} (hT:DataW.Trod enc P w base spare held t (.agg cs) d p) (hz:w.noneFrozen p):∃ a:α,RepD (CW w) (.agg (f a)) (.agg cs)∧ok a:=by
 obtain ⟨fuel,hf⟩:=hT
 obtain ⟨a,h1,h3,h2⟩:=h fuel enc w base spare held _ _ hf hz
 refine ⟨a,?_,h2⟩
 unfold RepD
 exact ⟨cs.toList,rfl,h1,h3⟩
end

theorem AC.law {P:Program}{f:FuncId}{ds:List D} (h:AC P f (ds.map .d) none fun r _=>r=.d (bD true)) {w:World} (hgl:GLc w) {vs:List Value} (hr:RepL (CW w) ds vs):Calls P f ⟨vs⟩ w fun e w'=>e=.returned (.bool true)∧Below w.heap.size w w':=by
 refine (h.2 w (CW w) 0 [] vs (CW_ok hgl) (RepL_map (G:=argG (CW w) none 0) hr) rfl List.nodup_nil).mono fun e w' ⟨v,r,bx',C',F,F',he,hq,hb,_,_,hfw,_,hz,_,_,_⟩=>?_
 subst hq
 unfold RepZ RepD at hz
 obtain ⟨_,rfl⟩:=hz
 exact ⟨he,hfw.below fun k _ hk=>by simp [XO] at hk⟩
end Go.Proofs.YtaammoodcgfhpaaDoor.Eng
namespace Go.Proofs.YtaammoodcgfhpaaDoor.Eng
open Go Go.RowKit

theorem open_B:OpenT Tryd.prog 54 (fun l:List UInt8=>[encB l]) (fun l=>l.length≤maxLen∧∀ x∈l,True):=open_sl Tryd.underlying54 (by kernel_rfl) (fun _=>rfl) (by decide) (open_u8 Tryd.underlying5)
theorem open_I:OpenT Tryd.prog 39 (fun l:List Int=>[encI l]) (fun l=>l.length≤maxLen∧∀ x∈l,(Lit.int .i64 x).wf=true):=open_sl Tryd.underlying39 (by kernel_rfl) (fun _=>rfl) (by decide) (open_int Tryd.underlying3)
theorem open_S:OpenT Tryd.prog 26 (fun l:List ByteArray=>[encS l]) (fun l=>l.length≤maxLen∧∀ x∈l,x.size≤maxLen):=open_sl Tryd.underlying26 (by kernel_rfl) (fun _=>rfl) (by decide) (open_str Tryd.underlying9)

structure RI (r:RuleD):Prop where
 kind:(Lit.int .i64 r.kind).wf=true
 size:(Lit.int .i64 r.size).wf=true
 tags:∀ x∈r.tags,(Lit.int .i64 x).wf=true
 kids:∀ x∈r.kids,(Lit.int .i64 x).wf=true

theorem len8:∀ {cs:List Value},cs.length=8→∃ c0 c1 c2 c3 c4 c5 c6 c7,cs=[c0,c1,c2,c3,c4,c5,c6,c7]
 | [c0,c1,c2,c3,c4,c5,c6,c7],_=>⟨c0,c1,c2,c3,c4,c5,c6,c7,rfl⟩
theorem open_R:OpenT Tryd.prog 56 encRc (fun r=>RB maxLen r∧RI r)
 | 0=>fun enc w base spare held cs x hx _=>by simp [DataW.trod] at hx
 | n+1=>fun enc w base spare held cs x hx hz=>by
  obtain ⟨hl,a0,r0,o0,k0⟩:=open_fld tf56_0 (z:=1) (by kernel_rfl) (open_str Tryd.underlying9 n) hx hz
  obtain ⟨_,a1,r1,o1,k1⟩:=open_fld tf56_1 (z:=1) (by kernel_rfl) (open_int Tryd.underlying3 n) hx hz
  obtain ⟨_,a2,r2,o2,k2⟩:=open_fld tf56_2 (z:=1) (by kernel_rfl) (open_int Tryd.underlying3 n) hx hz
  obtain ⟨_,a3,r3,o3,k3⟩:=open_fld tf56_3 (z:=1) (by kernel_rfl) (open_bool Tryd.underlying4 n) hx hz
  obtain ⟨_,a4,r4,o4,k4⟩:=open_fld tf56_4 (z:=1) (by kernel_rfl) (open_B n) hx hz
  obtain ⟨_,a5,r5,o5,k5⟩:=open_fld tf56_5 (z:=1) (by kernel_rfl) (open_S n) hx hz
  obtain ⟨_,a6,r6,o6,k6⟩:=open_fld tf56_6 (z:=1) (by kernel_rfl) (open_I n) hx hz
  obtain ⟨_,a7,r7,o7,k7⟩:=open_fld tf56_7 (z:=1) (by kernel_rfl) (open_I n) hx hz
  have hC:Tryd.prog.cellsOf 56=8:=by kernel_rfl
  rw [hC] at hl
  obtain ⟨c0,c1,c2,c3,c4,c5,c6,c7,rfl⟩:=len8 hl
  simp only [List.drop_succ_cons,List.drop_zero,List.take_succ_cons,List.take_zero,List.mem_singleton,forall_eq] at r0 r1 r2 r3 r4 r5 r6 r7 o0 o1 o2 o3 o4 o5 o6 o7
  refine ⟨⟨a0,a1,a2,a3,a4,a5,a6,a7⟩,?_,?_,⟨⟨k0,k4.1,k5.1,k6.1,k7.1,k5.2⟩,⟨k1,k2,k6.2,k7.2⟩⟩⟩
  ·exact (((((((r0.append r1).append r2).append r3).append r4).append r5).append r6).append r7)
  ·intro c hc
   simp only [List.mem_cons,List.not_mem_nil,or_false] at hc
   rcases hc with rfl|rfl|rfl|rfl|rfl|rfl|rfl|rfl<;>assumption
theorem open_Ds:OpenT Tryd.prog 22 (fun l:List RuleD=>[encDs l]) (fun l=>l.length≤maxLen∧∀ x∈l,RB maxLen x∧RI x):=open_sl Tryd.underlying22 (by kernel_rfl) (fun _=>rfl) (by decide) open_R
theorem open_D:OpenT Tryd.prog 24 (fun l:List RuleD=>[encDs l]) (fun l=>DB maxLen l∧∀ x∈l,RI x)
 | 0=>fun enc w base spare held cs x hx _=>by simp [DataW.trod] at hx
 | n+1=>fun enc w base spare held cs x hx hz=>by
  obtain ⟨hl,a0,r0,o0,k0⟩:=open_fld tf24_0 (z:=1) (by kernel_rfl) (open_Ds n) hx hz
  have hC:Tryd.prog.cellsOf 24=1:=by kernel_rfl
  rw [hC] at hl
  obtain ⟨c0,rfl⟩:=List.length_eq_one_iff.1 hl
  exact ⟨a0,r0,o0,⟨k0.1,fun x hx=>(k0.2 x hx).1⟩,fun x hx=>(k0.2 x hx).2⟩
theorem repL_cons {C:CellR}{x:Eng.D}{xs:List Eng.D}{u:Value}{us:List Value} (h:RepD C x u) (k:RepL C xs us):RepL C (x::xs) (u::us):=by
 unfold RepL
 exact ⟨u,us,rfl,h,k⟩
theorem repL_nil {C:CellR}:RepL C [] []:=by unfold RepL;rfl
theorem own:ownKnob Tryd.prog.godebug=none:=by kernel_rfl
theorem laidOut:laidOutB Tryd.prog=true:=by kernel_rfl
end Go.Proofs.YtaammoodcgfhpaaDoor.Eng
