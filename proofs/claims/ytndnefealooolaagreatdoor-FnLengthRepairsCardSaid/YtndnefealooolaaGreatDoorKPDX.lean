/-
 Plain functions: drawn values are valid, and small.

 Plain functions: drawn files; they are small.
-/
import Derived.Test.YtndnefealooolaaGreatDoorKPD
import Derived.Test.YtndnefealooolaaGreatDoorKPure14
set_option linter.unusedSimpArgs false
set_option linter.unusedVariables false
set_option linter.defProp false
set_option maxRecDepth 100000
set_option maxHeartbeats 4000000
namespace Go.Proofs.YtndnefealooolaaGreatDoor.Eng
open Go.RowKit

section
variable {D:List RuleD}
theorem tags_inc {l:List Int}{lim:Int} (h:∀ j (hj:j<l.length),tagOk lim l j hj):∀ (j k:Nat) (_:j<k) (hk:k<l.length),l[j]'(by omega)<l[k]
 | j,0,h0,_=>by omega
 | j,k+1,h0,hk=>by
  have h1:=(h (k+1) hk).2 (by omega)
  simp only [Nat.add_sub_cancel] at h1
  by_cases e:j=k
  ·subst e;exact h1
  ·have:=tags_inc h j k (by omega) (by omega)
   omega
theorem tagIx_self {l:List Int}{lim:Int} (h:∀ j (hj:j<l.length),tagOk lim l j hj) {k:Nat} (hk:k<l.length):tagIx l l[k]=some k:=by
 refine tagIx_hit hk rfl fun j hj hjk=>?_
 have:=tags_inc h j k hjk hk
 omega
theorem tagsP_at (hV:descP D) {i:Nat}{r:RuleD} (hr:D[i]?=some r) (h7:r.kind=7):tagsP D r:=by
 have hn:i<D.length:=(List.getElem?_eq_some_iff.1 hr).1
 have hrn:ruleAt D i=some r:=by simp [ruleAt,hr]
 have hp:ruleP D i r:=by
  refine Classical.byContradiction fun hq=>?_
  have:=hV.2 i hn
  rw [vRule_no hrn hq] at this
  exact Bool.noConfusion this
 obtain ⟨_,_,hkid,hk⟩:=hp
 rw [kl_7 h7] at hk
 simp only [Bool.and_eq_true] at hk
 exact tagsP_of hk.2
def tV (f:Nat):Nat:=4*3 ^ f - 2
theorem tV_step (f:Nat):3+3*tV f≤tV (f+1)∧6≤tV (f+1):=by
 unfold tV
 rw [Nat.pow_succ]
 have h2:1≤3 ^ f:=Nat.one_le_pow _ _ (by omega)
 omega
structure Dv (D:List RuleD) (i f:Nat) (v:V):Prop where
 ok:validV D i v=true
 vb:VB 1048576 v
 tot:totV v≤tV f
theorem mkIt_ok {g:Nat→Cur→V × Cur}{r:RuleD}{n:Int}{f:Nat}:∀ (ks:List Nat) (k:Nat) (c:Cur),(∀ j (h:j<ks.length),itemK r n (k+j:Nat)=ks[j])→(∀ x∈ks,∀ c,Dv D x f (g x c).1)→
  validVs D r n k (mkIt g ks c).1=true∧VBs 1048576 (mkIt g ks c).1∧totVs (mkIt g ks c).1≤ks.length*tV f
 | [],k,c,_,_=>by
  unfold mkIt validVs VBs totVs
  exact ⟨rfl,trivial,Nat.zero_le _⟩
 | x::ks,k,c,h,H=>by
  have h0:=h 0 (by simp)
  rw [Nat.add_zero,List.getElem_cons_zero] at h0
  have d:=H x (by simp) c
  obtain ⟨a1,a2,a3⟩:=mkIt_ok ks (k+1) (g x c).2 (fun j hj=>by
   have:=h (j+1) (by simpa using hj)
   rw [List.getElem_cons_succ] at this
   rw [show k+1+j=k+(j+1) by omega]
   exact this) (fun y hy=>H y (by simp [hy]))
  rw [mkIt]
  simp only
  refine ⟨?_,?_,?_⟩
  ·rw [validVs,h0,d.ok,a1];rfl
  ·unfold VBs;exact ⟨d.vb,a2⟩
  ·rw [totVs,List.length_cons,Nat.add_mul,Nat.one_mul]
   have:=d.tot
   omega
theorem dv_mk {i f:Nat}{r:RuleD} (hr:ruleD D i=r) {n:Int}{bs:List UInt8}{vs:List V} (ho:ownV D r n bs.length vs.length=true) (hs:validVs D r n 0 vs=true) (hb:bs.length≤6) (hl:vs.length≤3) (hz:vs.length=0∨bs.length=0) (hvb:VBs 1048576 vs) (ht:totVs vs≤vs.length*tV f):Dv D i (f+1) (.mk n bs vs):=by
 refine ⟨?_,?_,?_⟩
 ·rw [validV,hr,ho,hs];rfl
 ·unfold VB;exact ⟨by omega,by omega,hvb⟩
 ·rw [totV]
  have h1:vs.length*tV f≤3*tV f:=Nat.mul_le_mul_right _ hl
  have h2:=tV_step f
  rcases hz with hz|hz
  ·have e:totVs vs=0:=by rw [List.eq_nil_of_length_eq_zero hz];unfold totVs;rfl
   omega
  ·omega
theorem vMk_ok (hD:DInv D) (hl:D.length≤9):∀ (f i:Nat) (m:Int) (c:Cur),i<D.length→i<f→0≤m→Dv D i f (vMk D f i m c).1
 | 0,i,m,c,_,h,_=>by omega
 | f+1,i,m,c,hi,hf,hm=>by
  have hV:=hD.desc hl
  obtain ⟨r,hr⟩:∃ r,D[i]?=some r:=⟨_,List.getElem?_eq_getElem hi⟩
  have G:GoodR D i r:=good_of hV hr
  have hrD:=ruleD_get hr
  have hdr:DR (D.take i) i r:=by
   have:=hD.rule i hi
   rw [List.getElem?_eq_getElem hi] at hr
   rwa [Option.some.inj hr] at this
  obtain ⟨kd1,kd2⟩:=G.kd
  have hm2:0≤m.tdiv 2:=Int.tdiv_nonneg hm (by omega)
  have HK:∀ j (hj:j<r.kids.length),∀ c,Dv D (r.kids[j]).toNat f (vMk D f (r.kids[j]).toNat (m.tdiv 2) c).1:=fun j hj c=>by
   have:=G.kid j hj
   exact vMk_ok hD hl f _ _ c (by omega) (by omega) hm2
  have H0:0<r.kids.length→∀ c,Dv D (kid0 r).toNat f (vMk D f (kid0 r).toNat (m.tdiv 2) c).1:=fun h c=>by
   have:=HK 0 h c
   rwa [show r.kids[0]=kid0 r by have k:=kids0 h;rw [List.getElem?_eq_getElem h] at k;exact Option.some.inj k] at this
  have H1:1<r.kids.length→∀ c,Dv D (kid1 r).toNat f (vMk D f (kid1 r).toNat (m.tdiv 2) c).1:=fun h c=>by
   have:=HK 1 h c
   rwa [show r.kids[1]=kid1 r by have k:=kids1 h;rw [List.getElem?_eq_getElem h] at k;exact Option.some.inj k] at this
  have g0:0<r.kids.length→0≤kid0 r:=fun h=>by
   have k:=kids0 h
   rw [List.getElem?_eq_getElem h] at k
   rw [←Option.some.inj k]
   exact (G.kid 0 h).1
  have g1:1<r.kids.length→0≤kid1 r:=fun h=>by
   have k:=kids1 h
   rw [List.getElem?_eq_getElem h] at k
   rw [←Option.some.inj k]
   exact (G.kid 1 h).1
  have hlim:(r.kind=4∨r.kind=5∨r.kind=7)→255≤limD D (kid0 r):=fun h=>by
   obtain ⟨j,q,_,_,hq,_,hlim⟩:=head_kid G h
   rw [hlim]
   have:q.size=1∨q.size=2∨q.size=3∨q.size=4:=by omega
   rcases this with e|e|e|e<;>rw [e]<;>decide
  have hvs0:validVs D r 0 0 []=true:=by unfold validVs;rfl
  have hvb0:VBs 1048576 []:=by unfold VBs;trivial
  have htv0:totVs []≤([]:List V).length*tV f:=by unfold totVs;exact Nat.zero_le _
  rw [vMk]
  simp only [hrD]
  by_cases k1:r.kind=1
  ·rw [if_pos k1]
   have hs:=G.k1 k1
   have hp:(1:Int)≤2 ^ (8*r.size.toNat):=by
    have:(0:Int)<2 ^ (8*r.size.toNat):=Int.pow_pos (by decide)
    omega
   have hb:=bel_in c (n:=min (2 ^ (8*r.size.toNat)) 70000) (by omega)
   refine dv_mk hrD ?_ (by unfold validVs;rfl) (by simp) (by simp) (.inl rfl) hvb0 htv0
   rw [ownV_1 k1,decide_eq_true_eq]
   exact ⟨by omega,by omega,rfl,rfl⟩
  rw [if_neg k1]
  by_cases k3:r.kind=3
  ·rw [if_pos k3]
   have hs:=G.k3 k3
   have hs2:=hdr.sz3 k3
   have hbl:=bysC_len c r.size.toNat
   refine dv_mk hrD ?_ hvs0 (by rw [hbl];omega) (by simp) (.inl rfl) hvb0 htv0
   rw [ownV_3 k3,decide_eq_true_eq,hbl]
   exact ⟨rfl,by omega,rfl⟩
  rw [if_neg k3]
  by_cases k410:r.kind=4∨r.kind=10
  ·rw [if_pos k410]
   have hbl:=vBy_len r hm c
   refine dv_mk hrD ?_ hvs0 hbl (by simp) (.inl rfl) hvb0 htv0
   rcases k410 with k|k
   ·rw [ownV_4 k,decide_eq_true_eq]
    have:=hlim (.inl k)
    exact ⟨rfl,by omega,by omega,rfl⟩
   ·rw [ownV_10 k,decide_eq_true_eq]
    exact ⟨rfl,by omega,rfl⟩
  rw [if_neg k410]
  by_cases k5:r.kind=5
  ·rw [if_pos k5]
   have hb:=bel_in c (n:=min m 3+1) (by omega)
   have hkl:=(G.k5 k5).1
   obtain ⟨a1,a2,a3⟩:=mkIt_ok (D:=D) (g:=fun k c=>vMk D f k (m.tdiv 2) c) (r:=r) (n:=0) (f:=f) (List.replicate (bel c (min m 3+1)).1.toNat (kid1 r).toNat) 0 (bel c (min m 3+1)).2 (fun j hj=>by
    rw [itemK_5 k5,List.getElem_replicate]
    have:=g1 (by omega)
    omega) (fun x hx c=>by
    obtain ⟨_,rfl⟩:=List.mem_replicate.1 hx
    exact H1 (by omega) c)
   have hlen:=mkIt_len (fun k c=>vMk D f k (m.tdiv 2) c) (List.replicate (bel c (min m 3+1)).1.toNat (kid1 r).toNat) (bel c (min m 3+1)).2
   rw [List.length_replicate] at hlen a3
   refine dv_mk hrD ?_ a1 (by simp) (by rw [hlen];omega) (.inr rfl) a2 (by rw [hlen];exact a3)
   rw [ownV_5 k5,decide_eq_true_eq,hlen]
   have:=hlim (.inr (.inl k5))
   exact ⟨rfl,rfl,by omega,by omega⟩
  rw [if_neg k5]
  by_cases k6:r.kind=6
  ·rw [if_pos k6]
   have hns:=hdr.ns
   have hkn:r.kids.length=r.names.length:=by
    have hk:=hdr.kd []
    rw [kl_6 k6] at hk
    simp only [Bool.and_eq_true] at hk
    have:=shape_len (by omega) (shapeL_b hk.1)
    omega
   obtain ⟨a1,a2,a3⟩:=mkIt_ok (D:=D) (g:=fun k c=>vMk D f k (m.tdiv 2) c) (r:=r) (n:=0) (f:=f) (r.kids.map Int.toNat) 0 c (fun j hj=>by
    have hj':j<r.kids.length:=by simpa using hj
    rw [Nat.zero_add,itemK_6 k6 hj',List.getElem_map]
    have:=(G.kid j hj').1
    omega) (fun x hx c=>by
    obtain ⟨y,hy,rfl⟩:=List.mem_map.1 hx
    obtain ⟨j,hj,rfl⟩:=List.getElem_of_mem hy
    exact HK j hj c)
   have hlen:=mkIt_len (fun k c=>vMk D f k (m.tdiv 2) c) (r.kids.map Int.toNat) c
   rw [List.length_map] at hlen a3
   refine dv_mk hrD ?_ a1 (by simp) (by rw [hlen];omega) (.inr rfl) a2 (by rw [hlen];exact a3)
   rw [ownV_6 k6,decide_eq_true_eq,hlen]
   exact ⟨rfl,rfl,rfl⟩
  rw [if_neg k6]
  have ONE:∀ (n:Int) (x:Nat) (c:Cur),itemK r n 0=x→Dv D x f (vMk D f x (m.tdiv 2) c).1→ownV D r n 0 1=true→Dv D i (f+1) (.mk n [] [(vMk D f x (m.tdiv 2) c).1]):=fun n x c h1 h2 h3=>by
   refine dv_mk hrD h3 ?_ (by simp) (by simp) (.inr rfl) ?_ ?_
   ·rw [validVs,h1,h2.ok];unfold validVs;rfl
   ·unfold VBs;exact ⟨h2.vb,by unfold VBs;trivial⟩
   ·rw [totVs,totVs]
    have:=h2.tot
    simp
    omega
  by_cases k7:r.kind=7
  ·rw [if_pos k7]
   obtain ⟨t1,t2,t3⟩:=tagsP_at hV hr k7
   have hb:=bel_in c (n:=r.tags.length) (by omega)
   have hk:(bel c r.tags.length).1.toNat<r.tags.length:=by omega
   have hkl:(bel c r.tags.length).1.toNat+1<r.kids.length:=by omega
   have ht:=tagIx_self t3 hk
   have hit:itemK r r.tags[(bel c r.tags.length).1.toNat] 0=((r.kids[(bel c r.tags.length).1.toNat+1]).toNat:Int):=by
    rw [itemK_7 k7 ht hkl]
    have:=(G.kid _ hkl).1
    omega
   rw [show r.tags.getD (bel c r.tags.length).1.toNat 0=r.tags[(bel c r.tags.length).1.toNat] by simp [List.getD,hk],show r.kids.getD ((bel c r.tags.length).1.toNat+1) 0=r.kids[(bel c r.tags.length).1.toNat+1] by simp [List.getD,hkl]]
   refine ONE _ _ _ hit (HK _ hkl _) ?_
   rw [ownV_7 k7,decide_eq_true_eq]
   exact ⟨rfl,rfl,by rw [hit];omega⟩
  rw [if_neg k7]
  by_cases k8:r.kind=8
  ·rw [if_pos k8]
   have hkl:0<r.kids.length:=by have:=G.k8 k8;omega
   split
   ·refine ONE _ _ _ ?_ (H0 hkl _) ?_
    ·rw [itemK_8 (.inl k8)]
     have:=g0 hkl
     omega
    ·rw [ownV_8 k8,decide_eq_true_eq]
     exact ⟨rfl,rfl,by omega⟩
   ·refine dv_mk hrD ?_ hvs0 (by simp) (by simp) (.inl rfl) hvb0 htv0
    rw [ownV_8 k8,decide_eq_true_eq]
    exact ⟨rfl,rfl,by simp⟩
  rw [if_neg k8]
  by_cases k9:r.kind=9
  ·rw [if_pos k9]
   have hkl:0<r.kids.length:=by have:=G.k9 k9;omega
   refine ONE _ _ _ ?_ (H0 hkl _) ?_
   ·rw [itemK_8 (.inr k9)]
    have:=g0 hkl
    omega
   ·rw [ownV_9 k9,decide_eq_true_eq]
    exact ⟨rfl,rfl,rfl⟩
  rw [if_neg k9]
  refine dv_mk hrD ?_ hvs0 (by simp) (by simp) (.inl rfl) hvb0 htv0
  rw [ownV_2 (by omega),decide_eq_true_eq]
  exact ⟨rfl,rfl,rfl⟩
end
end Go.Proofs.YtndnefealooolaaGreatDoor.Eng
namespace Go.Proofs.YtndnefealooolaaGreatDoor.Eng
open Go.RowKit

theorem DInv.db {D:List RuleD} (h:DInv D) (hl:D.length≤9):DB 1048576 D:=by
 refine ⟨by omega,fun r hr=>?_⟩
 obtain ⟨i,hi,rfl⟩:=List.getElem_of_mem hr
 have hd:=h.rule i hi
 obtain ⟨w,hw,e⟩:=hd.name
 refine ⟨?_,?_,?_,?_,?_,fun s hs=>?_⟩
 ·rw [e,ByteArray.size_append]
  have h1:=words_size w hw
  have h2:=fmtN_size (n:=i) (by omega)
  omega
 ·have:=hd.bs;omega
 ·have:=hd.ns;omega
 ·have:=hd.ts;omega
 ·have:=hd.ks;omega
 ·have:=hd.nz s hs;omega
def fileC (c:Cur):(List RuleD × List UInt8) × Cur:=
 let d:=descC c
 let v:=vMk d.1 d.1.length (d.1.length - 1) 8 d.2
 let b:=prV d.1 ((d.1.length - 1:Nat):Int) v.1
 let p:=if 0<b.length then (if (once v.2 3).1=true then bentC (once v.2 3).2 b else (b,(once v.2 3).2)) else (b,v.2)
 let s:=bel p.2 24
 if s.1=0 then ((d.1,List.replicate (400+(bel s.2 2).1).toNat 0),(bel s.2 2).2)
 else if s.1=1 then ((d.1,(bysC (bel s.2 8).1.toNat (bel s.2 8).2).1),(bysC (bel s.2 8).1.toNat (bel s.2 8).2).2)
 else if s.1=2 then ((d.1,p.1++[92]),s.2)
 else ((d.1,p.1),s.2)
theorem bentC_len (c:Cur) (b:List UInt8):(bentC c b).1.length≤b.length+1:=by
 unfold bentC
 simp only
 split
 ·split<;>simp
 split
 ·simp only [List.length_take];omega
 split
 ·simp
 ·simp
theorem bentC_b (c:Cur) (b:List UInt8):(bentC c b).2.b=c.b:=by
 unfold bentC
 simp only
 split
 ·split<;>simp only [bel_b]
 split
 ·simp only [bel_b]
 split
 ·simp only [pickI_b,bel_b]
 ·simp only [bel_b]
theorem fileC_1 (c:Cur):(fileC c).1.1=(descC c).1:=by
 unfold fileC
 generalize descC c=d
 simp only
 generalize bel _ 24=s
 split
 ·rfl
 split
 ·rfl
 split<;>rfl
theorem drawn_v (c:Cur) (m:Int) (hm:0≤m):Dv (descC c).1 ((descC c).1.length - 1) (descC c).1.length (vMk (descC c).1 (descC c).1.length ((descC c).1.length - 1) m (descC c).2).1:=by
 obtain ⟨h1,h2⟩:=descC_inv c
 have:=h1.len
 exact vMk_ok h1 (by omega) _ _ _ _ (by omega) (by omega) hm
theorem tV_le {f:Nat} (h:f≤6):tV f≤2914:=by
 have h1:(3:Nat) ^ f≤3 ^ 6:=Nat.pow_le_pow_right (by omega) h
 unfold tV
 omega
theorem drawn_p (c:Cur) (m:Int) (hm:0≤m):(prV (descC c).1 (((descC c).1.length - 1:Nat):Int) (vMk (descC c).1 (descC c).1.length ((descC c).1.length - 1) m (descC c).2).1).length≤204050:=by
 obtain ⟨h1,h2⟩:=descC_inv c
 have h3:=h1.len
 have hd:=drawn_v c m hm
 have h4:=prV_le (descC_ok c) _ _ (by omega) hd.ok
 have h5:=hd.tot
 have h6:=tV_le h2
 unfold capV at h4
 omega
theorem fileC_len (c:Cur):(fileC c).1.2.length≤204060:=by
 have h1:=drawn_p c 8 (by decide)
 unfold fileC
 generalize descC c=d at h1 ⊢
 simp only
 generalize vMk d.1 d.1.length (d.1.length - 1) 8 d.2=v at h1 ⊢
 generalize prV d.1 ((d.1.length - 1:Nat):Int) v.1=b at h1 ⊢
 have h2:=bentC_len (once v.2 3).2 b
 obtain ⟨p,hp,hpl⟩:∃ p:List UInt8 × Cur,(if 0<b.length then (if (once v.2 3).1=true then bentC (once v.2 3).2 b else (b,(once v.2 3).2)) else (b,v.2))=p∧p.1.length≤204051:=by
  refine ⟨_,rfl,?_⟩
  split
  ·split
   ·omega
   ·simp only;omega
  ·simp only;omega
 rw [hp]
 have h3:=bel_in (bel p.2 24).2 (n:=2) (by omega)
 have h4:=bel_in (bel p.2 24).2 (n:=8) (by omega)
 generalize bel p.2 24=s at h3 h4 ⊢
 split
 ·simp only [List.length_replicate]
  omega
 split
 ·simp only [bysC_len]
  omega
 split
 ·simp only [List.length_append,List.length_cons,List.length_nil];omega
 ·simp only;omega
end Go.Proofs.YtndnefealooolaaGreatDoor.Eng
