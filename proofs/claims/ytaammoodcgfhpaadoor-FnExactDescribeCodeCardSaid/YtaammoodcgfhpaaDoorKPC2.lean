/-
 Plain: the code of a description is not long, its operands are not great.
-/
import Derived.Test.YtaammoodcgfhpaaDoorKPC1
import Derived.Test.YtaammoodcgfhpaaDoorKPure17
import Derived.Test.YtaammoodcgfhpaaDoorKN0
import Derived.Test.YtaammoodcgfhpaaDoorKPT1
import Derived.Test.YtaammoodcgfhpaaDoorKN38A
set_option linter.unusedSimpArgs false
set_option linter.unusedVariables false
set_option linter.defProp false
set_option maxRecDepth 100000
set_option maxHeartbeats 4000000
namespace Go.Proofs.YtaammoodcgfhpaaDoor.Eng
open Go Go.RowKit

def numOK (n:Int):Prop:=0≤n∧n≤1000000000000
def insOK (x:Ins):Prop:=(1≤x.1∧x.1≤17)∧numOK x.2.1∧numOK x.2.2
theorem cmpTags_len:∀ (l:List Int) (f:Int),(cmpTags l f).length=l.length
 | [],_=>rfl
 | t::ts,f=>by rw [cmpTags,List.length_cons,List.length_cons,cmpTags_len ts]
theorem cmpAlts_len (es:List Int):∀ l:List Int,(cmpAlts es l).length≤2*l.length
 | []=>by rw [cmpAlts];simp
 | [k]=>by rw [cmpAlts];simp
 | k::k2::ks=>by
  rw [cmpAlts]
  ·have:=cmpAlts_len es (k2::ks)
   simp only [List.length_cons] at *
   omega
  ·simp
theorem cmpB_len {M:Nat}{r:RuleD} (h:RB M r) (start:Int) (es:List Int):(cmpB r start es).length≤6+4*M:=by
 have h1:=h.lb
 have h2:=h.lt
 have h3:=h.lk
 have h4:=cmpTags_len r.tags (start+r.tags.length+2)
 have h5:=cmpAlts_len es (r.kids.drop 1)
 rw [List.length_drop] at h5
 unfold cmpB
 repeat' split
 all_goals simp only [List.length_append,List.length_cons,List.length_nil,List.length_map,h4]
 all_goals omega
theorem cmpD_len_le {M:Nat}{D:List RuleD} (h:DB M D):∀ n,n≤D.length→(cmpD D n).1.length≤2+n*(7+4*M)
 | 0,_=>by simp [cmpD]
 | n+1,hn=>by
  have h1:=cmpD_len_le h n (by omega)
  have hr:D[n]?=some D[n]:=List.getElem?_eq_getElem (by omega)
  have h2:=cmpB_len (h.rule _ (List.mem_of_getElem? hr)) ((cmpD D n).1.length:Int) (cmpD D n).2
  rw [cmpD,List.length_append,cmpR,List.length_append,List.length_singleton,ruleD_get hr,Nat.add_mul]
  omega
theorem cmpD_le {D:List RuleD} (h:DB 1048576 D) (h24:D.length≤24) {n:Nat} (hn:n≤D.length):(cmpD D n).1.length≤200000000:=by
 have h1:=cmpD_len_le h n hn
 have h2:n*(7+4*1048576)≤24*(7+4*1048576):=Nat.mul_le_mul_right _ (by omega)
 omega
def entOK (es:List Int):Prop:=∀ e∈es,0≤e∧e≤200000000
theorem entOK_at {es:List Int} (h:entOK es) (k:Int):0≤atT es k∧atT es k≤200000000:=by
 unfold atT
 rw [List.getD_eq_getElem?_getD]
 cases hq:es[k.toNat]? with
 | none=>simp
 | some e=>exact h e (List.mem_of_getElem? hq)
theorem cmpD_ent {D:List RuleD} (h:DB 1048576 D) (h24:D.length≤24):∀ n,n≤D.length→entOK (cmpD D n).2
 | 0,_=>fun e he=>by simp [cmpD] at he
 | n+1,hn=>fun e he=>by
  rw [cmpD,List.mem_append,List.mem_singleton] at he
  rcases he with he|rfl
  ·exact cmpD_ent h h24 n (by omega) e he
  ·have:=cmpD_le h h24 (n:=n) (by omega)
   omega
theorem insCall_ok {es:List Int} (h:entOK es) (k:Int):insOK (insCall es k):=by
 have:=entOK_at h k
 unfold insCall insOK numOK
 simp only
 omega
theorem cmpTags_ok:∀ (l:List Int) (f:Int),(∀ t∈l,numOK t)→0≤f→f+2*l.length≤1000000000000→∀ x∈cmpTags l f,insOK x
 | [],_,_,_,_,x,hx=>by rw [cmpTags] at hx;cases hx
 | t::ts,f,ht,h0,h1,x,hx=>by
  simp only [List.length_cons] at h1
  rw [cmpTags,List.mem_cons] at hx
  rcases hx with rfl|hx
  ·have:=ht t (List.mem_cons_self ..)
   unfold insOK numOK
   unfold numOK at this
   simp only
   omega
  ·exact cmpTags_ok ts (f+2) (fun y hy=>ht y (List.mem_cons_of_mem _ hy)) (by omega) (by omega) x hx
theorem cmpAlts_ok {es:List Int} (h:entOK es):∀ l:List Int,∀ x∈cmpAlts es l,insOK x
 | [],x,hx=>by rw [cmpAlts] at hx;cases hx
 | [k],x,hx=>by
  rw [cmpAlts,List.mem_singleton] at hx
  subst hx
  exact insCall_ok h k
 | k::k2::ks,x,hx=>by
  rw [cmpAlts] at hx
  ·rw [List.mem_cons,List.mem_cons] at hx
   rcases hx with rfl|rfl|hx
   ·exact insCall_ok h k
   ·unfold insOK numOK;simp
   ·exact cmpAlts_ok h (k2::ks) x hx
  ·simp
theorem tags_num {D:List RuleD} (h:descP D) {n:Nat}{r:RuleD} (hr:D[n]?=some r) (h7:r.kind=7):∀ t∈r.tags,numOK t:=by
 intro t ht
 have hn:n<D.length:=(List.getElem?_eq_some_iff.1 hr).1
 have hrn:ruleAt D n=some r:=by simp [ruleAt,hr]
 have hp:ruleP D n r:=by
  refine Classical.byContradiction fun hq=>?_
  have:=h.2 n hn
  rw [vRule_no hrn hq] at this
  exact Bool.noConfusion this
 have hk:=hp.2.2.2
 rw [kl_7 h7] at hk
 simp only [Bool.and_eq_true] at hk
 have h2:=(tagsP_of hk.2).2.2
 obtain ⟨j,hj,rfl⟩:=List.getElem_of_mem ht
 have h3:=h2 j hj
 have h4:=limD_le D (kid0 r)
 unfold tagOk at h3
 unfold numOK
 omega
theorem cmpR_ok {D:List RuleD} (h:descP D) (hM:DB 1048576 D) {n:Nat}{r:RuleD} (hr:D[n]?=some r) {start:Int} (hs:0≤start∧start≤200000000) {es:List Int} (he:entOK es):∀ x∈cmpR r start es,insOK x:=by
 have G:GoodR D n r:=good_of h hr
 have hb:=hM.rule r (List.mem_of_getElem? hr)
 have hlt:=hb.lt
 have g1:=G.kd
 have k0:=insCall_ok he (kid0 r)
 have k1:=insCall_ok he (kid1 r)
 intro x hx
 unfold cmpR at hx
 rw [List.mem_append] at hx
 rcases hx with hx|hx
 ·unfold cmpB at hx
  split at hx
  ·rename_i hk
   have:=G.k1 hk
   rw [List.mem_singleton] at hx
   subst hx
   unfold insOK numOK
   simp only
   split<;>omega
  split at hx
  ·obtain ⟨c,hc,rfl⟩:=List.mem_map.1 hx
   have:=c.toNat_lt
   unfold insOK numOK
   simp only
   omega
  split at hx
  ·rename_i hk
   have:=G.k3 hk
   rw [List.mem_singleton] at hx
   subst hx
   unfold insOK numOK
   simp only
   omega
  split at hx
  ·simp only [List.mem_cons,List.not_mem_nil,or_false] at hx
   rcases hx with rfl|rfl
   ·exact k0
   ·unfold insOK numOK;simp
  split at hx
  ·simp only [List.mem_cons,List.not_mem_nil,or_false] at hx
   rcases hx with rfl|rfl|rfl|rfl|rfl|rfl
   ·exact k0
   ·unfold insOK numOK;simp
   ·unfold insOK numOK;simp
   ·unfold insOK numOK;simp only;omega
   ·exact k1
   ·unfold insOK numOK;simp only;omega
  split at hx
  ·obtain ⟨c,hc,rfl⟩:=List.mem_map.1 hx
   exact insCall_ok he c
  split at hx
  ·rename_i hk
   rw [List.mem_append,List.mem_append,List.mem_cons,List.mem_singleton] at hx
   rcases hx with ((rfl|hx)|rfl)|hx
   ·exact k0
   ·exact cmpTags_ok _ _ (tags_num h hr hk) (by omega) (by omega) x hx
   ·unfold insOK numOK;simp
   ·exact cmpAlts_ok he _ x hx
  split at hx
  ·simp only [List.mem_cons,List.not_mem_nil,or_false] at hx
   rcases hx with rfl|rfl
   ·unfold insOK numOK;simp only;omega
   ·exact k0
  split at hx
  ·simp only [List.mem_cons,List.not_mem_nil,or_false] at hx
   rcases hx with rfl|rfl|rfl
   ·unfold insOK numOK;simp
   ·exact k0
   ·unfold insOK numOK;simp
  ·rw [List.mem_singleton] at hx
   subst hx
   have:=(r.bytes[0]?.getD 0).toNat_lt
   unfold insOK numOK
   simp only
   omega
 ·rw [List.mem_singleton] at hx
  subst hx
  unfold insOK numOK
  simp
theorem cmpD_ok {D:List RuleD} (h:descP D) (hM:DB 1048576 D):∀ n,n≤D.length→∀ x∈(cmpD D n).1,insOK x
 | 0,_,x,hx=>by
  simp only [cmpD,List.mem_cons,List.not_mem_nil,or_false] at hx
  rcases hx with rfl|rfl<;>(unfold insOK numOK;simp)
 | n+1,hn,x,hx=>by
  have hr:D[n]?=some D[n]:=List.getElem?_eq_getElem (by omega)
  have h24:=h.1.2
  have hl:=cmpD_le hM h24 (n:=n) (by omega)
  rw [cmpD,List.mem_append,ruleD_get hr] at hx
  rcases hx with hx|hx
  ·exact cmpD_ok h hM n (by omega) x hx
  ·exact cmpR_ok h hM hr ⟨by omega,by omega⟩ (cmpD_ent hM h24 n (by omega)) x hx
theorem cmpP_len {D:List RuleD} (h:DB 1048576 D) (h24:D.length≤24):(cmpP D).length≤200000000∧(cmpP D).length=(cmpD D D.length).1.length:=by
 have h1:=cmpD_le h h24 (Nat.le_refl _)
 have h2:=cmpD_ge D D.length
 unfold cmpP
 rw [List.length_cons,List.length_drop]
 omega
theorem cmpP_ok {D:List RuleD} (h:descP D) (hM:DB 1048576 D):∀ x∈cmpP D,insOK x:=by
 intro x hx
 unfold cmpP at hx
 rcases List.mem_cons.1 hx with rfl|hx
 ·have:=entOK_at (cmpD_ent hM h.1.2 _ (Nat.le_refl _)) ((D.length:Int) - 1)
  unfold insOK numOK
  simp only
  omega
 ·exact cmpD_ok h hM _ (Nat.le_refl _) x (List.mem_of_mem_drop hx)
theorem cmpP_nth {D:List RuleD} (h:descP D) (hM:DB 1048576 D) {k:Nat}{x:Ins} (hk:(cmpP D)[k]?=some x):insOK x:=cmpP_ok h hM x (List.mem_of_getElem? hk)
theorem itoJ_size {n:Int} (h:numOK n):(itoB n).size≤20:=by
 obtain ⟨m,rfl⟩:∃ m:Nat,n=m:=⟨n.toNat,by unfold numOK at h;omega⟩
 unfold numOK at h
 unfold itoB
 rw [Lib.itoa_nonneg]
 have:=dec_le 20 m (by omega) (by omega)
 show (Lib.decDigits m).toArray.size≤20
 rw [List.size_toArray]
 exact this
end Go.Proofs.YtaammoodcgfhpaaDoor.Eng
