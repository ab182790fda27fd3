/-
 Plain data of rules and values, and what it means that memory holds them. No program in sight.

 Plain functions on descriptions, as data. No program in sight.

 Plain functions: which rules are valid.

 Plain functions: the reference's own way to ask a rule's kind.

 Plain functions: valid rules, valid descriptions.

 Plain functions: reading a value of a rule from bytes. No program in sight.

 Plain functions: what a valid rule says; where reading ends.

 Plain functions: reading, kind by kind.

 Plain functions: items joined, consts.

 A rule in a variable of its own; a rule's cells at a known address.
-/
import Derived.WalkKit
import Derived.WalkSpells
import Derived.WalkLawsBesides
import Derived.Lib.Hide
import Derived.Deep.QuietTactic
import Derived.BigQuiet
import Derived.Deep.RegionHeld3
import Derived.Deep.RegionWith
set_option linter.unusedSimpArgs false
set_option linter.unusedVariables false
set_option linter.defProp false
set_option maxRecDepth 100000
set_option maxHeartbeats 4000000
namespace Go.Proofs.YtaammoodcgfhpaaDoor
open Go.RowKit

abbrev u8v (c:UInt8):Value:=.int .u8 c.toNat
abbrev i64v (n:Int):Value:=.int .i64 n

structure Since (lo:Nat) (w0 w:World):Prop where
 b:Below lo w0 w
 le:lo≤w.heap.size

theorem Since.refl {lo:Nat}{w:World} (h:lo≤w.heap.size):Since lo w w:=⟨Below.refl _ _,h⟩
theorem Since.self (w:World):Since w.heap.size w w:=⟨Below.refl _ _,Nat.le_refl _⟩
theorem Since.alloc {lo:Nat}{w0 w:World} (h:Since lo w0 w) (o:Obj):Since lo w0 (w.alloc o):=
 ⟨h.b.alloc h.le o,by have:=h.le;simp;omega⟩
theorem Since.drew {lo:Nat}{w0 w:World} (h:Since lo w0 w):Since lo w0 w.drew:=⟨h.b.drew,h.le⟩
theorem Since.drewN {lo:Nat}{w0 w:World} (h:Since lo w0 w) (n:Nat):Since lo w0 (w.drewN n):=
 ⟨⟨h.b.os,h.b.tape,h.b.output,h.b.size,h.b.block⟩,h.le⟩
theorem Since.setCell {lo:Nat}{w0 w:World} (h:Since lo w0 w) {p:Addr} (hp:lo≤p.block) (u:Value):Since lo w0 (w.setCell p u):=
 ⟨h.b.setCell hp u,by have:=h.le;simp [World.setCell];omega⟩
theorem Since.call {lo:Nat}{w0 w w':World} (h:Since lo w0 w) (hb:Below w.heap.size w w'):Since lo w0 w':=
 ⟨h.b.trans (hb.mono h.le),Nat.le_trans h.le hb.size⟩
theorem Since.trans0 {lo:Nat}{w0 w w1:World} (h:Since lo w0 w) (k:Since w.heap.size w w1):Since lo w0 w1:=⟨h.b.trans (k.b.mono h.le),Nat.le_trans h.le k.le⟩
theorem Since.trans {lo:Nat}{w0 w1 w2:World} (h:Since lo w0 w1) (k:Since lo w1 w2):Since lo w0 w2:=⟨h.b.trans k.b,k.le⟩
theorem Since.mono {lo lo':Nat}{w0 w:World} (h:Since lo w0 w) (hl:lo'≤lo):Since lo' w0 w:=⟨h.b.mono hl,Nat.le_trans hl h.le⟩

theorem quietE {P:Program}{f:FuncId}{args:Array Value}{w:World}{n:Nat}{v:Value}
  (h:Calls P f args (w.drewN n) fun e w'=>e=.returned v∧w.drewN n=w'):Calls P f args (w.drewN n) fun e w''=>e=.returned v∧∃ m,w''=w.drewN m:=
 h.mono fun _ _ ⟨he,hm⟩=>⟨he,n,hm.symm⟩

structure Ext (w:World) where
 W:World
 h:Below w.heap.size w W
instance (w:World):Nonempty (Ext w):=⟨⟨w,Below.refl _ _⟩⟩
theorem Ext.cell {w:World} (n:Ext w) {p:Addr}{v:Value} (h:w.cell? p=some v):n.W.cell? p=some v:=
 (n.h.cell (World.block_lt_of_cell? w p h)).trans h
theorem Ext.cells {w:World}{p:Addr}{v:Value} (h:w.cell? p=some v) (n:Ext w):n.W.cell? p=some v:=n.cell h
theorem Since.ext {lo:Nat}{w0 w:World} (h:Since lo w0 w) (n:Ext w):Since lo w0 n.W:=h.call n.h
theorem wp_region_ext {P:Program}{id:Nat}{Q:Exit→Act→World→Prop}{a:Act}{w:World}{l:List Oper} (hm:P.follows .mixedOrders=true) (hB:Region.lexB .any l.toArray=true)
  (h:wpQuiet P l.toArray (fun w'=>∃ n:Ext w,w'=n.W) (fun a'=>∀ w',(∃ n:Ext w,w'=n.W)→Q .normal a' w') l a):(Code.region id l.toArray true).wp P Q a w:=
 wp_region_quiet (C:=fun w'=>∃ n:Ext w,w'=n.W) hm hB ⟨⟨_,(Below.refl _ _).drew⟩,rfl⟩ (by simpa using h)
theorem extE {P:Program}{f:FuncId}{args:Array Value}{w:World}{n:Ext w}{v:Value}
  (h:Calls P f args n.W fun e w'=>e=.returned v∧Below n.W.heap.size n.W w'):Calls P f args n.W fun e w''=>e=.returned v∧∃ m:Ext w,w''=m.W:=
 h.mono fun _ w'' ⟨he,hb⟩=>⟨he,⟨w'',n.h.trans (hb.mono n.h.size)⟩,rfl⟩
theorem extQ {P:Program}{f:FuncId}{args:Array Value}{w:World}{n:Ext w}{v:Value}
  (h:Calls P f args n.W fun e w'=>e=.returned v∧n.W=w'):Calls P f args n.W fun e w''=>e=.returned v∧∃ m:Ext w,w''=m.W:=
 h.mono fun _ w'' ⟨he,hb⟩=>⟨he,⟨w'',hb▸n.h⟩,rfl⟩

theorem bcell {W w1:World} (hb:Below W.heap.size W w1) :
  (∀ b o,b<W.heap.size→w1.cell? ⟨b,o,none⟩=W.cell? ⟨b,o,none⟩)∧(∀ b o,b<W.heap.size→w1.frozen? ⟨b,o,none⟩=W.frozen? ⟨b,o,none⟩):=
 ⟨fun b o h=>hb.cell (p:=⟨b,o,none⟩) h,fun b o h=>hb.frozen (p:=⟨b,o,none⟩) h⟩

def Row (w:World) (lo:Nat) (a:Option Addr) (cs:List Value):Prop:=
 cs=[]∨∃ b o,a=some ⟨b,o,none⟩∧b<lo∧∀ i v,cs[i]?=some v→w.cell? ⟨b,o+i,none⟩=some v

theorem Row.below {w0 w:World}{lo:Nat}{a:Option Addr}{cs:List Value} (h:Row w0 lo a cs) (hs:Below lo w0 w):Row w lo a cs:=by
 rcases h with h|⟨b,o,ha,hb,hc⟩
 ·exact .inl h
 ·exact .inr ⟨b,o,ha,hb,fun i v hv=>(hs.cell (p:=⟨b,o+i,none⟩) hb).trans (hc i v hv)⟩

theorem Row.mono {w:World}{lo lo':Nat}{a:Option Addr}{cs:List Value} (h:Row w lo a cs) (hl:lo≤lo'):Row w lo' a cs:=by
 rcases h with h|⟨b,o,ha,hb,hc⟩
 ·exact .inl h
 ·exact .inr ⟨b,o,ha,Nat.lt_of_lt_of_le hb hl,hc⟩

theorem Row.nil (w:World) (lo:Nat) (a:Option Addr):Row w lo a []:=.inl rfl

theorem Row.pos {w0 w:World}{lo:Nat}{a:Option Addr}{cs:List Value} (h:Row w0 lo a cs) (hs:Since lo w0 w) (hn:0<cs.length) :
  ∃ b o,a=some ⟨b,o,none⟩∧b<lo∧b<w.heap.size∧(∀ k,b<w.heap.size+k)∧∀ i v,cs[i]?=some v→w.cell? ⟨b,o+i,none⟩=some v:=by
 rcases h.below hs.b with h|⟨b,o,ha,hb,hc⟩
 ·subst h;simp at hn
 ·have:=hs.le
  exact ⟨b,o,ha,hb,by omega,fun k=>by omega,hc⟩

theorem Row.sub {w:World}{lo:Nat}{b o:Nat}{cs ds:List Value} (j:Nat) (h:Row w lo (some ⟨b,o,none⟩) cs) (hd:∀ i v,ds[i]?=some v→cs[j+i]?=some v):Row w lo (some ⟨b,o+j,none⟩) ds:=by
 rcases h with h|⟨b',o',ha,hb,hc⟩
 ·subst h
  refine .inl ?_
  cases ds with
  | nil=>rfl
  | cons d r=>have:=hd 0 d rfl;simp at this
 ·simp only [Option.some.injEq,Addr.mk.injEq,and_true] at ha
  obtain ⟨rfl,rfl⟩:=ha
  refine .inr ⟨b,o+j,rfl,hb,fun i v hv=>?_⟩
  have:=hc (j+i) v (hd i v hv)
  rw [Nat.add_assoc];exact this

structure RuleD where
 name:ByteArray
 kind:Int
 size:Int
 little:Bool
 bytes:List UInt8
 names:List ByteArray
 tags:List Int
 kids:List Int

structure R extends RuleD where
 ba:Option Addr
 bc:Nat
 na:Option Addr
 nc:Nat
 ta:Option Addr
 tc:Nat
 ka:Option Addr
 kc:Nat

@[reducible] def R.cells (r:R):List Value:=
 [.string r.name,.int .i64 r.kind,.int .i64 r.size,.bool r.little,.slice r.ba r.bytes.length r.bc,.slice r.na r.names.length r.nc,.slice r.ta r.tags.length r.tc,.slice r.ka r.kids.length r.kc]

structure R.Ok (w:World) (lo M:Nat) (r:R):Prop where
 name:r.name.size≤M
 bytes:Row w lo r.ba (r.bytes.map u8v)
 names:Row w lo r.na (r.names.map .string)
 tags:Row w lo r.ta (r.tags.map i64v)
 kids:Row w lo r.ka (r.kids.map i64v)
 lb:r.bytes.length≤M
 ln:r.names.length≤M
 lt:r.tags.length≤M
 lk:r.kids.length≤M
 nm:∀ s∈r.names,s.size≤M
 cb:r.bytes.length≤r.bc∧r.bc≤maxLen
 cn:r.names.length≤r.nc∧r.nc≤maxLen
 ct:r.tags.length≤r.tc∧r.tc≤maxLen
 ck:r.kids.length≤r.kc∧r.kc≤maxLen

theorem R.Ok.below {w0 w:World}{lo M:Nat}{r:R} (h:r.Ok w0 lo M) (hs:Below lo w0 w):r.Ok w lo M:=
 { h with bytes:=h.bytes.below hs,names:=h.names.below hs,tags:=h.tags.below hs,kids:=h.kids.below hs }

theorem R.Ok.mono {w:World}{lo lo' M:Nat}{r:R} (h:r.Ok w lo M) (hl:lo≤lo'):r.Ok w lo' M:=
 { h with bytes:=h.bytes.mono hl,names:=h.names.mono hl,tags:=h.tags.mono hl,kids:=h.kids.mono hl }

structure Ds (w:World) (lo M:Nat) (a:Option Addr) (cap:Nat) (rs:List R):Prop where
 row:Row w lo a (rs.flatMap R.cells)
 rule:∀ r∈rs,r.Ok w lo M
 len:rs.length≤M
 cap:rs.length≤cap∧cap≤maxLen

theorem Ds.below {w0 w:World}{lo M:Nat}{a:Option Addr}{cap:Nat}{rs:List R} (h:Ds w0 lo M a cap rs) (hs:Below lo w0 w):Ds w lo M a cap rs:=
 ⟨h.row.below hs,fun r hr=>(h.rule r hr).below hs,h.len,h.cap⟩
theorem Ds.mono {w:World}{lo lo' M:Nat}{a:Option Addr}{cap:Nat}{rs:List R} (h:Ds w lo M a cap rs) (hl:lo≤lo'):Ds w lo' M a cap rs:=
 ⟨h.row.mono hl,fun r hr=>(h.rule r hr).mono hl,h.len,h.cap⟩

theorem flat_get (rs:List R) (i j:Nat) (r:R) (hr:rs[i]?=some r) (hj:j<8):(rs.flatMap R.cells)[i*8+j]?=r.cells[j]?:=by
 induction rs generalizing i with
 | nil=>simp at hr
 | cons x xs ih=>
  cases i with
  | zero=>
   simp only [List.getElem?_cons_zero,Option.some.injEq] at hr
   subst hr
   rw [List.flatMap_cons,List.getElem?_append_left (by simp;omega)]
   simp
  | succ i=>
   simp only [List.getElem?_cons_succ] at hr
   rw [List.flatMap_cons,List.getElem?_append_right (by simp;omega)]
   rw [←ih i hr]
   congr 1
   simp
   omega

theorem Ds.at {w0 w:World}{lo M:Nat}{a:Option Addr}{cap:Nat}{rs:List R} (h:Ds w0 lo M a cap rs) (hs:Since lo w0 w) (i:Nat) (r:R) (hr:rs[i]?=some r) :
  ∃ b o,a=some ⟨b,o,none⟩∧b<lo∧b<w.heap.size∧(∀ k,b<w.heap.size+k)∧w.cell? ⟨b,o+i*8,none⟩=some (.string r.name)∧
   w.cell? ⟨b,o+i*8+1,none⟩=some (.int .i64 r.kind)∧w.cell? ⟨b,o+i*8+2,none⟩=some (.int .i64 r.size)∧w.cell? ⟨b,o+i*8+3,none⟩=some (.bool r.little)∧
   w.cell? ⟨b,o+i*8+4,none⟩=some (.slice r.ba r.bytes.length r.bc)∧w.cell? ⟨b,o+i*8+5,none⟩=some (.slice r.na r.names.length r.nc)∧
   w.cell? ⟨b,o+i*8+6,none⟩=some (.slice r.ta r.tags.length r.tc)∧w.cell? ⟨b,o+i*8+7,none⟩=some (.slice r.ka r.kids.length r.kc):=by
 have hl:i<rs.length:=by
  rcases Nat.lt_or_ge i rs.length with h|h
  ·exact h
  ·rw [List.getElem?_eq_none h] at hr;cases hr
 have hpos:0<(rs.flatMap R.cells).length:=by
  have:=flat_get rs i 0 r hr (by omega)
  rcases Nat.eq_zero_or_pos (rs.flatMap R.cells).length with h0|h0
  ·rw [List.length_eq_zero_iff.1 h0] at this;simp at this
  ·exact h0
 obtain ⟨b,o,ha,hb,hb1,hb2,hc⟩:=h.row.pos hs hpos
 have key:∀ j v,j<8→r.cells[j]?=some v→w.cell? ⟨b,o+i*8+j,none⟩=some v:=fun j v hj hv=>by
  have:=hc (i*8+j) v ((flat_get rs i j r hr hj).trans hv)
  rw [Nat.add_assoc];exact this
 exact ⟨b,o,ha,hb,hb1,hb2,key 0 _ (by omega) rfl,key 1 _ (by omega) rfl,key 2 _ (by omega) rfl,key 3 _ (by omega) rfl,key 4 _ (by omega) rfl,key 5 _ (by omega) rfl,key 6 _ (by omega) rfl,key 7 _ (by omega) rfl⟩

structure Bs (w:World) (lo M:Nat) (a:Option Addr) (cap:Nat) (xs:List UInt8):Prop where
 row:Row w lo a (xs.map u8v)
 len:xs.length≤M
 cap:xs.length≤cap∧cap≤maxLen
theorem Bs.below {w0 w:World}{lo M:Nat}{a:Option Addr}{cap:Nat}{xs:List UInt8} (h:Bs w0 lo M a cap xs) (hs:Below lo w0 w):Bs w lo M a cap xs:=⟨h.row.below hs,h.len,h.cap⟩
theorem Bs.mono {w:World}{lo lo' M:Nat}{a:Option Addr}{cap:Nat}{xs:List UInt8} (h:Bs w lo M a cap xs) (hl:lo≤lo'):Bs w lo' M a cap xs:=⟨h.row.mono hl,h.len,h.cap⟩
theorem R.Ok.bs {w:World}{lo M:Nat}{r:R} (h:r.Ok w lo M):Bs w lo M r.ba r.bc r.bytes:=⟨h.bytes,h.lb,h.cb⟩

inductive V where
 | mk (number:Int) (bytes:List UInt8) (items:List V)

theorem belS {p:Prop} (h:p:=by repeat (first|with_reducible exact Since.self _|with_reducible assumption|with_reducible refine Since.alloc ?_ _|with_reducible refine Since.drew ?_|with_reducible refine Since.drewN ?_ _|with_reducible refine Since.ext ?_ _|with_reducible refine Since.setCell ?_ (by first|(simp;done)|(simp;omega)) _|refine Since.call ?_ (by with_reducible assumption))):p:=h
theorem sinS {p:Prop} (h:p:=by repeat (first|with_reducible assumption|with_reducible exact Since.self _|with_reducible refine Since.alloc ?_ _|with_reducible refine Since.drew ?_|with_reducible refine Since.drewN ?_ _|with_reducible refine Since.ext ?_ _|with_reducible refine Since.setCell ?_ (by first|(simp;done)|(simp;omega)) _|refine Since.call ?_ (by with_reducible assumption))):p:=h
end Go.Proofs.YtaammoodcgfhpaaDoor
namespace Go.Proofs.YtaammoodcgfhpaaDoor
open Go.RowKit

def ruleAt (D:List RuleD) (i:Int):Option RuleD:=if 0≤i then D[i.toNat]? else none

def limD (D:List RuleD) (i:Int):Int:=
 match ruleAt D i with
 | some r=>if r.kind=1∧1≤r.size∧r.size≤4 then 2 ^ (8*r.size.toNat) - 1 else -1
 | none=>-1

theorem limD_none {D:List RuleD}{i:Int} (h:ruleAt D i=none):limD D i=-1:=by simp [limD,h]
theorem limD_bad {D:List RuleD}{i:Int}{r:RuleD} (h:ruleAt D i=some r) (hr:¬(r.kind=1∧1≤r.size∧r.size≤4)):limD D i=-1:=by simp [limD,h,hr]
theorem limD_good {D:List RuleD}{i:Int}{r:RuleD} (h:ruleAt D i=some r) (hr:r.kind=1∧1≤r.size∧r.size≤4):limD D i=2 ^ (8*r.size.toNat) - 1:=by simp [limD,h,hr]

theorem ruleAt_map {rs:List R}{i:Nat}{r:R} (h:rs[i]?=some r):ruleAt (rs.map R.toRuleD) i=some r.toRuleD:=by simp [ruleAt,h]

theorem rule_cases (rs:List R) (i:Int):(∃ (n:Nat) (r:R),i=n∧rs[n]?=some r∧n<rs.length∧ruleAt (rs.map R.toRuleD) i=some r.toRuleD)∨
  ((i<0∨rs.length≤i)∧ruleAt (rs.map R.toRuleD) i=none):=by
 by_cases h0:0≤i
 ·obtain ⟨n,rfl⟩:=Int.eq_ofNat_of_zero_le h0
  by_cases hn:n<rs.length
  ·exact .inl ⟨n,rs[n],rfl,List.getElem?_eq_getElem hn,hn,ruleAt_map (List.getElem?_eq_getElem hn)⟩
  ·refine .inr ⟨.inr (by omega),?_⟩
   simp [ruleAt]
   omega
 ·exact .inr ⟨.inl (by omega),by simp [ruleAt,h0]⟩

def byteOk (j:Nat) (c:UInt8):Prop:=(97≤(c.toNat:Int)∧(c.toNat:Int)≤122)∨((48≤(c.toNat:Int)∧(c.toNat:Int)≤57)∧j≠0)
def nameP (s:ByteArray):Prop:=(1≤s.size∧s.size≤12)∧∀ j (h:j<s.size),byteOk j s[j]
open Classical in
noncomputable def isName (s:ByteArray):Bool:=decide (nameP s)
theorem isName_false {s:ByteArray} (h:¬nameP s):isName s=false:=by simp [isName,h]
theorem isName_true {s:ByteArray} (h:nameP s):isName s=true:=by simp [isName,h]
theorem isName_bad {s:ByteArray}{k:Nat} (hk:k<s.size) (h:¬byteOk k s[k]):isName s=false:=isName_false fun hn=>h (hn.2 k hk)
theorem isName_end {s:ByteArray}{k:Nat} (hk:¬k<s.size) (h:∀ j (hj:j<s.size),j<k→byteOk j s[j]):isName s=(decide (1≤(s.size:Int)) && decide ((s.size:Int)≤12)):=by
 by_cases hs:1≤s.size∧s.size≤12
 ·rw [isName_true ⟨hs,fun j hj=>h j hj (by omega)⟩]
  simp
  omega
 ·rw [isName_false fun hn=>hs hn.1]
  simp
  omega

def sumB (l:List UInt8):Nat:=l.foldl (fun n c=>n+c.toNat) 0 % 256
def sumR (l:List UInt8):Nat:=l.foldl (fun n c=>n+c.toNat) 0
def beNat (l:List UInt8):Nat:=l.foldl (fun n c=>n*256+c.toNat) 0
def readInt (b:List UInt8) (little:Bool):Nat:=if 4<b.length then 0 else beNat (if little then b.reverse else b)
theorem seq_true {a b:ByteArray} (h:a=b):(a.toList==b.toList)=true:=by rw [h];exact beq_self_eq_true _
theorem seq_false {a b:ByteArray} (h:a≠b):(a.toList==b.toList)=false:=by
 rw [beq_eq_false_iff_ne,ByteArray.toList_eq,ByteArray.toList_eq]
 intro e
 exact h (by cases a;cases b;simpa using e)
theorem getE? {α:Type}{l:List α}{k:Nat} (h:k<l.length):l[k]?=some l[k]:=List.getElem?_eq_getElem h
theorem map_at {α β:Type}{l:List α}{k:Nat} (f:α→β) (h:k<l.length):(l.map f)[k]?=some (f l[k]):=by simp [h]

def hasText (l:List ByteArray) (s:ByteArray):Bool:=l.any fun x=>x.toList==s.toList
theorem hasText_yes {l:List ByteArray}{s:ByteArray}{k:Nat} (h:k<l.length) (he:l[k]=s):hasText l s=true:=
 List.any_eq_true.2 ⟨_,List.getElem_mem h,seq_true he⟩
theorem hasText_no {l:List ByteArray}{s:ByteArray}{k:Nat} (hk:¬k<l.length) (h:∀ j (hj:j<l.length),j<k→l[j]≠s):hasText l s=false:=by
 refine List.any_eq_false.2 fun x hx=>?_
 obtain ⟨j,hj,he⟩:=List.getElem_of_mem hx
 rw [seq_false (he▸h j hj (by omega))]
 simp
theorem upto_succ {n:Nat}{P:∀ j,j<n→Prop}{k:Nat} (hk:∀ h:k<n,P k h) (h:∀ j (hj:j<n),j<k→P j hj):∀ j (hj:j<n),j<k+1→P j hj:=fun j hj hjk=>by
 rcases Nat.lt_succ_iff_lt_or_eq.1 hjk with h1|rfl
 ·exact h j hj h1
 ·exact hk hj
def term (t:UInt8):List UInt8→Option (List UInt8 × Nat)
 | []=>none
 | c::r=>
  if c=t then some ([],1)
  else if c=92 then
   match r with
   | []=>none
   | d::r'=>(term t r').map fun x=>(d::x.1,x.2+2)
  else (term t r).map fun x=>(c::x.1,x.2+1)
def readTerm (b:List UInt8) (at_:Nat) (t:UInt8):Option (List UInt8 × Nat):=(term t (b.drop at_)).map fun x=>(x.1,at_+x.2)
theorem term_cons (t c:UInt8) (r:List UInt8):term t (c::r)=if c=t then some ([],1)
  else if c=92 then
   match r with
   | []=>none
   | d::r'=>(term t r').map fun x=>(d::x.1,x.2+2)
  else (term t r).map fun x=>(c::x.1,x.2+1):=by rw [term.eq_def]
def rdT (b:List UInt8) (at_:Nat) (t:UInt8):List UInt8 × Nat × Bool:=
 match readTerm b at_ t with
 | some x=>(x.1,x.2,true)
 | none=>([],at_,false)

theorem readTerm_end {b:List UInt8}{k:Nat}{t:UInt8} (h:b.length≤k):readTerm b k t=none:=by
 unfold readTerm
 rw [List.drop_eq_nil_of_le h]
 simp [term]
theorem drop_get {α:Type}{b:List α}{k:Nat} (h:k<b.length):b.drop k=b[k]::b.drop (k+1):=List.drop_eq_getElem_cons h
theorem readTerm_step {b:List UInt8}{k:Nat}{t:UInt8} (h:k<b.length) (h1:b[k]≠t) (h2:b[k]≠92):readTerm b k t=(readTerm b (k+1) t).map fun x=>(b[k]::x.1,x.2):=by
 unfold readTerm
 rw [drop_get h]
 rw [term_cons,if_neg h1,if_neg h2,Option.map_map,Option.map_map]
 congr 1
 funext x
 simp
 omega
theorem readTerm_last {b:List UInt8}{k:Nat}{t:UInt8} (h:k<b.length) (hl:¬k+1<b.length) (h1:b[k]≠t) (h2:b[k]=92):readTerm b k t=none:=by
 unfold readTerm
 rw [drop_get h,List.drop_eq_nil_of_le (by omega)]
 rw [h2] at h1
 rw [h2,term_cons,if_neg h1,if_pos rfl]
 rfl
def TermAt (b:List UInt8) (at_:Nat) (t:UInt8) (k:Nat) (acc:List UInt8):Prop:=at_≤k∧readTerm b at_ t=(readTerm b k t).map fun x=>(acc++x.1,x.2)
theorem TermAt.refl {b:List UInt8}{k:Nat}{t:UInt8}:TermAt b k t k []:=by
 refine ⟨Nat.le_refl _,?_⟩
 cases readTerm b k t<;>simp
theorem TermAt.fin {b:List UInt8}{a k:Nat}{t:UInt8}{acc:List UInt8} (h:TermAt b a t k acc) (hk:¬k<b.length):rdT b a t=([],a,false):=by
 unfold rdT
 rw [h.2,readTerm_end (by omega)]
 simp
theorem TermAt.last {b:List UInt8}{a k:Nat}{t:UInt8}{acc:List UInt8} (h:TermAt b a t k acc) (hk:k<b.length) (hl:¬k+1<b.length) (h1:b[k]≠t) (h2:b[k]=92):rdT b a t=([],a,false):=by
 unfold rdT
 rw [h.2,readTerm_last hk hl h1 h2]
 simp
theorem TermAt.step {b:List UInt8}{a k:Nat}{t:UInt8}{acc:List UInt8} (h:TermAt b a t k acc) (hk:k<b.length) (h1:b[k]≠t) (h2:b[k]≠92):TermAt b a t (k+1) (acc++[b[k]]):=by
 refine ⟨by have:=h.1;omega,?_⟩
 rw [h.2,readTerm_step hk h1 h2,Option.map_map]
 congr 1
 funext x
 simp
def shapeB (r:RuleD) (size bytes names tags:Bool) (kids:Int):Bool:=
 (size || r.size==0) && (bytes || r.bytes.length==0) && (names || r.names.length==0) && (tags || r.tags.length==0) && (decide (kids<0) || (r.kids.length:Int)==kids)
def shapeL (r:RuleD) (size bytes names tags:Bool) (kids:Int):Bool:=shapeB r size bytes names tags kids && (!r.little || r.kind==1)

def namesP (l:List ByteArray):Prop:=(1≤l.length∧l.length≤8)∧∀ j (h:j<l.length),isName l[j]=true∧hasText (l.take j) l[j]=false
open Classical in
noncomputable def namesB (l:List ByteArray):Bool:=decide (namesP l)
theorem namesB_bad {l:List ByteArray}{k:Nat} (hk:k<l.length) (h:¬(isName l[k]=true∧hasText (l.take k) l[k]=false)):namesB l=false:=by
 have:¬namesP l:=fun hn=>h (hn.2 k hk)
 simp [namesB,this]
theorem namesB_end {l:List ByteArray}{k:Nat} (hk:¬k<l.length) (h:∀ j (hj:j<l.length),j<k→isName l[j]=true∧hasText (l.take j) l[j]=false):namesB l=(decide (1≤(l.length:Int)) && decide ((l.length:Int)≤8)):=by
 by_cases hs:1≤l.length∧l.length≤8
 ·have:namesP l:=⟨hs,fun j hj=>h j hj (by omega)⟩
  simp [namesB,this]
  omega
 ·have:¬namesP l:=fun hn=>hs hn.1
  simp [namesB,this]
  omega
theorem namesB_len {l:List ByteArray} (h:¬(1≤l.length∧l.length≤8)):namesB l=false:=by
 have:¬namesP l:=fun hn=>h hn.1
 simp [namesB,this]

def tagOk (lim:Int) (l:List Int) (j:Nat) (h:j<l.length):Prop:=(0≤l[j]∧l[j]≤lim)∧(0<j→l[j - 1]'(by omega)<l[j])
def kid0 (r:RuleD):Int:=r.kids.headD 0
theorem kids0 {r:RuleD} (h:0<r.kids.length):r.kids[0]?=some (kid0 r):=by
 unfold kid0
 cases hq:r.kids with
 | nil=>rw [hq] at h;simp at h
 | cons x y=>rfl
def tagsP (D:List RuleD) (r:RuleD):Prop:=r.kids.length=r.tags.length+1∧(1≤r.tags.length∧r.tags.length≤8)∧∀ j (h:j<r.tags.length),tagOk (limD D (kid0 r)) r.tags j h
open Classical in
noncomputable def tagsB (D:List RuleD) (r:RuleD):Bool:=decide (tagsP D r)
theorem tagsB_false {D:List RuleD}{r:RuleD} (h:¬tagsP D r):tagsB D r=false:=by simp [tagsB,h]
theorem tagsB_true {D:List RuleD}{r:RuleD} (h:tagsP D r):tagsB D r=true:=by simp [tagsB,h]
theorem limD_ge (D:List RuleD) (i:Int):limD D i=-1∨255≤limD D i:=by
 unfold limD
 split
 ·rename_i r _
  split
  ·rename_i h
   right
   have h1:1≤r.size.toNat:=by omega
   have h2:2 ^ (8*1)≤2 ^ (8*r.size.toNat):=Nat.pow_le_pow_right (by omega) (by omega)
   have h3:((2 ^ (8*r.size.toNat):Nat):Int)=2 ^ (8*r.size.toNat):=by simp
   omega
  ·exact .inl rfl
 ·exact .inl rfl
theorem limD_le (D:List RuleD) (i:Int):limD D i≤4294967295:=by
 unfold limD
 split
 ·rename_i r _
  split
  ·have h2:2 ^ (8*r.size.toNat)≤2 ^ (8*4):=Nat.pow_le_pow_right (by omega) (by omega)
   have h3:((2 ^ (8*r.size.toNat):Nat):Int)=2 ^ (8*r.size.toNat):=by simp
   omega
  ·omega
 ·omega

noncomputable def seqB (r:RuleD):Bool:=shapeB r false false true false (-1) && decide (r.kids.length=r.names.length) && namesB r.names
theorem seqB_1 {r:RuleD} (h:shapeB r false false true false (-1)=false):seqB r=false:=by simp [seqB,h]
theorem seqB_2 {r:RuleD} (h:¬r.kids.length=r.names.length):seqB r=false:=by simp [seqB,h]
theorem seqB_3 {r:RuleD} (h:namesB r.names=false):seqB r=false:=by simp [seqB,h]
theorem seqB_4 {r:RuleD} (h1:shapeB r false false true false (-1)=true) (h2:r.kids.length=r.names.length) (h3:namesB r.names=true):seqB r=true:=by simp [seqB,h1,h2,h3]
noncomputable def choB (D:List RuleD) (r:RuleD):Bool:=shapeB r false false false true (-1) && tagsB D r
theorem shapeB_cho {r:RuleD} (h:shapeB r false false false true ((r.tags.length:Int)+1)=false):shapeB r false false false true (-1)=false∨¬r.kids.length=r.tags.length+1:=by
 by_cases hk:r.kids.length=r.tags.length+1
 ·left
  unfold shapeB at *
  have e:((r.kids.length:Int)==(r.tags.length:Int)+1)=true:=by rw [beq_iff_eq];omega
  rw [e] at h
  simpa using h
 ·exact .inr hk
theorem shapeB_cho_t {r:RuleD} (h:shapeB r false false false true ((r.tags.length:Int)+1)=true):shapeB r false false false true (-1)=true∧r.kids.length=r.tags.length+1:=by
 unfold shapeB at *
 have dn:decide ((r.tags.length:Int)+1<0)=false:=by simp;omega
 rw [dn] at h
 simp only [Bool.false_or,Bool.and_eq_true,beq_iff_eq] at h
 refine ⟨?_,by omega⟩
 simp [h.1.1.1.1,h.1.1.1.2,h.1.1.2]

end Go.Proofs.YtaammoodcgfhpaaDoor
namespace Go.Proofs.YtaammoodcgfhpaaDoor
open Go.RowKit

noncomputable def kindB (D:List RuleD) (r:RuleD):Bool:=
 if r.kind=1 then shapeB r true false false false 0 && decide (1≤r.size∧r.size≤4) && (!r.little || decide (1<r.size))
 else if r.kind=2 then shapeB r false true false false 0 && decide (1≤r.bytes.length∧r.bytes.length≤16)
 else if r.kind=3 then shapeB r true false false false 0 && decide (1≤r.size∧r.size≤64)
 else if r.kind=4 then shapeB r false false false false 1 && decide (0<limD D (kid0 r))
 else if r.kind=5 then shapeB r false false false false 2 && decide (0<limD D (kid0 r))
 else if r.kind=6 then seqB r
 else if r.kind=7 then choB D r
 else if r.kind=8 then shapeB r false false false false 1
 else if r.kind=9 then shapeB r false false false false 1
 else if r.kind=10 then shapeB r false true false false 0 && decide (r.bytes.length=1) && decide (r.bytes.headD 0≠92)
 else false

theorem kind_not {D:List RuleD}{r:RuleD} (h:¬(1≤r.kind∧r.kind≤10)):kindB D r=false:=by
 unfold kindB
 repeat rw [if_neg (by omega)]

theorem shape_len {r:RuleD}{a b c d:Bool}{n:Int} (h0:0≤n) (h:shapeB r a b c d n=true):(r.kids.length:Int)=n:=by
 unfold shapeB at h
 have dn:decide (n<0)=false:=by simp;omega
 rw [dn] at h
 simp only [Bool.false_or,Bool.and_eq_true,beq_iff_eq] at h
 exact h.2

end Go.Proofs.YtaammoodcgfhpaaDoor
namespace Go.Proofs.YtaammoodcgfhpaaDoor
open Go.RowKit

noncomputable def kindL (D:List RuleD) (r:RuleD):Bool:=kindB D r && (!r.little || r.kind==1)
theorem shapeL_b {r:RuleD}{a b c d:Bool}{n:Int} (h:shapeL r a b c d n=true):shapeB r a b c d n=true:=by
 unfold shapeL at h
 simp only [Bool.and_eq_true] at h
 exact h.1
theorem bool4 (s x y l:Bool):((s && x && y) && l)=((s && l) && x && y):=by cases s<;>cases x<;>cases y<;>cases l<;>rfl
theorem bool3 (s x l:Bool):((s && x) && l)=((s && l) && x):=by cases s<;>cases x<;>cases l<;>rfl
theorem kl_1 {D:List RuleD}{r:RuleD} (hk:r.kind=1):kindL D r=(shapeL r true false false false 0 && decide (1≤r.size∧r.size≤4) && (!r.little || decide (1<r.size))):=by
 unfold kindL kindB shapeL
 rw [if_pos hk]
 exact bool4 _ _ _ _
theorem kl_2 {D:List RuleD}{r:RuleD} (hk:r.kind=2):kindL D r=(shapeL r false true false false 0 && decide (1≤r.bytes.length∧r.bytes.length≤16)):=by
 unfold kindL kindB shapeL
 rw [if_neg (by omega)];rw [if_pos hk]
 exact bool3 _ _ _
theorem kl_3 {D:List RuleD}{r:RuleD} (hk:r.kind=3):kindL D r=(shapeL r true false false false 0 && decide (1≤r.size∧r.size≤64)):=by
 unfold kindL kindB shapeL
 rw [if_neg (by omega)];rw [if_neg (by omega)];rw [if_pos hk]
 exact bool3 _ _ _
theorem kl_4 {D:List RuleD}{r:RuleD} (hk:r.kind=4):kindL D r=(shapeL r false false false false 1 && decide (0<limD D (kid0 r))):=by
 unfold kindL kindB shapeL
 rw [if_neg (by omega)];rw [if_neg (by omega)];rw [if_neg (by omega)];rw [if_pos hk]
 exact bool3 _ _ _
theorem kl_5 {D:List RuleD}{r:RuleD} (hk:r.kind=5):kindL D r=(shapeL r false false false false 2 && decide (0<limD D (kid0 r))):=by
 unfold kindL kindB shapeL
 rw [if_neg (by omega)];rw [if_neg (by omega)];rw [if_neg (by omega)];rw [if_neg (by omega)];rw [if_pos hk]
 exact bool3 _ _ _
theorem kl_7 {D:List RuleD}{r:RuleD} (hk:r.kind=7):kindL D r=(shapeL r false false false true (-1) && tagsB D r):=by
 unfold kindL kindB shapeL
 rw [if_neg (by omega)];rw [if_neg (by omega)];rw [if_neg (by omega)];rw [if_neg (by omega)];rw [if_neg (by omega)];rw [if_neg (by omega)];rw [if_pos hk]
 unfold choB;exact bool3 _ _ _
theorem kl_8 {D:List RuleD}{r:RuleD} (hk:r.kind=8):kindL D r=(shapeL r false false false false 1):=by
 unfold kindL kindB shapeL
 rw [if_neg (by omega)];rw [if_neg (by omega)];rw [if_neg (by omega)];rw [if_neg (by omega)];rw [if_neg (by omega)];rw [if_neg (by omega)];rw [if_neg (by omega)];rw [if_pos hk]
theorem kl_9 {D:List RuleD}{r:RuleD} (hk:r.kind=9):kindL D r=(shapeL r false false false false 1):=by
 unfold kindL kindB shapeL
 rw [if_neg (by omega)];rw [if_neg (by omega)];rw [if_neg (by omega)];rw [if_neg (by omega)];rw [if_neg (by omega)];rw [if_neg (by omega)];rw [if_neg (by omega)];rw [if_neg (by omega)];rw [if_pos hk]
theorem kl_10 {D:List RuleD}{r:RuleD} (hk:r.kind=10):kindL D r=(shapeL r false true false false 0 && decide (r.bytes.length=1) && decide (r.bytes.headD 0≠92)):=by
 unfold kindL kindB shapeL
 rw [if_neg (by omega)];rw [if_neg (by omega)];rw [if_neg (by omega)];rw [if_neg (by omega)];rw [if_neg (by omega)];rw [if_neg (by omega)];rw [if_neg (by omega)];rw [if_neg (by omega)];rw [if_neg (by omega)];rw [if_pos hk]
 exact bool4 _ _ _ _
theorem kl_6 {D:List RuleD}{r:RuleD} (hk:r.kind=6):kindL D r=(shapeL r false false true false r.names.length && namesB r.names):=by
 unfold kindL kindB shapeL seqB
 rw [if_neg (by omega),if_neg (by omega),if_neg (by omega),if_neg (by omega),if_neg (by omega),if_pos hk]
 have e:shapeB r false false true false r.names.length=(shapeB r false false true false (-1) && decide (r.kids.length=r.names.length)):=by
  unfold shapeB
  have dn:decide ((r.names.length:Int)<0)=false:=by simp
  have dm:decide ((-1:Int)<0)=true:=by simp
  rw [dn,dm]
  have dk:((r.kids.length:Int)==(r.names.length:Int))=decide (r.kids.length=r.names.length):=by
   by_cases h:r.kids.length=r.names.length
   ·simp [h]
   ·simp [h];omega
  rw [dk]
  simp
 rw [e]
 exact bool3 _ _ _
theorem kindL_not {D:List RuleD}{r:RuleD} (h:¬(1≤r.kind∧r.kind≤10)):kindL D r=false:=by simp [kindL,kind_not h]

end Go.Proofs.YtaammoodcgfhpaaDoor
namespace Go.Proofs.YtaammoodcgfhpaaDoor
open Go.RowKit

def ruleP (D:List RuleD) (i:Nat) (r:RuleD):Prop:=
 isName r.name=true∧(∀ j (hj:j<D.length),j<i→D[j].name≠r.name)∧(∀ j (hj:j<r.kids.length),0≤r.kids[j]∧r.kids[j]<i)∧kindL D r=true
open Classical in
noncomputable def vRule (D:List RuleD) (i:Int):Bool:=
 match ruleAt D i with
 | some r=>decide (ruleP D i.toNat r)
 | none=>false
theorem vRule_none {D:List RuleD}{i:Int} (h:ruleAt D i=none):vRule D i=false:=by simp [vRule,h]
theorem vRule_no {D:List RuleD}{n:Nat}{r:RuleD} (h:ruleAt D n=some r) (hp:¬ruleP D n r):vRule D n=false:=by simp [vRule,h,hp]
theorem vRule_yes {D:List RuleD}{n:Nat}{r:RuleD} (h:ruleAt D n=some r) (hp:ruleP D n r):vRule D n=true:=by simp [vRule,h,hp]
theorem vRule_kind {D:List RuleD}{n:Nat}{r:RuleD} (h:ruleAt D n=some r) (h1:isName r.name=true) (h2:∀ j (hj:j<D.length),j<n→D[j].name≠r.name) (h3:∀ j (hj:j<r.kids.length),0≤r.kids[j]∧r.kids[j]<n):vRule D n=kindL D r:=by
 cases hk:kindL D r
 ·exact vRule_no h fun hp=>by have:=hp.2.2.2;rw [hk] at this;exact Bool.noConfusion this
 ·exact vRule_yes h ⟨h1,h2,h3,hk⟩

def descP (D:List RuleD):Prop:=(1≤D.length∧D.length≤24)∧∀ i,i<D.length→vRule D (i:Int)=true
open Classical in
noncomputable def vDesc (D:List RuleD):Bool:=decide (descP D)
theorem vDesc_no {D:List RuleD} (h:¬descP D):vDesc D=false:=by simp [vDesc,h]
theorem vDesc_yes {D:List RuleD} (h:descP D):vDesc D=true:=by simp [vDesc,h]
theorem descP_of {D:List RuleD} (h:vDesc D=true):descP D:=by
 refine Classical.byContradiction fun hn=>?_
 rw [vDesc_no hn] at h
 exact Bool.noConfusion h

end Go.Proofs.YtaammoodcgfhpaaDoor
namespace Go.Proofs.YtaammoodcgfhpaaDoor
open Go.RowKit

def kid1 (r:RuleD):Int:=(r.kids.drop 1).headD 0
theorem kids1 {r:RuleD} (h:1<r.kids.length):r.kids[1]?=some (kid1 r):=by
 unfold kid1
 match hq:r.kids,h with
 | x::y::z,_=>rfl
def tagIx (l:List Int) (n:Int):Option Nat:=l.findIdx? fun t=>t==n
def itemK (r:RuleD) (number:Int) (item:Nat):Int:=
 if r.kind=5 then kid1 r
 else if r.kind=6 then r.kids.getD item (-1)
 else if r.kind=7 then
  match tagIx r.tags number with
  | some k=>r.kids.getD (k+1) (-1)
  | none=>-1
 else if r.kind=8∨r.kind=9 then kid0 r
 else -1

def V0:V:=.mk 0 [] []
def intAt (r:RuleD) (b:List UInt8) (p:Nat):Option Nat:=
 if (b.length:Int) - p<r.size then none else some (readInt ((b.drop p).take r.size.toNat) r.little)
def constAt (b:List UInt8) (p:Nat):Nat→List UInt8→Nat × Nat
 | i,[]=>(p+i,0)
 | i,c::cs=>if b.length≤p+i then (p,1) else if b[p+i]?=some c then constAt b p (i+1) cs else (p+i,2)
def bytesAt (b:List UInt8) (p n:Nat):V × Nat × Nat:=if b.length - p<n then (V0,p,1) else (.mk 0 ((b.drop p).take n) [],p+n,0)
def rdItems (f:Nat→Nat→V × Nat × Nat):List Nat→Nat→List V × Nat × Nat
 | [],p=>([],p,0)
 | k::ks,p=>
  match f k p with
  | (v,q,c)=>
   if c=0 then
    match rdItems f ks q with
    | (vs,q2,c2)=>if c2=0 then (v::vs,q2,0) else ([],q2,c2)
   else ([],q,c)
def mkItems (n:Int) (x:List V × Nat × Nat):V × Nat × Nat:=if x.2.2=0 then (.mk n [] x.1,x.2.1,0) else (V0,x.2.1,x.2.2)
def ruleD (D:List RuleD) (i:Int):RuleD:=(ruleAt D i).getD ⟨.empty,0,0,false,[],[],[],[]⟩

def rd (D:List RuleD) (b:List UInt8):Nat→Nat→Nat→V × Nat × Nat
 | 0,_,p=>(V0,p,8)
 | f+1,rule,p=>
  let r:=ruleD D rule
  let items (n:Int) (ks:List Nat) (q:Nat):=mkItems n (rdItems (rd D b f) ks q)
  if r.kind=1 then
   match intAt r b p with
   | some n=>(.mk n [] [],p+r.size.toNat,0)
   | none=>(V0,p,1)
  else if r.kind=2 then (V0,constAt b p 0 r.bytes)
  else if r.kind=3 then bytesAt b p r.size.toNat
  else if r.kind=10 then
   match readTerm b p (r.bytes.headD 0) with
   | some x=>(.mk 0 x.1 [],x.2,0)
   | none=>(V0,p,1)
  else if r.kind=6 then items 0 (r.kids.map Int.toNat) p
  else if r.kind=7 then
   match intAt (ruleD D (kid0 r)) b p with
   | none=>(V0,p,1)
   | some n=>
    match tagIx r.tags n with
    | none=>(V0,p,3)
    | some k=>items n [(r.kids.getD (k+1) 0).toNat] (p+(ruleD D (kid0 r)).size.toNat)
  else if r.kind=8 then
   match b[p]? with
   | none=>(V0,p,1)
   | some c=>if 1<c.toNat then (V0,p,4) else items 0 (List.replicate c.toNat (kid0 r).toNat) (p+1)
  else if r.kind=9 then
   match items 0 [(kid0 r).toNat] p with
   | (v,q,c)=>
    if c=0 then
     match b[q]? with
     | none=>(V0,q,1)
     | some s=>if s.toNat=sumB ((b.drop p).take (q - p)) then (v,q+1,0) else (V0,q,5)
    else (v,q,c)
  else
   match intAt (ruleD D (kid0 r)) b p with
   | none=>(V0,p,1)
   | some n=>
    if r.kind=4 then bytesAt b (p+(ruleD D (kid0 r)).size.toNat) n
    else if 40<n then (V0,p,6)
    else items 0 (List.replicate n (kid1 r).toNat) (p+(ruleD D (kid0 r)).size.toNat)

def InB (b:List UInt8) (p:Nat) (x:Nat × Nat):Prop:=p≤x.1∧x.1≤b.length
end Go.Proofs.YtaammoodcgfhpaaDoor
namespace Go.Proofs.YtaammoodcgfhpaaDoor
open Go.RowKit

structure Good (D:List RuleD) (n:Nat) (r:RuleD):Prop where
 kid:∀ j (hj:j<r.kids.length),0≤r.kids[j]∧r.kids[j]<n
 kd:1≤r.kind∧r.kind≤10
 k1:r.kind=1→1≤r.size∧r.size≤4
 k3:r.kind=3→1≤r.size∧r.size≤64
 k4:r.kind=4→r.kids.length=1∧0<limD D (kid0 r)
 k5:r.kind=5→r.kids.length=2∧0<limD D (kid0 r)
 k6:r.kind=6→r.kids.length≤8
 k7:r.kind=7→r.kids.length=r.tags.length+1∧0≤limD D (kid0 r)
 k8:r.kind=8→r.kids.length=1
 k9:r.kind=9→r.kids.length=1
 k10:r.kind=10→r.bytes.length=1

theorem tagsP_of {D:List RuleD}{r:RuleD} (h:tagsB D r=true):tagsP D r:=by
 refine Classical.byContradiction fun hn=>?_
 rw [tagsB_false hn] at h
 exact Bool.noConfusion h
theorem namesP_of {l:List ByteArray} (h:namesB l=true):1≤l.length∧l.length≤8:=by
 refine Classical.byContradiction fun hn=>?_
 rw [namesB_len hn] at h
 exact Bool.noConfusion h
theorem good_of {D:List RuleD} (h:descP D) {n:Nat}{r:RuleD} (hr:D[n]?=some r):Good D n r:=by
 have hn:n<D.length:=(List.getElem?_eq_some_iff.1 hr).1
 have hrn:ruleAt D n=some r:=by simp [ruleAt,hr]
 have hp:ruleP D n r:=by
  refine Classical.byContradiction fun hq=>?_
  have:=h.2 n hn
  rw [vRule_no hrn hq] at this
  exact Bool.noConfusion this
 obtain ⟨_,_,hkid,hk⟩:=hp
 refine ⟨hkid,?_,?_,?_,?_,?_,?_,?_,?_,?_,?_⟩
 ·refine Classical.byContradiction fun hq=>?_
  rw [kindL_not hq] at hk
  exact Bool.noConfusion hk
 ·intro he
  rw [kl_1 he] at hk
  simp only [Bool.and_eq_true,decide_eq_true_eq] at hk
  exact hk.1.2
 ·intro he
  rw [kl_3 he] at hk
  simp only [Bool.and_eq_true,decide_eq_true_eq] at hk
  exact hk.2
 ·intro he
  rw [kl_4 he] at hk
  simp only [Bool.and_eq_true,decide_eq_true_eq] at hk
  exact ⟨by have:=shape_len (by omega) (shapeL_b hk.1);omega,hk.2⟩
 ·intro he
  rw [kl_5 he] at hk
  simp only [Bool.and_eq_true,decide_eq_true_eq] at hk
  exact ⟨by have:=shape_len (by omega) (shapeL_b hk.1);omega,hk.2⟩
 ·intro he
  rw [kl_6 he] at hk
  simp only [Bool.and_eq_true] at hk
  have h1:=shape_len (by omega) (shapeL_b hk.1)
  have h2:=namesP_of hk.2
  omega
 ·intro he
  rw [kl_7 he] at hk
  simp only [Bool.and_eq_true] at hk
  obtain ⟨h1,h2,h3⟩:=tagsP_of hk.2
  have h4:=(h3 0 (by omega)).1
  exact ⟨h1,by omega⟩
 ·intro he
  rw [kl_8 he] at hk
  have:=shape_len (by omega) (shapeL_b hk);omega
 ·intro he
  rw [kl_9 he] at hk
  have:=shape_len (by omega) (shapeL_b hk);omega
 ·intro he
  rw [kl_10 he] at hk
  simp only [Bool.and_eq_true,decide_eq_true_eq] at hk
  exact hk.1.2

end Go.Proofs.YtaammoodcgfhpaaDoor
namespace Go.Proofs.YtaammoodcgfhpaaDoor
open Go.RowKit

section
variable {D:List RuleD}{b:List UInt8}{f n p:Nat}{r:RuleD}
end

theorem ruleD_get {D:List RuleD}{n:Nat}{r:RuleD} (h:D[n]?=some r):ruleD D n=r:=by
 unfold ruleD ruleAt
 simp [h]
end Go.Proofs.YtaammoodcgfhpaaDoor
namespace Go.Proofs.YtaammoodcgfhpaaDoor
open Go.RowKit

def joinItems (vs:List V) (x:List V × Nat × Nat):List V × Nat × Nat:=if x.2.2=0 then (vs++x.1,x.2.1,0) else ([],x.2.1,x.2.2)
end Go.Proofs.YtaammoodcgfhpaaDoor
namespace Go.Proofs.YtaammoodcgfhpaaDoor
open Go.RowKit

structure RBox (w:World) (b:Nat) (r:R):Prop where
 c0:w.cell? ⟨b,0,none⟩=some (.string r.name)
 c1:w.cell? ⟨b,1,none⟩=some (.int .i64 r.kind)
 c2:w.cell? ⟨b,2,none⟩=some (.int .i64 r.size)
 c3:w.cell? ⟨b,3,none⟩=some (.bool r.little)
 c4:w.cell? ⟨b,4,none⟩=some (.slice r.ba r.bytes.length r.bc)
 c5:w.cell? ⟨b,5,none⟩=some (.slice r.na r.names.length r.nc)
 c6:w.cell? ⟨b,6,none⟩=some (.slice r.ta r.tags.length r.tc)
 c7:w.cell? ⟨b,7,none⟩=some (.slice r.ka r.kids.length r.kc)

theorem RBox.lt {w:World}{b:Nat}{r:R} (h:RBox w b r):b<w.heap.size:=World.block_lt_of_cell? w ⟨b,0,none⟩ h.c0
theorem RBox.map {w w':World}{b:Nat}{r:R} (h:RBox w b r) (k:∀ o,w'.cell? ⟨b,o,none⟩=w.cell? ⟨b,o,none⟩):RBox w' b r:=
 ⟨(k 0).trans h.c0,(k 1).trans h.c1,(k 2).trans h.c2,(k 3).trans h.c3,(k 4).trans h.c4,(k 5).trans h.c5,(k 6).trans h.c6,(k 7).trans h.c7⟩
theorem RBox.call {w w':World}{b:Nat}{r:R} (h:RBox w b r) (hb:Below w.heap.size w w'):RBox w' b r:=h.map fun o=>hb.cell (p:=⟨b,o,none⟩) h.lt
theorem RBox.ext {w:World}{b:Nat}{r:R} (h:RBox w b r) (n:Ext w):RBox n.W b r:=h.call n.h
theorem RBox.alloc {w:World}{b:Nat}{r:R} (h:RBox w b r) (o:Obj):RBox (w.alloc o) b r:=h.call ((Below.refl _ _).alloc (Nat.le_refl _) o)
theorem RBox.new (w:World) (r:R) (t:TypeId):RBox (w.alloc (.cells #[.string r.name,.int .i64 r.kind,.int .i64 r.size,.bool r.little,.slice r.ba r.bytes.length r.bc,.slice r.na r.names.length r.nc,.slice r.ta r.tags.length r.tc,.slice r.ka r.kids.length r.kc] t)) w.heap.size r:=
 ⟨by simp [go_sem],by simp [go_sem],by simp [go_sem],by simp [go_sem],by simp [go_sem],by simp [go_sem],by simp [go_sem],by simp [go_sem]⟩
theorem cell_call {w w':World}{p:Addr}{v:Value} (h:w.cell? p=some v) (hb:Below w.heap.size w w'):w'.cell? p=some v:=(hb.cell (World.block_lt_of_cell? w p h)).trans h
theorem cell_alloc {w:World}{p:Addr}{v:Value} (h:w.cell? p=some v) (o:Obj):(w.alloc o).cell? p=some v:=cell_call h ((Below.refl _ _).alloc (Nat.le_refl _) o)

theorem Ds.cellsAt {w0 w:World}{lo M:Nat}{b o cap:Nat}{rs:List R} (h:Ds w0 lo M (some ⟨b,o,none⟩) cap rs) (hs:Since lo w0 w) (i:Nat) (r:R) (hr:rs[i]?=some r) :
  b<w.heap.size∧(∀ k,b<w.heap.size+k)∧w.cell? ⟨b,o+i*8,none⟩=some (.string r.name)∧
   w.cell? ⟨b,o+i*8+1,none⟩=some (.int .i64 r.kind)∧w.cell? ⟨b,o+i*8+2,none⟩=some (.int .i64 r.size)∧w.cell? ⟨b,o+i*8+3,none⟩=some (.bool r.little)∧
   w.cell? ⟨b,o+i*8+4,none⟩=some (.slice r.ba r.bytes.length r.bc)∧w.cell? ⟨b,o+i*8+5,none⟩=some (.slice r.na r.names.length r.nc)∧
   w.cell? ⟨b,o+i*8+6,none⟩=some (.slice r.ta r.tags.length r.tc)∧w.cell? ⟨b,o+i*8+7,none⟩=some (.slice r.ka r.kids.length r.kc):=by
 obtain ⟨b',o',ha,_,h1,h2,h3⟩:=h.at hs i r hr
 simp only [Option.some.injEq,Addr.mk.injEq,and_true] at ha
 obtain ⟨rfl,rfl⟩:=ha
 exact ⟨h1,h2,h3⟩

theorem Row.i64At {w0 w:World}{lo:Nat} (hs:Since lo w0 w) {a:Option Addr}{l:List Int} (h:Row w0 lo a (l.map i64v)) (j:Nat) (hj:j<l.length) :
  ∃ b o,a=some ⟨b,o,none⟩∧b<w.heap.size∧(∀ k,b<w.heap.size+k)∧w.cell? ⟨b,o+j,none⟩=some (.int .i64 l[j]):=by
 obtain ⟨b,o,ha,_,h1,h2,hc⟩:=h.pos hs (by simp;omega)
 exact ⟨b,o,ha,h1,h2,hc j _ (map_at _ hj)⟩

end Go.Proofs.YtaammoodcgfhpaaDoor
