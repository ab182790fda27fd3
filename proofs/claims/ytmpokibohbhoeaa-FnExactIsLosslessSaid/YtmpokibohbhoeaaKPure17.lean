/-
  Plain functions: default values, migrating a value from one rule to another.
-/
import Derived.Test.YtmpokibohbhoeaaKP2
import Derived.Test.YtmpokibohbhoeaaKN38
set_option linter.unusedSimpArgs false
set_option linter.unusedVariables false
set_option linter.defProp false
set_option maxRecDepth 100000
set_option maxHeartbeats 4000000
namespace Go.Proofs.Ytmpokibohbhoeaa
open Go.RowKit

def dflt (D : List RuleD) : Nat → Int → V
  | 0, _ => V0
  | f + 1, i =>
    let r := ruleD D i
    if r.kind = 3 then .mk 0 (List.replicate r.size.toNat 0) []
    else if r.kind = 6 ∨ r.kind = 9 then .mk 0 [] (r.kids.map (dflt D f))
    else if r.kind = 7 then .mk (r.tags.headD 0) [] [dflt D f (kid1 r)]
    else V0
section
variable {D : List RuleD} {r : RuleD} {i : Int} {f : Nat}
theorem dflt_3 (h : ruleD D i = r) (k : r.kind = 3) : dflt D (f + 1) i = .mk 0 (List.replicate r.size.toNat 0) [] := by rw [dflt]; simp only [h]; rw [if_pos k]
theorem dflt_69 (h : ruleD D i = r) (k : r.kind = 6 ∨ r.kind = 9) : dflt D (f + 1) i = .mk 0 [] (r.kids.map (dflt D f)) := by rw [dflt]; simp only [h]; rw [if_neg (by omega), if_pos k]
theorem dflt_7 (h : ruleD D i = r) (k : r.kind = 7) : dflt D (f + 1) i = .mk (r.tags.headD 0) [] [dflt D f (kid1 r)] := by rw [dflt]; simp only [h]; rw [if_neg (by omega), if_neg (by omega), if_pos k]
theorem dflt_o (h : ruleD D i = r) (k : r.kind ≠ 3 ∧ r.kind ≠ 6 ∧ r.kind ≠ 7 ∧ r.kind ≠ 9) : dflt D (f + 1) i = V0 := by rw [dflt]; simp only [h]; rw [if_neg (by omega), if_neg (by omega), if_neg (by omega)]
end
theorem VBs_map {α : Type} {M : Nat} {g : α → V} {l : List α} (h : ∀ x ∈ l, VB M (g x)) : VBs M (l.map g) := VBs.mk fun v hv => by
  obtain ⟨x, hx, rfl⟩ := List.mem_map.1 hv
  exact h x hx
theorem VB_V0 {M : Nat} : VB M V0 := by unfold V0 VB; exact ⟨Nat.zero_le _, Nat.zero_le _, by unfold VBs; trivial⟩
theorem dflt_VB {D : List RuleD} (hV : descP D) : ∀ (f : Nat) (i : Nat), i < D.length → VB 1048576 (dflt D f i)
  | 0, i, _ => VB_V0
  | f + 1, i, hi => by
    obtain ⟨r, hr⟩ : ∃ r, D[i]? = some r := ⟨_, List.getElem?_eq_getElem hi⟩
    have G := good_of hV hr
    have hrD := ruleD_get hr
    have HK : ∀ k ∈ r.kids, VB 1048576 (dflt D f k) := fun k hk => by
      obtain ⟨j, hj, rfl⟩ := List.getElem_of_mem hk
      have := G.kid j hj
      have h := dflt_VB hV f (r.kids[j]).toNat (by omega)
      rwa [Int.toNat_of_nonneg (by omega)] at h
    by_cases k3 : r.kind = 3
    · rw [dflt_3 hrD k3]
      unfold VB
      have := G.k3 k3
      exact ⟨by rw [List.length_replicate]; omega, Nat.zero_le _, by unfold VBs; trivial⟩
    by_cases k69 : r.kind = 6 ∨ r.kind = 9
    · rw [dflt_69 hrD k69]
      unfold VB
      refine ⟨Nat.zero_le _, ?_, VBs_map HK⟩
      rw [List.length_map]
      rcases k69 with k | k
      · have := G.k6 k; omega
      · have := G.k9 k; omega
    by_cases k7 : r.kind = 7
    · rw [dflt_7 hrD k7]
      unfold VB
      refine ⟨Nat.zero_le _, by simp, ?_⟩
      unfold VBs
      refine ⟨?_, by unfold VBs; trivial⟩
      by_cases hl : 1 < r.kids.length
      · have h1 := kids1 hl
        exact HK _ (List.mem_of_getElem? h1)
      · have := G.k7 k7
        have hk1 : kid1 r = 0 := by unfold kid1; rw [List.drop_eq_nil_of_le (by omega)]; rfl
        rw [hk1]
        exact dflt_VB hV f 0 (by omega)
    · rw [dflt_o hrD (by omega)]
      exact VB_V0

theorem tags_ge {D : List RuleD} (h : descP D) {n : Nat} {r : RuleD} (hr : D[n]? = some r) (h7 : r.kind = 7) : 1 ≤ r.tags.length := by
  have hn : n < D.length := (List.getElem?_eq_some_iff.1 hr).1
  have hrn : ruleAt D n = some r := by simp [ruleAt, hr]
  have hp : ruleP D n r := by
    refine Classical.byContradiction fun hq => ?_
    have := h.2 n hn
    rw [vRule_no hrn hq] at this
    exact Bool.noConfusion this
  obtain ⟨_, _, _, hk⟩ := hp
  rw [kl_7 h7] at hk
  simp only [Bool.and_eq_true] at hk
  exact (tagsP_of hk.2).2.1.1

/-! ### Migrating -/
def allM (g : Nat → V × Bool) : Nat → Nat → List V × Bool
  | 0, _ => ([], true)
  | c + 1, i => if (g i).2 = true then ((g i).1 :: (allM g c (i + 1)).1, (allM g c (i + 1)).2) else ([], false)
def joinM (out : List V) (z : List V × Bool) : List V × Bool := (out ++ z.1, z.2)
theorem joinM_ok {g : Nat → V × Bool} {out : List V} {c i : Nat} (h : (g i).2 = true) : joinM out (allM g (c + 1) i) = joinM (out ++ [(g i).1]) (allM g c (i + 1)) := by
  rw [allM, if_pos h]; simp [joinM]
theorem joinM_bad {g : Nat → V × Bool} {out : List V} {c i : Nat} (h : (g i).2 = false) : joinM out (allM g (c + 1) i) = (out, false) := by
  rw [allM, if_neg (by rw [h]; simp)]; simp [joinM]
theorem joinM_0 {g : Nat → V × Bool} {out : List V} {i : Nat} : joinM out (allM g 0 i) = (out, true) := by simp [joinM, allM]
theorem joinM_nil (z : List V × Bool) : joinM [] z = z := by simp [joinM]
theorem allM_len {g : Nat → V × Bool} : ∀ (c i : Nat), (allM g c i).1.length ≤ c ∧ ((allM g c i).2 = true → (allM g c i).1.length = c)
  | 0, i => ⟨Nat.le_refl _, fun _ => rfl⟩
  | c + 1, i => by
    have := allM_len (g := g) c (i + 1)
    rw [allM]
    split
    · simp only [List.length_cons]
      exact ⟨by omega, fun h => by have := this.2 h; omega⟩
    · exact ⟨Nat.zero_le _, fun h => by cases h⟩
theorem allM_VB {M : Nat} {g : Nat → V × Bool} : ∀ (c i : Nat), (∀ j, i ≤ j → j < i + c → VB M (g j).1) → VBs M (allM g c i).1
  | 0, i, _ => by unfold allM VBs; trivial
  | c + 1, i, h => by
    rw [allM]
    split
    · unfold VBs
      exact ⟨h i (Nat.le_refl _) (by omega), allM_VB c (i + 1) fun j h1 h2 => h j (by omega) (by omega)⟩
    · unfold VBs; trivial
theorem allM_congr {g g' : Nat → V × Bool} : ∀ (c i : Nat), (∀ j, i ≤ j → j < i + c → g j = g' j) → allM g c i = allM g' c i
  | 0, i, _ => rfl
  | c + 1, i, h => by
    rw [allM, allM, h i (Nat.le_refl _) (by omega), allM_congr c (i + 1) fun j h1 h2 => h j (by omega) (by omega)]

def nameIx (l : List ByteArray) (s : ByteArray) : Option Nat := l.findIdx? fun t => decide (t = s)
def fixB (bs : List UInt8) (n : Nat) : List UInt8 := bs.take n ++ List.replicate (n - bs.length) 0
theorem fixB_len (bs : List UInt8) (n : Nat) : (fixB bs n).length = n := by
  unfold fixB
  rw [List.length_append, List.length_take, List.length_replicate]
  omega
def mfin (B : List RuleD) (b : Int) (z : V × Bool) : V × Bool := if z.2 = true ∧ validV B b z.1 = true then (z.1, true) else (V0, false)
def partM (f : Int → Int → V → V × Bool) (B : List RuleD) (x y : RuleD) (vs : List V) (i : Nat) : V × Bool :=
  match nameIx x.names (y.names.getD i .empty) with
  | none => (dflt B B.length (y.kids.getD i 0), true)
  | some k => f (x.kids.getD k 0) (y.kids.getD i 0) (vs.getD k V0)
def alikeM (f : Int → Int → V → V × Bool) (B : List RuleD) (x y : RuleD) (n : Int) (bs : List UInt8) (vs : List V) : V × Bool :=
  if x.kind = 6 then let l := allM (partM f B x y vs) y.names.length 0; if l.2 = true then (.mk 0 [] l.1, true) else (V0, false)
  else if x.kind = 3 then (.mk 0 (fixB bs y.size.toNat) [], true)
  else if x.kind = 5 then let l := allM (fun i => f (kid1 x) (kid1 y) (vs.getD i V0)) vs.length 0; (.mk 0 [] l.1, l.2)
  else if x.kind = 8 ∨ x.kind = 9 then let l := allM (fun i => f (kid0 x) (kid0 y) (vs.getD i V0)) vs.length 0; (.mk 0 [] l.1, l.2)
  else if x.kind = 7 then
    if itemK y n 0 < 0 then (V0, false)
    else let l := allM (fun i => f (itemK x n 0) (itemK y n 0) (vs.getD i V0)) vs.length 0; (.mk n [] l.1, l.2)
  else (.mk n bs [], true)
def isTx (k : Int) : Bool := decide (k = 4) || decide (k = 10)
def preM (f : Int → Int → V → V × Bool) (A B : List RuleD) (a b : Int) (n : Int) (bs : List UInt8) (vs : List V) : V × Bool :=
  if (ruleD A a).kind = (ruleD B b).kind then alikeM f B (ruleD A a) (ruleD B b) n bs vs
  else if (isTx (ruleD A a).kind && isTx (ruleD B b).kind) = true then (.mk 0 bs [], true)
  else if (ruleD B b).kind = 8 then (.mk 0 [] [(f a (kid0 (ruleD B b)) (.mk n bs vs)).1], (f a (kid0 (ruleD B b)) (.mk n bs vs)).2)
  else if (ruleD A a).kind = 8 ∧ vs.length = 1 then f (kid0 (ruleD A a)) b (vs.getD 0 V0)
  else (V0, false)
def mig (A B : List RuleD) : Nat → Int → Int → V → V × Bool
  | 0, _, _, _ => (V0, false)
  | f + 1, a, b, .mk n bs vs => mfin B b (preM (mig A B f) A B a b n bs vs)
theorem mfin_t {B : List RuleD} {b : Int} {z : V × Bool} (h : z.2 = true) (k : validV B b z.1 = true) : mfin B b z = (z.1, true) := if_pos ⟨h, k⟩
theorem mfin_f {B : List RuleD} {b : Int} {z : V × Bool} (h : z.2 = false) : mfin B b z = (V0, false) := if_neg fun k => by rw [h] at k; cases k.1
theorem mfin_v {B : List RuleD} {b : Int} {z : V × Bool} (k : validV B b z.1 = false) : mfin B b z = (V0, false) := if_neg fun h => by rw [k] at h; cases h.2
theorem mfin_ok {B : List RuleD} {b : Int} {z : V × Bool} (h : (mfin B b z).2 = true) : validV B b (mfin B b z).1 = true := by
  unfold mfin at h ⊢
  split
  · rename_i k; exact k.2
  · rename_i k; rw [if_neg k] at h; cases h
theorem mfin_no {B : List RuleD} {b : Int} {z : V × Bool} (h : (mfin B b z).2 = false) : mfin B b z = (V0, false) := by
  unfold mfin at h ⊢
  split
  · rename_i k; rw [if_pos k] at h; cases h
  · rfl
theorem mfin_mig {A B : List RuleD} {f : Nat} {a b : Int} {v : V} : mfin B b (mig A B f a b v) = mig A B f a b v := by
  cases f with
  | zero => rw [mig]; exact mfin_f rfl
  | succ f =>
    obtain ⟨n, bs, vs⟩ := v
    rw [mig]
    generalize preM (mig A B f) A B a b n bs vs = z
    cases h : (mfin B b z).2 with
    | true => rw [mfin_t h (mfin_ok h), ← h]
    | false => rw [mfin_f h, mfin_no h]
end Go.Proofs.Ytmpokibohbhoeaa
