/-
  The engine, part 26: where ways meet again.
-/
import Derived.Test.YtmpokibohbhoeaaKE3
set_option linter.unusedSimpArgs false
set_option linter.unusedVariables false
namespace Go.Proofs.Ytmpokibohbhoeaa.Eng
open Go Go.RowKit
section
variable {P : Program} {en : En} {K : Exit → St → Prop} {s : St}
theorem aw_mono {c : Code} {K' : Exit → St → Prop} (h : AWs P en c K s) (k : ∀ e s', K e s' → K' e s') : AWs P en c K' s := fun a w hs => wp_mono (h a w hs) fun e a' w' ⟨s', h1, h2⟩ => ⟨s', h1, k e s' h2⟩
/-- Whatever way x goes, y begins in a state that z tells. -/
theorem aw_joinS {σ : Type} (kp : List Nat) (rn : Nat → St → List (Nat × Option Nat)) (fv : Nat → σ → List (Nat × A)) (kb : List Nat) (bv : Nat → σ → List (Nat × Option (List A))) (ka : List Nat) (av : Nat → σ → List (Nat × Option (Nat × TypeId × Nat))) (I : σ → Prop) {x y : Code} (hk : ∀ k, en.ks k → k = 0)
    (hrn : ∀ s', sg (rn s.nx s') 0 = some 0)
    (hy : ∀ z, I z → AWs P en y K (s.head kp (fv s.nx z) kb (bv s.nx z) ka (av s.nx z)))
    (hx : AWs P en x (fun e s' => match e with | .normal => ∃ z, I z ∧ s'.wk (sg (rn s.nx s')) (s.head kp (fv s.nx z) kb (bv s.nx z) ka (av s.nx z)) | e => K e s') s) : AWs P en (.seq x y) K s := by
  refine aw_seq (aw_mono hx fun e s' h => ?_)
  cases e with
  | normal =>
    obtain ⟨z, hz, hwk⟩ := h
    exact fun a w hs => hy z hz a w (simS_wk (fun k hk' => by have := hk k hk'; subst this; exact ⟨by simp [St.head], hrn s'⟩) hwk hs)
  | _ => exact h
theorem aw_seqR {id : Nat} {ops : Array Oper} {b : Bool} {y : Code} (h : AWs P en (.region id ops b) (fun e s' => match e with | .normal => AWs P en y K s' | e => K e s') s) : AWs P en (.seq (.region id ops b) y) K s := aw_seq h
end
/-- A walk that stops where ways part. -/
theorem walkJS {p q : Prop} (k : q) (h : Rest q → p := by intro h; (first | refine aw_seqR ?_ | refine aw_region ?_ | refine aw_block ?_ | (refine aw_exit ?_; (try simp (decide := true) only [reduceIte])) | (refine aw_skip ?_; try dsimp only) | (refine aw_any (by kernel_rfl) (by kernel_rfl) (by simp only [hsz]; kernel_rfl) ?_) | (refine ow_nil ?_; try dsimp only) | (refine ol_go ?_ (fun K1 hK1 => ?_); (first | exact trivial | exact rfl); refine evS ?_; refine hK1 _ _ ?_; clear hK1 K1) | (refine ol_skip rfl rfl ?_ ?_; (focus (intro hne; cases hne; done)); simp only [St.set]) | (refine ol_nil ⟨by kernel_rfl, ?_⟩; try dsimp only) | (refine ow_go ?_ (fun x hx => by cases hx <;> (rw [hsz]; decide)) (fun K1 hK1 => ?_); (first | exact trivial | exact rfl); refine evS ?_; refine hK1 _ ?_; clear hK1 K1) | (refine ow_skip rfl rfl ?_ (fun x hx => by cases hx <;> (rw [hsz]; decide)) ?_; (focus (intro hne; cases hne; done)); simp only [St.set])); (repeat (first | refine aw_seqR ?_ | refine aw_region ?_ | refine aw_block ?_ | (refine aw_exit ?_; (try simp (decide := true) only [reduceIte])) | (refine aw_skip ?_; try dsimp only) | (refine aw_any (by kernel_rfl) (by kernel_rfl) (by simp only [hsz]; kernel_rfl) ?_) | (refine ow_nil ?_; try dsimp only) | (refine ol_go ?_ (fun K1 hK1 => ?_); (first | exact trivial | exact rfl); refine evS ?_; refine hK1 _ _ ?_; clear hK1 K1) | (refine ol_skip rfl rfl ?_ ?_; (focus (intro hne; cases hne; done)); simp only [St.set]) | (refine ol_nil ⟨by kernel_rfl, ?_⟩; try dsimp only) | (refine ow_go ?_ (fun x hx => by cases hx <;> (rw [hsz]; decide)) (fun K1 hK1 => ?_); (first | exact trivial | exact rfl); refine evS ?_; refine hK1 _ ?_; clear hK1 K1) | (refine ow_skip rfl rfl ?_ (fun x hx => by cases hx <;> (rw [hsz]; decide)) ?_; (focus (intro hne; cases hne; done)); simp only [St.set]))); exact h.out) : p := h ⟨k⟩
theorem wrapr (x y : Int) : IntKind.i64.wrap (x + IntKind.i64.wrap y) = IntKind.i64.wrap (x + y) := by
  simp only [IntKind.wrap_i64]; omega
end Go.Proofs.Ytmpokibohbhoeaa.Eng
