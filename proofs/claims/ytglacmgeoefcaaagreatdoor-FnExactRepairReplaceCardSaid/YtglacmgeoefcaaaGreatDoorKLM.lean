/-
  What laws of mutations share.
-/
import Derived.Test.YtglacmgeoefcaaaGreatDoorKTy
import Derived.Test.YtglacmgeoefcaaaGreatDoorKN0
import Derived.Test.YtglacmgeoefcaaaGreatDoorKNR1
set_option linter.unusedSimpArgs false
set_option linter.unusedVariables false
set_option linter.defProp false
set_option maxRecDepth 100000
set_option maxHeartbeats 4000000
namespace Go.Proofs.YtglacmgeoefcaaaGreatDoor.Eng
open Go Go.RowKit
private def tyF := And.intro (And.intro (And.intro tf51_0 (And.intro tf51_1 tf51_2)) (And.intro tk3 (And.intro tk51 tp51))) (And.intro (And.intro tq51 (And.intro tr3 tr51)) (And.intro tu3 (And.intro tz3 tz51)))
theorem eqMut_c (k i c : Int) : AC Tryz.prog 34 [.d (mutE k i c), .d (mutE k i c)] none (fun r' _ => r' = .d (bD true)) := by
  refine calls_body Tryz.func34 rfl Tryz.call34 Tryz.ntmps34 (by simp) (by simp [ArgsOk]) (by simp [Rz.nkL, Rz.nk]) fun en hsz hks hk0 => ?_; refine enS ?_
  refine walkS ?_
  refine aw_condS rfl (fun h1 => ?_) (fun h1 => ?_)
  · (first | exact absurd trivial h1 | exact absurd rfl h1 | (cases h1; done) | omega | exact absurd h1 (by decide) | (simp at h1; done))
  refine walkS ?_
  refine aw_condS rfl (fun h2 => ?_) (fun h2 => ?_)
  · (first | exact absurd trivial h2 | exact absurd rfl h2 | (cases h2; done) | omega | exact absurd h2 (by decide) | (simp at h2; done))
  refine walkS ?_
  refine aw_condS rfl (fun h3 => ?_) (fun h3 => ?_)
  · (first | exact absurd trivial h3 | exact absurd rfl h3 | (cases h3; done) | omega | exact absurd h3 (by decide) | (simp at h3; done))
  refine walkS ?_
  (refine aw_ret ?_; (simp only [Fin, Tryz.results34]; refine finS ?_); exact ⟨_, _, .inl ⟨rfl, rfl⟩, List.nodup_nil, rfl⟩)
theorem repN_sem (x : List UInt8 × Mut × Bool) (n : Nat) (C : CellR) (u : Value) (k : RepD C (repN x n) u) : RepD C (.tup [encB x.1, mutE x.2.1.1 x.2.1.2.1 x.2.1.2.2, bD x.2.2]) u := by
  unfold RepD at k ⊢
  obtain ⟨us, h1, h2⟩ := k
  refine ⟨us, h1, ?_⟩
  unfold RepL at h2 ⊢
  obtain ⟨u, us', e, h3, h4⟩ := h2
  exact ⟨u, us', e, RepD.mono (fun _ _ _ h => h.1) _ _ (repD_iv.1 h3), h4⟩
end Go.Proofs.YtglacmgeoefcaaaGreatDoor.Eng
