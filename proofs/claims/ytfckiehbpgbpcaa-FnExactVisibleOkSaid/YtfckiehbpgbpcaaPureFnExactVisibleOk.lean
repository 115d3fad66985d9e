/-
  FnExactVisibleOk answers true at every text: both functions come to the same. No condition.
-/
import Derived.Test.YtfckiehbpgbpcaaP0
import Derived.Test.YtfckiehbpgbpcaaPlawsFnExactVisibleOk
import Derived.Test.YtfckiehbpgbpcaaQvis
namespace Go.Proofs.Ytfckiehbpgbpcaa.Pure
open Go.RowKit Go.Proofs.Ytfckiehbpgbpcaa.P Go.Proofs.Ytfckiehbpgbpcaa.Q Go.Proofs.YtfckiehbpgbpcaaW.PrintWords
theorem FnExactVisibleOk : laws_FnExactVisibleOk.Pure := by
  intro a ha
  obtain ⟨k, hk⟩ := (spec_VisibleOk_ev a (by omega)).rounds
  refine ⟨k, ?_⟩
  unfold laws_FnExactVisibleOk.f
  rw [hk, impl_VisibleOk_is a (by omega)]
  split <;> simp
end Go.Proofs.Ytfckiehbpgbpcaa.Pure
