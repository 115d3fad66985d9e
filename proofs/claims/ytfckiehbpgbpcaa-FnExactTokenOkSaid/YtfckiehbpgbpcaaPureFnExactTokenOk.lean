/-
  FnExactTokenOk answers true at every text: both functions come to the same. No condition.
-/
import Derived.Test.YtfckiehbpgbpcaaP0
import Derived.Test.YtfckiehbpgbpcaaPlawsFnExactTokenOk
import Derived.Test.YtfckiehbpgbpcaaQtok
namespace Go.Proofs.Ytfckiehbpgbpcaa.Pure
open Go.RowKit Go.Proofs.Ytfckiehbpgbpcaa.P Go.Proofs.Ytfckiehbpgbpcaa.Q Go.Proofs.YtfckiehbpgbpcaaW.PrintWords
theorem FnExactTokenOk : laws_FnExactTokenOk.Pure := by
  intro a ha
  obtain ⟨k, hk⟩ := (spec_TokenOk_ev a (by omega)).rounds
  refine ⟨k, ?_⟩
  unfold laws_FnExactTokenOk.f
  rw [hk, impl_TokenOk_is a (by omega)]
  split <;> simp
end Go.Proofs.Ytfckiehbpgbpcaa.Pure
