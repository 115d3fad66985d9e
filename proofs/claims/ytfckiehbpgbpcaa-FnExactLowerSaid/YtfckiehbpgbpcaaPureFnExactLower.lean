/-
  FnExactLower answers true at every text: both functions make the same small letters. No condition.
-/
import Derived.Test.YtfckiehbpgbpcaaP0
import Derived.Test.YtfckiehbpgbpcaaGimplLower
import Derived.Test.YtfckiehbpgbpcaaGspecLower
import Derived.Test.YtfckiehbpgbpcaaPlawsFnExactLower
namespace Go.Proofs.Ytfckiehbpgbpcaa.Pure
open Go.RowKit Go.Proofs.Ytfckiehbpgbpcaa.P Go.Proofs.YtfckiehbpgbpcaaW.PrintWords Go.Proofs.YtfckiehbpgbpcaaW.PrintLast
theorem FnExactLower : laws_FnExactLower.Pure := by
  intro a ha
  unfold laws_FnExactLower.f spec_Lower.f impl_Lower.f
  split
  · rfl
  · rw [if_pos (by omega)]
    simp
end Go.Proofs.Ytfckiehbpgbpcaa.Pure
