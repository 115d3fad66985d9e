/-
  FnExactDateOk answers true at every date: both functions come to the same. No condition.
-/
import Derived.Test.YtfckiehbpgbpcaaP0
import Derived.Test.YtfckiehbpgbpcaaPlawsFnExactDateOk
import Derived.Test.YtfckiehbpgbpcaaPlawstoDate
import Derived.Test.YtfckiehbpgbpcaaQdate
namespace Go.Proofs.Ytfckiehbpgbpcaa.Pure
set_option linter.unusedVariables false
set_option linter.unusedSimpArgs false
open Go.RowKit Go.Proofs.Ytfckiehbpgbpcaa.P Go.Proofs.Ytfckiehbpgbpcaa.Q Go.Proofs.YtfckiehbpgbpcaaW.PrintWords
theorem FnExactDateOk : laws_FnExactDateOk.Pure := by
  intro y m d h n s _ _ _ _ _ _
  refine ⟨1, ?_⟩
  unfold laws_FnExactDateOk.f laws_toDate.f
  simp only [Option.bind_some, spec_DateOk_is, impl_DateOk_is _ _ _ _ _ _ 1 (Nat.le_refl _)]
  simp
end Go.Proofs.Ytfckiehbpgbpcaa.Pure
