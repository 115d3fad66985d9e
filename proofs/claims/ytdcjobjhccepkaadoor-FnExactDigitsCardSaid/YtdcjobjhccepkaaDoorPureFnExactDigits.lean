/-
  FnExactDigits answers true at every text: both functions come to the same. No condition.
-/
import Derived.Test.YtdcjobjhccepkaaDoorP0
import Derived.Test.YtdcjobjhccepkaaDoorPlawsFnExactDigits
import Derived.Test.YtdcjobjhccepkaaDoorQnum
namespace Go.Proofs.YtdcjobjhccepkaaDoor.Pure
set_option linter.unusedVariables false
set_option linter.unusedSimpArgs false
open Go.RowKit Go.Proofs.YtdcjobjhccepkaaDoor.P Go.Proofs.YtdcjobjhccepkaaDoor.Q Go.Proofs.YtdcjobjhccepkaaDoorW.PrintWords
theorem FnExactDigits : laws_FnExactDigits.Pure := by
  intro a ha
  obtain ⟨k, hk⟩ := (spec_Digits_ev a).rounds
  refine ⟨k, ?_⟩
  unfold laws_FnExactDigits.f
  rw [hk, impl_Digits_is a]
  split <;> simp
end Go.Proofs.YtdcjobjhccepkaaDoor.Pure
