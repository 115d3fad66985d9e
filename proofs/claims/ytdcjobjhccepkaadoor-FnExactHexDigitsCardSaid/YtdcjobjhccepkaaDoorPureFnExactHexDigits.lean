/-
  FnExactHexDigits answers true at every text: both functions come to the same. No condition.
-/
import Derived.Test.YtdcjobjhccepkaaDoorP0
import Derived.Test.YtdcjobjhccepkaaDoorPlawsFnExactHexDigits
import Derived.Test.YtdcjobjhccepkaaDoorQnum
namespace Go.Proofs.YtdcjobjhccepkaaDoor.Pure
set_option linter.unusedVariables false
set_option linter.unusedSimpArgs false
open Go.RowKit Go.Proofs.YtdcjobjhccepkaaDoor.P Go.Proofs.YtdcjobjhccepkaaDoor.Q Go.Proofs.YtdcjobjhccepkaaDoorW.PrintWords
theorem FnExactHexDigits : laws_FnExactHexDigits.Pure := by
  intro a ha
  obtain ⟨k, hk⟩ := (spec_HexDigits_ev a).rounds
  refine ⟨k, ?_⟩
  unfold laws_FnExactHexDigits.f
  rw [hk, impl_HexDigits_is a]
  split <;> simp
end Go.Proofs.YtdcjobjhccepkaaDoor.Pure
