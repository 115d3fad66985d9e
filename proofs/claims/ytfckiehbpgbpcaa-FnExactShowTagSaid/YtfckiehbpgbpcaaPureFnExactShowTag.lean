/-
  FnExactShowTag answers true at every tag: both functions write the same. No condition.
-/
import Derived.Test.YtfckiehbpgbpcaaP0
import Derived.Test.YtfckiehbpgbpcaaPlawsFnExactShowTag
import Derived.Test.YtfckiehbpgbpcaaPlawstoTag
import Derived.Test.YtfckiehbpgbpcaaQtag
namespace Go.Proofs.Ytfckiehbpgbpcaa.Pure
set_option linter.unusedVariables false
set_option linter.unusedSimpArgs false
open Go.RowKit Go.Proofs.Ytfckiehbpgbpcaa.P Go.Proofs.Ytfckiehbpgbpcaa.Q Go.Proofs.YtfckiehbpgbpcaaW.PrintWords
theorem FnExactShowTag : laws_FnExactShowTag.Pure := by
  intro w s hs
  obtain ⟨r, hr, h0, _⟩ := szTag_is w s 1048576 hs (by omega) (by omega)
  unfold laws_FnExactShowTag.f laws_toTag.f
  by_cases hn : r < 0
  · exact ⟨0, by rw [hr]; simp [hn]⟩
  · have z1 := h0 (by omega)
    obtain ⟨k, hk⟩ := (spec_ShowTag_ev w s (by omega)).rounds
    refine ⟨k, ?_⟩
    rw [hr]
    simp only [Option.bind_some, hn, if_false, hk, impl_ShowTag_is w s (by omega)]
    simp
end Go.Proofs.Ytfckiehbpgbpcaa.Pure
