/-
  FnExactTagOk answers true at every tag: both functions come to the same. No condition.
-/
import Derived.Test.YtfckiehbpgbpcaaP0
import Derived.Test.YtfckiehbpgbpcaaPlawsFnExactTagOk
import Derived.Test.YtfckiehbpgbpcaaPlawstoTag
import Derived.Test.YtfckiehbpgbpcaaQtag
namespace Go.Proofs.Ytfckiehbpgbpcaa.Pure
set_option linter.unusedVariables false
set_option linter.unusedSimpArgs false
open Go.RowKit Go.Proofs.Ytfckiehbpgbpcaa.P Go.Proofs.Ytfckiehbpgbpcaa.Q Go.Proofs.YtfckiehbpgbpcaaW.PrintWords
theorem FnExactTagOk : laws_FnExactTagOk.Pure := by
  intro w s hs
  obtain ⟨r, hr, h0, _⟩ := szTag_is w s 1048576 hs (by omega) (by omega)
  unfold laws_FnExactTagOk.f laws_toTag.f
  by_cases hn : r < 0
  · exact ⟨0, by rw [hr]; simp [hn]⟩
  · have := h0 (by omega)
    obtain ⟨k, hk⟩ := (spec_TagOk_ev w s (by omega)).rounds
    refine ⟨k, ?_⟩
    rw [hr]
    simp [hn, hk, impl_TagOk_is w s (by omega)]
end Go.Proofs.Ytfckiehbpgbpcaa.Pure
