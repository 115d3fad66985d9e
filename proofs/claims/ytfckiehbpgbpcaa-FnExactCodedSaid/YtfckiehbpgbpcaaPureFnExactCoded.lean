/-
  FnExactCoded answers true at every text: both functions come to the same. No condition.
-/
import Derived.Test.YtfckiehbpgbpcaaP0
import Derived.Test.YtfckiehbpgbpcaaPimplCoded
import Derived.Test.YtfckiehbpgbpcaaPlawsFnExactCoded
import Derived.Test.YtfckiehbpgbpcaaPspecCoded
import Derived.Test.YtfckiehbpgbpcaaQ0
import Derived.Test.YtfckiehbpgbpcaaQcoded
namespace Go.Proofs.Ytfckiehbpgbpcaa.Pure
set_option linter.unusedVariables false
set_option linter.unusedSimpArgs false
open Go.RowKit Go.Proofs.Ytfckiehbpgbpcaa.P Go.Proofs.Ytfckiehbpgbpcaa.Q Go.Proofs.YtfckiehbpgbpcaaW.PrintWords
theorem FnExactCoded : laws_FnExactCoded.Pure := by
  intro a ha
  unfold laws_FnExactCoded.f
  by_cases h : (a.size : Int) > 1048576
  · exact ⟨0, if_pos h⟩
  · simp only [if_neg h]
    have E : Ev (fun k => (spec_Coded.f k a).bind fun t1 => (impl_Coded.f k a).bind fun t2 => if t2.toList = t1.toList then some true else some false) true :=
      Ev.bind (spec_Coded_ev a (by omega)) (Ev.bind (impl_Coded_ev a (by omega)) (ev_const (if_pos rfl)))
    exact E.rounds
end Go.Proofs.Ytfckiehbpgbpcaa.Pure
