/-
  FnExactWeekday answers true at every date: both functions come to the same. No condition.
-/
import Derived.Test.YtdcjobjhccepkaaP0
import Derived.Test.YtdcjobjhccepkaaPlawsFnExactWeekday
import Derived.Test.YtdcjobjhccepkaaPlawstoDate
import Derived.Test.YtdcjobjhccepkaaQdays
namespace Go.Proofs.Ytdcjobjhccepkaa.Pure
set_option linter.unusedVariables false
set_option linter.unusedSimpArgs false
open Go.RowKit Go.Proofs.Ytdcjobjhccepkaa.P Go.Proofs.Ytdcjobjhccepkaa.Q Go.Proofs.YtdcjobjhccepkaaW.PrintWords
theorem FnExactWeekday : laws_FnExactWeekday.Pure := by
  intro y m d h n s _ _ _ _ _ _
  refine ⟨16, ?_⟩
  unfold laws_FnExactWeekday.f laws_toDate.f
  simp only [Option.bind_some, spec_Weekday_ev _ _ _ _ _ _ 16 (Nat.le_refl _), impl_Weekday_ev _ _ _ _ _ _ 16 (Nat.le_refl _), if_true]
end Go.Proofs.Ytdcjobjhccepkaa.Pure
