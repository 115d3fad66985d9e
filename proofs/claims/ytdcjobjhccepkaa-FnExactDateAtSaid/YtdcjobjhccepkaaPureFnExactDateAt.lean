/-
  FnExactDateAt answers true at every moment: both functions come to the same date. No condition.
-/
import Derived.Test.YtdcjobjhccepkaaP0
import Derived.Test.YtdcjobjhccepkaaPlawsFnExactDateAt
import Derived.Test.YtdcjobjhccepkaaPlawseqDate
import Derived.Test.YtdcjobjhccepkaaQcal
import Derived.Test.YtdcjobjhccepkaaQdays
namespace Go.Proofs.Ytdcjobjhccepkaa.Pure
set_option linter.unusedVariables false
set_option linter.unusedSimpArgs false
open Go.RowKit Go.Proofs.Ytdcjobjhccepkaa.P Go.Proofs.Ytdcjobjhccepkaa.Q Go.Proofs.YtdcjobjhccepkaaW.PrintWords
theorem eqDate_self (y m d h n s : Int) : laws_eqDate.f y m d h n s y m d h n s = some true := by
  unfold laws_eqDate.f
  simp
theorem FnExactDateAt : laws_FnExactDateAt.Pure := by
  intro t _
  refine ⟨9000, ?_⟩
  unfold laws_FnExactDateAt.f
  by_cases h : t < 0 ∨ 253402300799 < t
  · simp only [spec_DateAt_out t h, impl_DateAt_out t h, Option.bind_some, eqDate_self, if_true]
  · obtain ⟨y, m, d, hh, n, s, g, rfl⟩ := date_of t (by omega) (by omega)
    simp only [spec_DateAt_at g 9000 (Nat.le_refl _), impl_DateAt_at g 9000 (Nat.le_refl _), Option.bind_some, eqDate_self, if_true]
end Go.Proofs.Ytdcjobjhccepkaa.Pure
