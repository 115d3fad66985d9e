/-
  FnExactConstants answers true. No condition.
-/
import Derived.Test.YtfckiehbpgbpcaaP0
import Derived.Test.YtfckiehbpgbpcaaPlawsFnExactConstants
namespace Go.Proofs.Ytfckiehbpgbpcaa.Pure
open Go.RowKit Go.Proofs.Ytfckiehbpgbpcaa.P Go.Proofs.YtfckiehbpgbpcaaW.PrintWords Go.Proofs.YtfckiehbpgbpcaaW.PrintLast
theorem FnExactConstants : laws_FnExactConstants.Pure := rfl
end Go.Proofs.Ytfckiehbpgbpcaa.Pure
