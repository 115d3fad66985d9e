/-
  FnExactLeap answers true at every year: both functions compute the same. No condition.
-/
import Derived.Test.YtfckiehbpgbpcaaP0
import Derived.Test.YtfckiehbpgbpcaaPimplLeap
import Derived.Test.YtfckiehbpgbpcaaPlawsFnExactLeap
import Derived.Test.YtfckiehbpgbpcaaPspecLeap
namespace Go.Proofs.Ytfckiehbpgbpcaa.Pure
open Go.RowKit Go.Proofs.Ytfckiehbpgbpcaa.P Go.Proofs.YtfckiehbpgbpcaaW.PrintWords Go.Proofs.YtfckiehbpgbpcaaW.PrintLast
theorem leap_some (a : Int) : ∃ b, spec_Leap.f a = some b := by
  unfold spec_Leap.f
  split
  · split <;> exact ⟨_, rfl⟩
  · exact ⟨_, rfl⟩
theorem FnExactLeap : laws_FnExactLeap.Pure := by
  intro a _
  obtain ⟨b, hb⟩ := leap_some a
  have hb' : impl_Leap.f a = some b := hb
  unfold laws_FnExactLeap.f
  rw [hb, hb']
  simp
end Go.Proofs.Ytfckiehbpgbpcaa.Pure
