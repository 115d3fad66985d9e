/-
  strings.Repeat at no time and at one time, as the printed callers take it. Condition: the count is 0 or 1.
-/
import Derived.Test.YtpolkndhjcdheaaDoorShelf
import Derived.Test.YtpolkndhjcdheaaDoorP0
namespace Go.Proofs.YtpolkndhjcdheaaDoor.P
set_option linter.unusedVariables false
set_option linter.unusedSimpArgs false
open Go.RowKit Go.Lib Go.Proofs.YtpolkndhjcdheaaDoorW.PrintWords Go.Proofs.YtpolkndhjcdheaaDoorW.PrintLast Go.Proofs.YtpolkndhjcdheaaDoorW.PrintMore

def strings_Repeat.f (a0 : ByteArray) (a1 : Int) : Option ByteArray :=
  if a1 = 0 then some ⟨#[]⟩ else if a1 = 1 then some a0 else none
theorem strings_Repeat.calls (a0 : ByteArray) (a1 : Int) (r : ByteArray) (w : World) (h : strings_Repeat.f a0 a1 = some r) :
    Calls Tryd.prog 58 #[.string a0, .int .i64 a1] w fun e w' => e = .returned (.string r) ∧ Below w.heap.size w w' := by
  unfold strings_Repeat.f at h
  by_cases h0 : a1 = 0
  · subst h0
    rw [if_pos rfl] at h
    obtain rfl := Option.some.inj h
    refine (Tryd.strings_Repeat_zero a0 w).mono ?_
    rintro e w' ⟨rfl, rfl⟩
    exact ⟨rfl, Below.refl _ _⟩
  · rw [if_neg h0] at h
    by_cases h1 : a1 = 1
    · subst h1
      rw [if_pos rfl] at h
      obtain rfl := Option.some.inj h
      refine (Tryd.strings_Repeat_one a0 w).mono ?_
      rintro e w' ⟨rfl, rfl⟩
      exact ⟨rfl, Below.refl _ _⟩
    · rw [if_neg h1] at h
      cases h
end Go.Proofs.YtpolkndhjcdheaaDoor.P
