/-
  Go's '>' between texts, as the printed functions read it. No condition.
-/
import Derived.Sort.Walk0
import Derived.Test.YtonimccihcodnaaGreatDoorP0
namespace Go.Proofs.YtonimccihcodnaaGreatDoor.P
set_option linter.unusedVariables false
theorem bytesLess_turn : ∀ (x y : List UInt8), (!(Op.bytesLess x y || x == y)) = Op.bytesLess y x
  | [], [] => rfl
  | _ :: _, [] => rfl
  | [], _ :: _ => rfl
  | a :: x, b :: y => by
    have ih := bytesLess_turn x y
    simp only [Op.bytesLess]
    by_cases h1 : a < b
    · have h2 : ¬ b < a := fun h => absurd (UInt8.lt_trans h1 h) (UInt8.lt_irrefl a)
      have h3 : ¬ b = a := by rintro rfl; exact UInt8.lt_irrefl _ h1
      simp [h1, h2, h3]
    · by_cases h2 : b < a
      · have h3 : ¬ a = b := by rintro rfl; exact UInt8.lt_irrefl _ h2
        simp [h1, h2, h3]
      · have h3 : a = b := UInt8.le_antisymm (UInt8.not_lt.1 h2) (UInt8.not_lt.1 h1)
        subst h3
        simp [← ih]
theorem gtr_string (t : TypeId) (a b : ByteArray) : binOp .gtr t (.string a) (.string b) = pure (.bool (Op.bytesLess b.toList a.toList)) := by
  rw [← bytesLess_turn]
  simp [binOp, Op.stringOp]
end Go.Proofs.YtonimccihcodnaaGreatDoor.P
