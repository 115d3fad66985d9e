/-
  Leap, the length of a month and DateOk, of spec and impl, come to one and the same. No condition.
-/
import Derived.Test.YtdcjobjhccepkaaP0
import Derived.Test.YtdcjobjhccepkaaPimplDateOk
import Derived.Test.YtdcjobjhccepkaaPimplLeap
import Derived.Test.YtdcjobjhccepkaaPimpldaysIn
import Derived.Test.YtdcjobjhccepkaaPimplwithin
import Derived.Test.YtdcjobjhccepkaaPspecDateOk
import Derived.Test.YtdcjobjhccepkaaPspecLeap
import Derived.Test.YtdcjobjhccepkaaPspecl1In
import Derived.Test.YtdcjobjhccepkaaPspecl2Month
namespace Go.Proofs.Ytdcjobjhccepkaa.Q
set_option linter.unusedVariables false
set_option linter.unusedSimpArgs false
open Go.RowKit Go.Proofs.Ytdcjobjhccepkaa.P Go.Proofs.YtdcjobjhccepkaaW.PrintWords Go.Proofs.YtdcjobjhccepkaaW.PrintLast Go.Proofs.YtdcjobjhccepkaaW.PrintMore

def leapB (y : Int) : Bool := if Int.tmod y 4 = 0 then (if Int.tmod y 100 = 0 then Int.tmod y 400 == 0 else true) else Int.tmod y 400 == 0
theorem spec_Leap_is (y : Int) : spec_Leap.f y = some (leapB y) := by
  unfold spec_Leap.f leapB
  split
  · split <;> rfl
  · rfl
theorem impl_Leap_is (y : Int) : impl_Leap.f y = some (leapB y) := spec_Leap_is y
/-- How many days a month has. -/
def monthDays (y m : Int) : Int := if m = 2 then (if leapB y = true then 29 else 28) else if m = 4 ∨ m = 6 ∨ m = 9 ∨ m = 11 then 30 else 31
theorem monthDays_range (y m : Int) : 28 ≤ monthDays y m ∧ monthDays y m ≤ 31 := by
  unfold monthDays
  split
  · split <;> omega
  · split <;> omega
theorem spec_l2Month_is (y m : Int) (h0 : 1 ≤ m) (h1 : m ≤ 12) : spec_l2Month.f y m = some (monthDays y m) := by
  unfold spec_l2Month.f monthDays
  rw [spec_Leap_is]
  have hm : m = 1 ∨ m = 2 ∨ m = 3 ∨ m = 4 ∨ m = 5 ∨ m = 6 ∨ m = 7 ∨ m = 8 ∨ m = 9 ∨ m = 10 ∨ m = 11 ∨ m = 12 := by omega
  rcases hm with rfl | rfl | rfl | rfl | rfl | rfl | rfl | rfl | rfl | rfl | rfl | rfl
  all_goals
    clear h0 h1
    generalize leapB y = b
    cases b <;> decide +kernel
theorem impl_daysIn_is (y m : Int) (k : Nat) (hk : 1 ≤ k) : impl_daysIn.f k y m = some (monthDays y m) := by
  obtain ⟨k, rfl⟩ : ∃ n, k = n + 1 := ⟨k - 1, by omega⟩
  unfold impl_daysIn.f monthDays
  simp only [impl_daysIn.j0, impl_Leap_is, Option.bind_some]
  by_cases h4 : m = 4
  · subst h4; simp
  · rw [if_neg h4]
    by_cases h6 : m = 6
    · subst h6; simp
    · rw [if_neg h6]
      by_cases h9 : m = 9
      · subst h9; simp
      · rw [if_neg h9]
        by_cases h11 : m = 11
        · subst h11; simp
        · have hb : (m == 11) = false := by simpa using h11
          by_cases h2 : m = 2
          · subst h2
            cases leapB y <;> simp
          · simp [hb, h2, h4, h6, h9, h11]
def inB (x a b : Int) : Bool := decide (a ≤ x) && decide (x ≤ b)
theorem spec_l1In_is (x a b : Int) : spec_l1In.f x a b = some (inB x a b) := by
  unfold spec_l1In.f inB
  by_cases h : x ≥ a
  · rw [if_pos h, decide_eq_true (by omega : a ≤ x), Bool.true_and]
  · rw [if_neg h, decide_eq_false (by omega : ¬ a ≤ x), Bool.false_and]
theorem impl_within_is (x a b : Int) : impl_within.f x a b = some (inB x a b) := spec_l1In_is x a b
theorem inB_true {x a b : Int} (h : inB x a b = true) : a ≤ x ∧ x ≤ b := by unfold inB at h; simpa using h

def dateOk (y m d h n s : Int) : Bool := inB y 1970 9999 && (inB m 1 12 && (inB d 1 (monthDays y m) && (inB h 0 23 && (inB n 0 59 && inB s 0 59))))
theorem spec_DateOk_is (y m d h n s : Int) : spec_DateOk.f y m d h n s = some (dateOk y m d h n s) := by
  unfold spec_DateOk.f dateOk
  simp only [spec_l1In_is, Option.bind_some]
  cases h1 : inB y 1970 9999
  · simp
  · cases h2 : inB m 1 12
    · simp
    · obtain ⟨a, b⟩ := inB_true h2
      simp only [if_true, spec_l2Month_is y m a b, Option.bind_some, Bool.true_and]
      cases inB d 1 (monthDays y m) <;> cases inB h 0 23 <;> cases inB n 0 59 <;> simp
theorem impl_DateOk_is (y m d h n s : Int) (k : Nat) (hk : 1 ≤ k) : impl_DateOk.f k y m d h n s = some (dateOk y m d h n s) := by
  unfold impl_DateOk.f dateOk
  simp only [impl_within_is, impl_daysIn_is y m k hk, Option.bind_some]
  cases h1 : inB y 1970 9999
  · simp
  · cases h2 : inB m 1 12
    · simp
    · cases inB d 1 (monthDays y m) <;> cases inB h 0 23 <;> cases inB n 0 59 <;> simp
end Go.Proofs.Ytdcjobjhccepkaa.Q
