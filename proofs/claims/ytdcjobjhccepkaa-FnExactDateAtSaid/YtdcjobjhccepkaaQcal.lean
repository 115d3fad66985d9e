/-
  The calendar in whole numbers: how many days lie ahead of a year and of a month; each day has its year and its month. No condition beyond those that each law states.
-/
import Derived.Test.YtdcjobjhccepkaaP0
import Derived.Test.YtdcjobjhccepkaaQdate
namespace Go.Proofs.Ytdcjobjhccepkaa.Q
set_option linter.unusedVariables false
set_option linter.unusedSimpArgs false
open Go.RowKit Go.Proofs.Ytdcjobjhccepkaa.P Go.Proofs.YtdcjobjhccepkaaW.PrintWords Go.Proofs.YtdcjobjhccepkaaW.PrintLast Go.Proofs.YtdcjobjhccepkaaW.PrintMore

/-- The days ahead of a year. -/
def yearD (y : Int) : Int := 365 * (y - 1970) + (y - 1) / 4 - (y - 1) / 100 + (y - 1) / 400 - 477
def leapN (y : Int) : Int := if leapB y = true then 1 else 0
theorem leapB_iff (y : Int) (h : 0 ≤ y) : leapB y = true ↔ (y % 4 = 0 ∧ y % 100 ≠ 0) ∨ y % 400 = 0 := by
  unfold leapB
  rw [Int.tmod_eq_emod_of_nonneg h, Int.tmod_eq_emod_of_nonneg h, Int.tmod_eq_emod_of_nonneg h]
  by_cases h4 : y % 4 = 0
  · rw [if_pos h4]
    by_cases h1 : y % 100 = 0
    · rw [if_pos h1]; simp; omega
    · rw [if_neg h1]; simp; omega
  · rw [if_neg h4]; simp; omega
theorem yearD_next (y : Int) (h : 0 ≤ y) : yearD (y + 1) = yearD y + 365 + leapN y := by
  unfold yearD leapN
  by_cases hl : leapB y = true
  · rw [if_pos hl]
    have := (leapB_iff y h).1 hl
    omega
  · rw [if_neg hl]
    have : ¬ ((y % 4 = 0 ∧ y % 100 ≠ 0) ∨ y % 400 = 0) := fun h' => hl ((leapB_iff y h).2 h')
    omega
theorem leapN_range (y : Int) : 0 ≤ leapN y ∧ leapN y ≤ 1 := by unfold leapN; split <;> omega
theorem yearD_range (y : Int) (h0 : 1970 ≤ y) (h1 : y ≤ 10000) : 0 ≤ yearD y ∧ yearD y ≤ 2932897 := by unfold yearD; omega
theorem yearD_mono (y : Int) (n : Nat) (h : 0 ≤ y) : yearD y + 365 * n ≤ yearD (y + n) := by
  induction n with
  | zero => simp
  | succ n ih =>
    have h1 := yearD_next (y + n) (by omega)
    have h2 := leapN_range (y + n)
    rw [show y + ((n + 1 : Nat) : Int) = y + n + 1 from by omega]
    omega
theorem yearD_lt (y z : Int) (h : 0 ≤ y) (hz : y < z) : yearD (y + 1) ≤ yearD z := by
  have := yearD_mono (y + 1) (z - (y + 1)).toNat (by omega)
  rw [show y + 1 + ((z - (y + 1)).toNat : Int) = z from by omega] at this
  omega
/-- The days of a year ahead of a month. -/
def monthD (y : Int) : Nat → Int
  | 0 => 0
  | m + 1 => if m = 0 then 0 else monthD y m + monthDays y m
theorem monthD_one (y : Int) : monthD y 1 = 0 := rfl
theorem monthD_next (y : Int) (m : Nat) (h : 1 ≤ m) : monthD y (m + 1) = monthD y m + monthDays y m := by
  show (if m = 0 then 0 else monthD y m + monthDays y m) = _
  rw [if_neg (by omega)]
theorem monthD_mono (y : Int) (m n : Nat) (h : 1 ≤ m) : monthD y m + 28 * n ≤ monthD y (m + n) := by
  induction n with
  | zero => simp
  | succ n ih =>
    have h1 := monthD_next y (m + n) (by omega)
    have h2 := monthDays_range y ((m + n : Nat) : Int)
    rw [show m + (n + 1) = m + n + 1 from by omega]
    omega
theorem monthD_lt (y : Int) (m n : Nat) (h : 1 ≤ m) (hn : m < n) : monthD y (m + 1) ≤ monthD y n := by
  have := monthD_mono y (m + 1) (n - (m + 1)) (by omega)
  rw [show m + 1 + (n - (m + 1)) = n from by omega] at this
  omega
theorem monthD_all (y : Int) : monthD y 13 = 365 + leapN y := by
  simp only [monthD_next y _ (by omega : 1 ≤ 12), monthD_next y _ (by omega : 1 ≤ 11), monthD_next y _ (by omega : 1 ≤ 10), monthD_next y _ (by omega : 1 ≤ 9), monthD_next y _ (by omega : 1 ≤ 8), monthD_next y _ (by omega : 1 ≤ 7), monthD_next y _ (by omega : 1 ≤ 6), monthD_next y _ (by omega : 1 ≤ 5), monthD_next y _ (by omega : 1 ≤ 4), monthD_next y _ (by omega : 1 ≤ 3), monthD_next y _ (by omega : 1 ≤ 2), monthD_next y _ (by omega : 1 ≤ 1), monthD_one]
  unfold leapN monthDays
  cases leapB y <;> simp
theorem monthD_range (y : Int) (m : Nat) (h0 : 1 ≤ m) (h1 : m ≤ 13) : 0 ≤ monthD y m ∧ monthD y m ≤ 366 := by
  have a := monthD_mono y 1 (m - 1) (Nat.le_refl _)
  have b := monthD_mono y m (13 - m) h0
  rw [show 1 + (m - 1) = m from by omega, monthD_one] at a
  rw [show m + (13 - m) = 13 from by omega, monthD_all] at b
  have := leapN_range y
  omega
/-- The days ahead of a date, its moment. -/
def dayN (y m d : Int) : Int := yearD y + monthD y m.toNat + d - 1
def momentN (y m d h n s : Int) : Int := dayN y m d * 86400 + h * 3600 + n * 60 + s
structure Good (y m d h n s : Int) : Prop where
  y0 : 1970 ≤ y
  y1 : y ≤ 9999
  m0 : 1 ≤ m
  m1 : m ≤ 12
  d0 : 1 ≤ d
  d1 : d ≤ monthDays y m
  h0 : 0 ≤ h
  h1 : h ≤ 23
  n0 : 0 ≤ n
  n1 : n ≤ 59
  s0 : 0 ≤ s
  s1 : s ≤ 59
theorem good_iff (y m d h n s : Int) : dateOk y m d h n s = true ↔ Good y m d h n s := by
  unfold dateOk inB
  simp only [Bool.and_eq_true, decide_eq_true_eq]
  constructor
  · rintro ⟨⟨a, b⟩, ⟨c, d⟩, ⟨e, f⟩, ⟨g, h⟩, ⟨i, j⟩, k, l⟩
    exact ⟨a, b, c, d, e, f, g, h, i, j, k, l⟩
  · intro g
    exact ⟨⟨g.y0, g.y1⟩, ⟨g.m0, g.m1⟩, ⟨g.d0, g.d1⟩, ⟨g.h0, g.h1⟩, ⟨g.n0, g.n1⟩, g.s0, g.s1⟩
/-- A day of a year lies within it, a day of a month within that. -/
theorem day_in {y m d : Int} (hm0 : 1 ≤ m) (hm1 : m ≤ 12) (hd0 : 1 ≤ d) (hd1 : d ≤ monthDays y m) : 0 ≤ monthD y m.toNat + d - 1 ∧ monthD y m.toNat + d - 1 < monthD y (m.toNat + 1) ∧ monthD y (m.toNat + 1) ≤ 365 + leapN y := by
  have h1 := monthD_next y m.toNat (by omega)
  rw [show ((m.toNat : Nat) : Int) = m from by omega] at h1
  have h2 := monthD_range y m.toNat (by omega) (by omega)
  have h3 := monthD_mono y (m.toNat + 1) (12 - m.toNat) (by omega)
  rw [show m.toNat + 1 + (12 - m.toNat) = 13 from by omega, monthD_all] at h3
  omega
theorem dayN_in {y m d : Int} (hy : 0 ≤ y) (hm0 : 1 ≤ m) (hm1 : m ≤ 12) (hd0 : 1 ≤ d) (hd1 : d ≤ monthDays y m) : yearD y ≤ dayN y m d ∧ dayN y m d < yearD (y + 1) := by
  have := day_in hm0 hm1 hd0 hd1
  have h2 := yearD_next y hy
  unfold dayN
  omega
theorem dayN_range {y m d h n s : Int} (g : Good y m d h n s) : 0 ≤ dayN y m d ∧ dayN y m d ≤ 2932896 := by
  have h1 := dayN_in (by have := g.y0; omega) g.m0 g.m1 g.d0 g.d1
  have h2 := yearD_range y g.y0 (by have := g.y1; omega)
  have h3 := yearD_range (y + 1) (by have := g.y0; omega) (by have := g.y1; omega)
  omega
theorem momentN_range {y m d h n s : Int} (g : Good y m d h n s) : 0 ≤ momentN y m d h n s ∧ momentN y m d h n s ≤ 253402300799 := by
  have h1 := dayN_range g
  have := g.h0; have := g.h1; have := g.n0; have := g.n1; have := g.s0; have := g.s1
  unfold momentN
  omega
/-- Each day has its year .. -/
theorem year_of (L : Int) (h0 : 0 ≤ L) (h1 : L ≤ 2932896) : ∃ y, 1970 ≤ y ∧ y ≤ 9999 ∧ yearD y ≤ L ∧ L < yearD (y + 1) := by
  have key : ∀ n : Nat, n ≤ 8030 → L < yearD (1970 + (n : Int)) → ∃ y : Int, 1970 ≤ y ∧ y < 1970 + (n : Int) ∧ yearD y ≤ L ∧ L < yearD (y + 1) := by
    intro n
    induction n with
    | zero =>
      intro _ h
      exfalso
      have e : yearD (1970 + ((0 : Nat) : Int)) = 0 := by decide
      omega
    | succ n ih =>
      intro hn h
      by_cases hl : L < yearD (1970 + (n : Int))
      · obtain ⟨y, a, b, c, d⟩ := ih (by omega) hl
        exact ⟨y, a, by omega, c, d⟩
      · exact ⟨1970 + (n : Int), by omega, by omega, by omega, by rw [show (1970 : Int) + n + 1 = 1970 + ((n + 1 : Nat) : Int) from by omega]; exact h⟩
  have e : yearD (1970 + ((8030 : Nat) : Int)) = 2932897 := by decide
  obtain ⟨y, a, b, c, d⟩ := key 8030 (Nat.le_refl _) (by omega)
  exact ⟨y, a, by omega, c, d⟩
/-- .. and its month. -/
theorem month_of (y r : Int) (h0 : 0 ≤ r) (h1 : r < 365 + leapN y) : ∃ m : Nat, 1 ≤ m ∧ m ≤ 12 ∧ monthD y m ≤ r ∧ r < monthD y (m + 1) := by
  have key : ∀ n : Nat, n ≤ 12 → r < monthD y (1 + n) → ∃ m : Nat, 1 ≤ m ∧ m < 1 + n ∧ monthD y m ≤ r ∧ r < monthD y (m + 1) := by
    intro n
    induction n with
    | zero => intro _ h; rw [monthD_one] at h; omega
    | succ n ih =>
      intro hn h
      by_cases hl : r < monthD y (1 + n)
      · obtain ⟨m, a, b, c, d⟩ := ih (by omega) hl
        exact ⟨m, a, by omega, c, d⟩
      · exact ⟨1 + n, by omega, by omega, by omega, h⟩
  obtain ⟨m, a, b, c, d⟩ := key 12 (Nat.le_refl _) (by rw [show 1 + 12 = 13 from rfl, monthD_all]; exact h1)
  exact ⟨m, a, by omega, c, d⟩
theorem date_of (t : Int) (h0 : 0 ≤ t) (h1 : t ≤ 253402300799) : ∃ y m d h n s, Good y m d h n s ∧ momentN y m d h n s = t := by
  obtain ⟨y, y0, y1, y2, y3⟩ := year_of (t / 86400) (by omega) (by omega)
  have hn := yearD_next y (by omega)
  obtain ⟨m, m0, m1, m2, m3⟩ := month_of y (t / 86400 - yearD y) (by omega) (by omega)
  have h2 := monthD_next y m m0
  refine ⟨y, m, t / 86400 - yearD y - monthD y m + 1, t % 86400 / 3600, t % 86400 / 60 % 60, t % 86400 % 60, ⟨y0, y1, by omega, by omega, by omega, by omega, by omega, by omega, by omega, by omega, by omega, by omega⟩, ?_⟩
  unfold momentN dayN
  rw [Int.toNat_natCast]
  omega
end Go.Proofs.Ytdcjobjhccepkaa.Q
