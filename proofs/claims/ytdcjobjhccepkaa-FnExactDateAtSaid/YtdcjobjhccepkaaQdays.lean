/-
  Days, Moment, Weekday and DateAt of spec and impl, in the calendar's words. No condition beyond those that each law states.
-/
import Derived.Test.YtdcjobjhccepkaaP0
import Derived.Test.YtdcjobjhccepkaaPimplDateAt
import Derived.Test.YtdcjobjhccepkaaPimplDays
import Derived.Test.YtdcjobjhccepkaaPimplMoment
import Derived.Test.YtdcjobjhccepkaaPimplWeekday
import Derived.Test.YtdcjobjhccepkaaPimpldays
import Derived.Test.YtdcjobjhccepkaaPimplyearDays
import Derived.Test.YtdcjobjhccepkaaPspecDateAt
import Derived.Test.YtdcjobjhccepkaaPspecDays
import Derived.Test.YtdcjobjhccepkaaPspecMoment
import Derived.Test.YtdcjobjhccepkaaPspecWeekday
import Derived.Test.YtdcjobjhccepkaaPspecl2Days
import Derived.Test.YtdcjobjhccepkaaPspecl2Year
import Derived.Test.YtdcjobjhccepkaaQ0
import Derived.Test.YtdcjobjhccepkaaQcal
import Derived.Test.YtdcjobjhccepkaaQdate
namespace Go.Proofs.Ytdcjobjhccepkaa.Q
set_option linter.unusedVariables false
set_option linter.unusedSimpArgs false
open Go.RowKit Go.Proofs.Ytdcjobjhccepkaa.P Go.Proofs.YtdcjobjhccepkaaW.PrintWords Go.Proofs.YtdcjobjhccepkaaW.PrintLast Go.Proofs.YtdcjobjhccepkaaW.PrintMore

theorem spec_l2Year_is (y : Int) (h0 : 1970 ≤ y) (h1 : y ≤ 10000) : spec_l2Year.f y = some (yearD y) := by
  unfold spec_l2Year.f yearD
  refine congrArg some ?_
  rw [wrap_in (i := y - 1970) (by omega) (by omega), wrap_in (i := y - 1) (by omega) (by omega), wrap_in (i := 365 * (y - 1970)) (by omega) (by omega)]
  rw [Int.tdiv_eq_ediv_of_nonneg (by omega), Int.tdiv_eq_ediv_of_nonneg (by omega), Int.tdiv_eq_ediv_of_nonneg (by omega)]
  rw [wrap_in (i := (y - 1) / 4) (by omega) (by omega), wrap_in (i := (y - 1) / 100) (by omega) (by omega), wrap_in (i := (y - 1) / 400) (by omega) (by omega)]
  rw [wrap_in (i := 365 * (y - 1970) + (y - 1) / 4) (by omega) (by omega), wrap_in (i := 365 * (y - 1970) + (y - 1) / 4 - (y - 1) / 100) (by omega) (by omega), wrap_in (i := 365 * (y - 1970) + (y - 1) / 4 - (y - 1) / 100 + (y - 1) / 400) (by omega) (by omega)]
  exact wrap_in (by omega) (by omega)
theorem spec_l2Days_loop (y m d h n s : Int) (m0 : 1 ≤ m) (m1 : m ≤ 12) (r : Nat) : ∀ (j : Int) (acc : Int), 1 ≤ j → j + r = m → 0 ≤ acc → acc ≤ 3000000 + monthD y j.toNat → ∀ k, r + 1 < k →
    spec_l2Days.l0 k acc j y m d h n s = some (acc + monthD y m.toNat - monthD y j.toNat) := by
  induction r with
  | zero =>
    intro j acc j0 hj a0 a1 k hk
    obtain ⟨k, rfl⟩ : ∃ z, k = z + 1 := ⟨k - 1, by omega⟩
    simp only [spec_l2Days.l0]
    rw [if_neg (by omega), show j = m from by omega]
    exact congrArg some (by omega)
  | succ r ih =>
    intro j acc j0 hj a0 a1 k hk
    obtain ⟨k, rfl⟩ : ∃ z, k = z + 1 := ⟨k - 1, by omega⟩
    have hk : 1 ≤ k := by omega
    have hr := monthDays_range y j
    have hn := monthD_next y j.toNat (by omega)
    rw [show ((j.toNat : Nat) : Int) = j from by omega] at hn
    have hg := monthD_range y j.toNat (by omega) (by omega)
    simp only [spec_l2Days.l0]
    rw [if_pos (by omega), spec_l2Month_is y j (by omega) (by omega)]
    simp only [Option.bind_some]
    rw [wrap_in (by omega) (by omega), wrap_in (by omega) (by omega)]
    have e : (j + 1).toNat = j.toNat + 1 := by omega
    rw [ih (j + 1) (acc + monthDays y j) (by omega) (by omega) (by omega) (by rw [e]; omega) k (by omega), e]
    exact congrArg some (by omega)
theorem spec_l2Days_ev {y m d h n s : Int} (g : Good y m d h n s) (k : Nat) (hk : 16 ≤ k) : spec_l2Days.f k y m d h n s = some (dayN y m d) := by
  have hr := yearD_range y g.y0 (by have := g.y1; omega)
  have hm := monthDays_range y m
  have d0 := g.d0
  have d1 := g.d1
  have m0 := g.m0
  have m1 := g.m1
  unfold spec_l2Days.f
  rw [spec_l2Year_is y g.y0 (by have := g.y1; omega)]
  simp only [Option.bind_some]
  rw [wrap_in (i := yearD y + d) (by omega) (by omega), wrap_in (by omega) (by omega)]
  rw [spec_l2Days_loop y m d h n s m0 m1 (m - 1).toNat 1 _ (by omega) (by omega) (by omega) (by rw [show (1 : Int).toNat = 1 from rfl, monthD_one]; omega) k (by omega)]
  unfold dayN
  rw [show (1 : Int).toNat = 1 from rfl, monthD_one]
  exact congrArg some (by omega)


theorem impl_yearDays_is (y : Int) (h0 : 1970 ≤ y) (h1 : y ≤ 10000) : impl_yearDays.f y = some (yearD y) := by
  unfold impl_yearDays.f yearD
  refine congrArg some ?_
  rw [wrap_in (i := y - 1970) (by omega) (by omega), wrap_in (i := y - 1) (by omega) (by omega), wrap_in (i := 365 * (y - 1970)) (by omega) (by omega)]
  rw [Int.tdiv_eq_ediv_of_nonneg (by omega), Int.tdiv_eq_ediv_of_nonneg (by omega), Int.tdiv_eq_ediv_of_nonneg (by omega)]
  rw [wrap_in (i := (y - 1) / 4) (by omega) (by omega), wrap_in (i := (y - 1) / 100) (by omega) (by omega), wrap_in (i := (y - 1) / 400) (by omega) (by omega)]
  rw [wrap_in (i := 365 * (y - 1970) + (y - 1) / 4) (by omega) (by omega), wrap_in (i := 365 * (y - 1970) + (y - 1) / 4 - (y - 1) / 100) (by omega) (by omega), wrap_in (i := 365 * (y - 1970) + (y - 1) / 4 - (y - 1) / 100 + (y - 1) / 400) (by omega) (by omega)]
  exact wrap_in (by omega) (by omega)
theorem impl_days_loop (y m d h n s : Int) (m0 : 1 ≤ m) (m1 : m ≤ 12) (r : Nat) : ∀ (j : Int) (acc : Int), 1 ≤ j → j + r = m → 0 ≤ acc → acc ≤ 3000000 + monthD y j.toNat → ∀ k, r + 1 < k →
    impl_days.l0 k acc j y m d h n s = some (acc + monthD y m.toNat - monthD y j.toNat) := by
  induction r with
  | zero =>
    intro j acc j0 hj a0 a1 k hk
    obtain ⟨k, rfl⟩ : ∃ z, k = z + 1 := ⟨k - 1, by omega⟩
    simp only [impl_days.l0]
    rw [if_neg (by omega), show j = m from by omega]
    exact congrArg some (by omega)
  | succ r ih =>
    intro j acc j0 hj a0 a1 k hk
    obtain ⟨k, rfl⟩ : ∃ z, k = z + 1 := ⟨k - 1, by omega⟩
    have hk : 1 ≤ k := by omega
    have hr := monthDays_range y j
    have hn := monthD_next y j.toNat (by omega)
    rw [show ((j.toNat : Nat) : Int) = j from by omega] at hn
    have hg := monthD_range y j.toNat (by omega) (by omega)
    simp only [impl_days.l0]
    rw [if_pos (by omega), impl_daysIn_is y j k hk]
    simp only [Option.bind_some]
    rw [wrap_in (by omega) (by omega), wrap_in (by omega) (by omega)]
    have e : (j + 1).toNat = j.toNat + 1 := by omega
    rw [ih (j + 1) (acc + monthDays y j) (by omega) (by omega) (by omega) (by rw [e]; omega) k (by omega), e]
    exact congrArg some (by omega)
theorem impl_days_ev {y m d h n s : Int} (g : Good y m d h n s) (k : Nat) (hk : 16 ≤ k) : impl_days.f k y m d h n s = some (dayN y m d) := by
  have hr := yearD_range y g.y0 (by have := g.y1; omega)
  have hm := monthDays_range y m
  have d0 := g.d0
  have d1 := g.d1
  have m0 := g.m0
  have m1 := g.m1
  unfold impl_days.f
  rw [impl_yearDays_is y g.y0 (by have := g.y1; omega)]
  simp only [Option.bind_some]
  rw [wrap_in (i := yearD y + d) (by omega) (by omega), wrap_in (by omega) (by omega)]
  rw [impl_days_loop y m d h n s m0 m1 (m - 1).toNat 1 _ (by omega) (by omega) (by omega) (by rw [show (1 : Int).toNat = 1 from rfl, monthD_one]; omega) k (by omega)]
  unfold dayN
  rw [show (1 : Int).toNat = 1 from rfl, monthD_one]
  exact congrArg some (by omega)

theorem spec_Days_ev (y m d h n s : Int) (k : Nat) (hk : 16 ≤ k) : spec_Days.f k y m d h n s = some (if dateOk y m d h n s = true then dayN y m d else -1) := by
  unfold spec_Days.f
  rw [spec_DateOk_is]
  simp only [Option.bind_some]
  by_cases g : dateOk y m d h n s = true
  · rw [if_pos g, if_pos g, spec_l2Days_ev ((good_iff ..).1 g) k hk]; rfl
  · rw [if_neg g, if_neg g]

theorem spec_Weekday_ev (y m d h n s : Int) (k : Nat) (hk : 16 ≤ k) : spec_Weekday.f k y m d h n s = some (if dateOk y m d h n s = true then (dayN y m d + 4) % 7 else -1) := by
  unfold spec_Weekday.f
  rw [spec_DateOk_is]
  simp only [Option.bind_some]
  by_cases g : dateOk y m d h n s = true
  · have G := (good_iff ..).1 g
    have hr := dayN_range G
    rw [if_pos g, if_pos g, spec_l2Days_ev G k hk]
    simp only [Option.bind_some]
    rw [wrap_in (by omega) (by omega), Int.tmod_eq_emod_of_nonneg (by omega)]
  · rw [if_neg g, if_neg g]

theorem spec_Moment_ev (y m d h n s : Int) (k : Nat) (hk : 16 ≤ k) : spec_Moment.f k y m d h n s = some (if dateOk y m d h n s = true then momentN y m d h n s else -1) := by
  unfold spec_Moment.f
  rw [spec_DateOk_is]
  simp only [Option.bind_some]
  by_cases g : dateOk y m d h n s = true
  · have G := (good_iff ..).1 g
    have hr := dayN_range G
    have := G.h0; have := G.h1; have := G.n0; have := G.n1; have := G.s0; have := G.s1
    rw [if_pos g, if_pos g, spec_l2Days_ev G k hk]
    simp only [Option.bind_some]
    unfold momentN
    rw [wrap_in (i := dayN y m d * 86400) (by omega) (by omega), wrap_in (i := h * 3600) (by omega) (by omega), wrap_in (i := dayN y m d * 86400 + h * 3600) (by omega) (by omega), wrap_in (i := n * 60) (by omega) (by omega), wrap_in (i := dayN y m d * 86400 + h * 3600 + n * 60) (by omega) (by omega)]
    exact congrArg some (wrap_in (by omega) (by omega))
  · rw [if_neg g, if_neg g]

theorem impl_Days_ev (y m d h n s : Int) (k : Nat) (hk : 16 ≤ k) : impl_Days.f k y m d h n s = some (if dateOk y m d h n s = true then dayN y m d else -1) := by
  unfold impl_Days.f
  rw [impl_DateOk_is _ _ _ _ _ _ k (by omega)]
  simp only [Option.bind_some]
  by_cases g : dateOk y m d h n s = true
  · rw [if_pos g, if_pos g, impl_days_ev ((good_iff ..).1 g) k hk]; rfl
  · rw [if_neg g, if_neg g]

theorem impl_Weekday_ev (y m d h n s : Int) (k : Nat) (hk : 16 ≤ k) : impl_Weekday.f k y m d h n s = some (if dateOk y m d h n s = true then (dayN y m d + 4) % 7 else -1) := by
  unfold impl_Weekday.f
  rw [impl_DateOk_is _ _ _ _ _ _ k (by omega)]
  simp only [Option.bind_some]
  by_cases g : dateOk y m d h n s = true
  · have G := (good_iff ..).1 g
    have hr := dayN_range G
    rw [if_pos g, if_pos g, impl_days_ev G k hk]
    simp only [Option.bind_some]
    rw [wrap_in (by omega) (by omega), Int.tmod_eq_emod_of_nonneg (by omega)]
  · rw [if_neg g, if_neg g]

theorem impl_Moment_ev (y m d h n s : Int) (k : Nat) (hk : 16 ≤ k) : impl_Moment.f k y m d h n s = some (if dateOk y m d h n s = true then momentN y m d h n s else -1) := by
  unfold impl_Moment.f
  rw [impl_DateOk_is _ _ _ _ _ _ k (by omega)]
  simp only [Option.bind_some]
  by_cases g : dateOk y m d h n s = true
  · have G := (good_iff ..).1 g
    have hr := dayN_range G
    have := G.h0; have := G.h1; have := G.n0; have := G.n1; have := G.s0; have := G.s1
    rw [if_pos g, if_pos g, impl_days_ev G k hk]
    simp only [Option.bind_some]
    unfold momentN
    rw [wrap_in (i := dayN y m d * 86400) (by omega) (by omega), wrap_in (i := h * 3600) (by omega) (by omega), wrap_in (i := dayN y m d * 86400 + h * 3600) (by omega) (by omega), wrap_in (i := n * 60) (by omega) (by omega), wrap_in (i := dayN y m d * 86400 + h * 3600 + n * 60) (by omega) (by omega)]
    exact congrArg some (wrap_in (by omega) (by omega))
  · rw [if_neg g, if_neg g]


theorem spec_DateAt_months (y m : Int) (L S : Int) (m0 : 1 ≤ m) (m1 : m ≤ 12) (h0 : monthD y m.toNat ≤ L) (h1 : L < monthD y (m.toNat + 1)) (s0 : 0 ≤ S) (s1 : S < 86400) (r : Nat) : ∀ (j : Int), 1 ≤ j → j + r = m → ∀ k, r + 2 < k →
    spec_DateAt.l1 k (L - monthD y j.toNat) S y j = some (y, m, L - monthD y m.toNat + 1, S / 3600, S / 60 % 60, S % 60) := by
  have g0 := monthD_range y m.toNat (by omega) (by omega)
  have g1 := monthD_range y (m.toNat + 1) (by omega) (by omega)
  induction r with
  | zero =>
    intro j j0 hj k hk
    obtain ⟨k, rfl⟩ : ∃ z, k = z + 1 := ⟨k - 1, by omega⟩
    obtain rfl : j = m := by omega
    have hn := monthD_next y j.toNat (by omega)
    rw [show ((j.toNat : Nat) : Int) = j from by omega] at hn
    simp only [spec_DateAt.l1]
    rw [spec_l2Month_is y j (by omega) (by omega)]
    simp only [Option.bind_some]
    rw [if_neg (by omega)]
    rw [Int.tdiv_eq_ediv_of_nonneg s0, Int.tdiv_eq_ediv_of_nonneg s0, Int.tmod_eq_emod_of_nonneg s0, wrap_in (i := L - monthD y j.toNat + 1) (by omega) (by omega), wrap_in (i := S / 3600) (by omega) (by omega), wrap_in (i := S / 60) (by omega) (by omega), Int.tmod_eq_emod_of_nonneg (by omega)]
  | succ r ih =>
    intro j j0 hj k hk
    obtain ⟨k, rfl⟩ : ∃ z, k = z + 1 := ⟨k - 1, by omega⟩
    have hn := monthD_next y j.toNat (by omega)
    rw [show ((j.toNat : Nat) : Int) = j from by omega] at hn
    have hl := monthD_lt y j.toNat m.toNat (by omega) (by omega)
    have gj := monthD_range y j.toNat (by omega) (by omega)
    have hr := monthDays_range y j
    have e : (j + 1).toNat = j.toNat + 1 := by omega
    have hi := ih (j + 1) (by omega) (by omega) k (by omega)
    rw [e, hn] at hi
    simp only [spec_DateAt.l1]
    rw [spec_l2Month_is y j (by omega) (by omega)]
    simp only [Option.bind_some]
    rw [if_pos (by omega), wrap_in (i := L - monthD y j.toNat - monthDays y j) (by omega) (by omega), wrap_in (i := j + 1) (by omega) (by omega)]
    rw [show L - monthD y j.toNat - monthDays y j = L - (monthD y j.toNat + monthDays y j) from by omega]
    exact hi
theorem spec_DateAt_years (y m : Int) (L S : Int) (y0 : 1970 ≤ y) (y1 : y ≤ 9999) (h0 : yearD y ≤ L) (h1 : L < yearD (y + 1)) (m0 : 1 ≤ m) (m1 : m ≤ 12) (h2 : monthD y m.toNat ≤ L - yearD y) (h3 : L - yearD y < monthD y (m.toNat + 1)) (s0 : 0 ≤ S) (s1 : S < 86400) (r : Nat) : ∀ (z : Int), 1970 ≤ z → z + r = y → ∀ k, r + 20 < k →
    spec_DateAt.l0 k L S z = some (y, m, L - yearD y - monthD y m.toNat + 1, S / 3600, S / 60 % 60, S % 60) := by
  have g0 := yearD_range y y0 (by omega)
  have g1 := yearD_range (y + 1) (by omega) (by omega)
  induction r with
  | zero =>
    intro z z0 hz k hk
    obtain ⟨k, rfl⟩ : ∃ q, k = q + 1 := ⟨k - 1, by omega⟩
    obtain rfl : z = y := by omega
    simp only [spec_DateAt.l0]
    rw [wrap_in (i := z + 1) (by omega) (by omega), spec_l2Year_is (z + 1) (by omega) (by omega)]
    simp only [Option.bind_some]
    rw [if_neg (by omega), spec_l2Year_is z (by omega) (by omega)]
    simp only [Option.bind_some]
    rw [wrap_in (i := L - yearD z) (by omega) (by omega)]
    have hm := spec_DateAt_months z m (L - yearD z) S m0 m1 h2 h3 s0 s1 (m - 1).toNat 1 (by omega) (by omega) k (by omega)
    rw [show (1 : Int).toNat = 1 from rfl, monthD_one, Int.sub_zero] at hm
    exact hm
  | succ r ih =>
    intro z z0 hz k hk
    obtain ⟨k, rfl⟩ : ∃ q, k = q + 1 := ⟨k - 1, by omega⟩
    have hl := yearD_lt z y (by omega) (by omega)
    simp only [spec_DateAt.l0]
    rw [wrap_in (i := z + 1) (by omega) (by omega), spec_l2Year_is (z + 1) (by omega) (by omega)]
    simp only [Option.bind_some]
    rw [if_pos (by omega)]
    exact ih (z + 1) (by omega) (by omega) k (by omega)
theorem spec_DateAt_at {y m d h n s : Int} (g : Good y m d h n s) (k : Nat) (hk : 9000 ≤ k) : spec_DateAt.f k (momentN y m d h n s) = some (y, m, d, h, n, s) := by
  have hr := momentN_range g
  have hd := dayN_range g
  have hy := dayN_in (by have := g.y0; omega) g.m0 g.m1 g.d0 g.d1
  have hm := day_in g.m0 g.m1 g.d0 g.d1
  have := g.h0; have := g.h1; have := g.n0; have := g.n1; have := g.s0; have := g.s1; have := g.y0; have := g.y1; have := g.d0
  have e1 : momentN y m d h n s / 86400 = dayN y m d := by unfold momentN; omega
  have e2 : momentN y m d h n s % 86400 = h * 3600 + n * 60 + s := by unfold momentN; omega
  unfold spec_DateAt.f
  rw [spec_l1In_is, show inB (momentN y m d h n s) 0 253402300799 = true from by unfold inB; simp; omega]
  simp only [Option.bind_some, if_true]
  rw [Int.tdiv_eq_ediv_of_nonneg hr.1, Int.tmod_eq_emod_of_nonneg hr.1, e1, e2, wrap_in (i := dayN y m d) (by omega) (by omega), Int.tdiv_eq_ediv_of_nonneg hd.1, wrap_in (i := dayN y m d / 366) (by omega) (by omega), wrap_in (i := 1970 + dayN y m d / 366) (by omega) (by omega)]
  have hb : 1970 + dayN y m d / 366 ≤ y := by
    have h1 := yearD_range y g.y0 (by omega)
    have h2 : yearD (y + 1) ≤ 366 * (y + 1 - 1970) := by unfold yearD; omega
    omega
  have hz := spec_DateAt_years y m (dayN y m d) (h * 3600 + n * 60 + s) g.y0 g.y1 hy.1 hy.2 g.m0 g.m1 (by unfold dayN; omega) (by unfold dayN; omega) (by omega) (by omega) (y - (1970 + dayN y m d / 366)).toNat (1970 + dayN y m d / 366) (by omega) (by omega) k (by omega)
  rw [hz]
  have e3 : dayN y m d - yearD y - monthD y m.toNat + 1 = d := by unfold dayN; omega
  rw [e3, show (h * 3600 + n * 60 + s) / 3600 = h from by omega, show (h * 3600 + n * 60 + s) / 60 % 60 = n from by omega, show (h * 3600 + n * 60 + s) % 60 = s from by omega]
theorem spec_DateAt_out (t : Int) (h : t < 0 ∨ 253402300799 < t) (k : Nat) : spec_DateAt.f k t = some (0, 0, 0, 0, 0, 0) := by
  unfold spec_DateAt.f
  rw [spec_l1In_is, show inB t 0 253402300799 = false from by unfold inB; simp; omega]
  rfl


theorem impl_DateAt_months (y m : Int) (L S : Int) (m0 : 1 ≤ m) (m1 : m ≤ 12) (h0 : monthD y m.toNat ≤ L) (h1 : L < monthD y (m.toNat + 1)) (s0 : 0 ≤ S) (s1 : S < 86400) (r : Nat) : ∀ (j : Int), 1 ≤ j → j + r = m → ∀ k, r + 2 < k →
    impl_DateAt.l1 k (L - monthD y j.toNat) S y j = some (y, m, L - monthD y m.toNat + 1, S / 3600, S / 60 % 60, S % 60) := by
  have g0 := monthD_range y m.toNat (by omega) (by omega)
  have g1 := monthD_range y (m.toNat + 1) (by omega) (by omega)
  induction r with
  | zero =>
    intro j j0 hj k hk
    obtain ⟨k, rfl⟩ : ∃ z, k = z + 1 := ⟨k - 1, by omega⟩
    obtain rfl : j = m := by omega
    have hn := monthD_next y j.toNat (by omega)
    rw [show ((j.toNat : Nat) : Int) = j from by omega] at hn
    simp only [impl_DateAt.l1]
    rw [impl_daysIn_is y j k (by omega)]
    simp only [Option.bind_some]
    rw [if_neg (by omega)]
    rw [Int.tdiv_eq_ediv_of_nonneg s0, Int.tdiv_eq_ediv_of_nonneg s0, Int.tmod_eq_emod_of_nonneg s0, wrap_in (i := L - monthD y j.toNat + 1) (by omega) (by omega), wrap_in (i := S / 3600) (by omega) (by omega), wrap_in (i := S / 60) (by omega) (by omega), Int.tmod_eq_emod_of_nonneg (by omega)]
  | succ r ih =>
    intro j j0 hj k hk
    obtain ⟨k, rfl⟩ : ∃ z, k = z + 1 := ⟨k - 1, by omega⟩
    have hn := monthD_next y j.toNat (by omega)
    rw [show ((j.toNat : Nat) : Int) = j from by omega] at hn
    have hl := monthD_lt y j.toNat m.toNat (by omega) (by omega)
    have gj := monthD_range y j.toNat (by omega) (by omega)
    have hr := monthDays_range y j
    have e : (j + 1).toNat = j.toNat + 1 := by omega
    have hi := ih (j + 1) (by omega) (by omega) k (by omega)
    rw [e, hn] at hi
    simp only [impl_DateAt.l1]
    rw [impl_daysIn_is y j k (by omega)]
    simp only [Option.bind_some]
    rw [if_pos (by omega), wrap_in (i := L - monthD y j.toNat - monthDays y j) (by omega) (by omega), wrap_in (i := j + 1) (by omega) (by omega)]
    rw [show L - monthD y j.toNat - monthDays y j = L - (monthD y j.toNat + monthDays y j) from by omega]
    exact hi
theorem impl_DateAt_years (y m : Int) (L S : Int) (y0 : 1970 ≤ y) (y1 : y ≤ 9999) (h0 : yearD y ≤ L) (h1 : L < yearD (y + 1)) (m0 : 1 ≤ m) (m1 : m ≤ 12) (h2 : monthD y m.toNat ≤ L - yearD y) (h3 : L - yearD y < monthD y (m.toNat + 1)) (s0 : 0 ≤ S) (s1 : S < 86400) (r : Nat) : ∀ (z : Int), 1970 ≤ z → z + r = y → ∀ k, r + 20 < k →
    impl_DateAt.l0 k L S z 1 = some (y, m, L - yearD y - monthD y m.toNat + 1, S / 3600, S / 60 % 60, S % 60) := by
  have g0 := yearD_range y y0 (by omega)
  have g1 := yearD_range (y + 1) (by omega) (by omega)
  induction r with
  | zero =>
    intro z z0 hz k hk
    obtain ⟨k, rfl⟩ : ∃ q, k = q + 1 := ⟨k - 1, by omega⟩
    obtain rfl : z = y := by omega
    simp only [impl_DateAt.l0]
    rw [wrap_in (i := z + 1) (by omega) (by omega), impl_yearDays_is (z + 1) (by omega) (by omega)]
    simp only [Option.bind_some]
    rw [if_neg (by omega), impl_yearDays_is z (by omega) (by omega)]
    simp only [Option.bind_some]
    rw [wrap_in (i := L - yearD z) (by omega) (by omega)]
    have hm := impl_DateAt_months z m (L - yearD z) S m0 m1 h2 h3 s0 s1 (m - 1).toNat 1 (by omega) (by omega) k (by omega)
    rw [show (1 : Int).toNat = 1 from rfl, monthD_one, Int.sub_zero] at hm
    exact hm
  | succ r ih =>
    intro z z0 hz k hk
    obtain ⟨k, rfl⟩ : ∃ q, k = q + 1 := ⟨k - 1, by omega⟩
    have hl := yearD_lt z y (by omega) (by omega)
    simp only [impl_DateAt.l0]
    rw [wrap_in (i := z + 1) (by omega) (by omega), impl_yearDays_is (z + 1) (by omega) (by omega)]
    simp only [Option.bind_some]
    rw [if_pos (by omega)]
    exact ih (z + 1) (by omega) (by omega) k (by omega)
theorem impl_DateAt_at {y m d h n s : Int} (g : Good y m d h n s) (k : Nat) (hk : 9000 ≤ k) : impl_DateAt.f k (momentN y m d h n s) = some (y, m, d, h, n, s) := by
  have hr := momentN_range g
  have hd := dayN_range g
  have hy := dayN_in (by have := g.y0; omega) g.m0 g.m1 g.d0 g.d1
  have hm := day_in g.m0 g.m1 g.d0 g.d1
  have := g.h0; have := g.h1; have := g.n0; have := g.n1; have := g.s0; have := g.s1; have := g.y0; have := g.y1; have := g.d0
  have e1 : momentN y m d h n s / 86400 = dayN y m d := by unfold momentN; omega
  have e2 : momentN y m d h n s % 86400 = h * 3600 + n * 60 + s := by unfold momentN; omega
  unfold impl_DateAt.f
  rw [impl_within_is, show inB (momentN y m d h n s) 0 253402300799 = true from by unfold inB; simp; omega]
  simp only [Option.bind_some, if_true]
  rw [Int.tdiv_eq_ediv_of_nonneg hr.1, Int.tmod_eq_emod_of_nonneg hr.1, e1, e2, wrap_in (i := dayN y m d) (by omega) (by omega), Int.tdiv_eq_ediv_of_nonneg hd.1, wrap_in (i := dayN y m d / 366) (by omega) (by omega), wrap_in (i := 1970 + dayN y m d / 366) (by omega) (by omega)]
  have hb : 1970 + dayN y m d / 366 ≤ y := by
    have h1 := yearD_range y g.y0 (by omega)
    have h2 : yearD (y + 1) ≤ 366 * (y + 1 - 1970) := by unfold yearD; omega
    omega
  have hz := impl_DateAt_years y m (dayN y m d) (h * 3600 + n * 60 + s) g.y0 g.y1 hy.1 hy.2 g.m0 g.m1 (by unfold dayN; omega) (by unfold dayN; omega) (by omega) (by omega) (y - (1970 + dayN y m d / 366)).toNat (1970 + dayN y m d / 366) (by omega) (by omega) k (by omega)
  rw [hz]
  have e3 : dayN y m d - yearD y - monthD y m.toNat + 1 = d := by unfold dayN; omega
  rw [e3, show (h * 3600 + n * 60 + s) / 3600 = h from by omega, show (h * 3600 + n * 60 + s) / 60 % 60 = n from by omega, show (h * 3600 + n * 60 + s) % 60 = s from by omega]
theorem impl_DateAt_out (t : Int) (h : t < 0 ∨ 253402300799 < t) (k : Nat) : impl_DateAt.f k t = some (0, 0, 0, 0, 0, 0) := by
  unfold impl_DateAt.f
  rw [impl_within_is, show inB t 0 253402300799 = false from by unfold inB; simp; omega]
  rfl

end Go.Proofs.Ytdcjobjhccepkaa.Q
