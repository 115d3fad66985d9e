/- Functions of the Go program as Lean functions, and proofs about them, merged out of this session's texts by its program bundle.py; conditions: those that each theorem states. -/
import Derived.Below
import Derived.ChangeOld
import Derived.LaidMore
import Derived.Lay
import Derived.Lib.ItoaNum
import Derived.Lib.Strings
import Derived.OpenShut
import Derived.ProofKit
import Derived.SevenTiedAt
import Derived.ShutString
import Derived.SizedLaws
import Derived.Stop.Joined
import Derived.Test.YtpolkndhjcdheaaDoorBFnExactReadDate1
import Derived.Test.YtpolkndhjcdheaaDoorCards
import Derived.Test.YtpolkndhjcdheaaDoorGFormatInt
import Derived.Test.YtpolkndhjcdheaaDoorGRepeat
import Derived.Test.YtpolkndhjcdheaaDoorP0
import Derived.Test.YtpolkndhjcdheaaDoorPimplDateOk
import Derived.Test.YtpolkndhjcdheaaDoorPimplLeap
import Derived.Test.YtpolkndhjcdheaaDoorPimplShowDate
import Derived.Test.YtpolkndhjcdheaaDoorPimplWeekday
import Derived.Test.YtpolkndhjcdheaaDoorPimpldays
import Derived.Test.YtpolkndhjcdheaaDoorPimpldaysIn
import Derived.Test.YtpolkndhjcdheaaDoorPimpldecimal
import Derived.Test.YtpolkndhjcdheaaDoorPimplpadded
import Derived.Test.YtpolkndhjcdheaaDoorPimplwithin
import Derived.Test.YtpolkndhjcdheaaDoorPimplyearDays
import Derived.Test.YtpolkndhjcdheaaDoorPspecDateOk
import Derived.Test.YtpolkndhjcdheaaDoorPspecLeap
import Derived.Test.YtpolkndhjcdheaaDoorPspecShowDate
import Derived.Test.YtpolkndhjcdheaaDoorPspecWeekday
import Derived.Test.YtpolkndhjcdheaaDoorPspecl1In
import Derived.Test.YtpolkndhjcdheaaDoorPspecl2DayName
import Derived.Test.YtpolkndhjcdheaaDoorPspecl2Days
import Derived.Test.YtpolkndhjcdheaaDoorPspecl2Month
import Derived.Test.YtpolkndhjcdheaaDoorPspecl2MonthName
import Derived.Test.YtpolkndhjcdheaaDoorPspecl2Two
import Derived.Test.YtpolkndhjcdheaaDoorPspecl2Year
import Derived.Test.YtpolkndhjcdheaaDoorRows
import Derived.Test.YtpolkndhjcdheaaDoorTie
import Derived.Test.YtpolkndhjcdheaaDoorXA
import Derived.WalkKit
namespace Go.Proofs.YtpolkndhjcdheaaDoor.P
open Go.RowKit Go.Proofs.YtpolkndhjcdheaaDoorW.PrintWords Go.Proofs.YtpolkndhjcdheaaDoorW.PrintLast Go.Proofs.YtpolkndhjcdheaaDoorW.PrintMore
attribute [local go_sem] max2_int min2_int max_two min_two max_three min_three max_four min_four   -- for this text's walks alone
set_option linter.unusedVariables false
set_option linter.unusedSimpArgs false

/-! ### spec_HexDigits: function 26 -/
mutual
def spec_HexDigits.j0 : Nat → ByteArray → Bool → Option (Int × Bool)
 | 0, _, _ => none
 | k + 1, x0, x14 => if x14 = true then (some (0, false)) else (spec_HexDigits.l0 k x0 0 0)
def spec_HexDigits.l0 : Nat → ByteArray → Int → Int → Option (Int × Bool)
 | 0, _, _, _ => none
 | k + 1, x0, x4, x5 => if x5 < (x0.size : Int) then (if 0 ≤ x5 then ((spec_l1Hex.f k (bt x0 x5)).bind fun t101 => (if t101 < 0 then (some (0, false)) else (spec_HexDigits.l0 k x0 (wrap64 ((wrap64 (x4 * 16)) + t101)) (wrap64 (x5 + 1))))) else (none)) else (some (x4, true))
end
def spec_HexDigits.f (k : Nat) (a0 : ByteArray) : Option (Int × Bool) := if (a0.size : Int) < 1 then (spec_HexDigits.j0 k a0 true) else (spec_HexDigits.j0 k a0 (decide ((a0.size : Int) > 13)))
theorem spec_HexDigits.mono_l : ∀ k, (∀ y0 y1, LeO (spec_HexDigits.j0 k y0 y1) (spec_HexDigits.j0 (k + 1) y0 y1)) ∧ (∀ y0 y1 y2, LeO (spec_HexDigits.l0 k y0 y1 y2) (spec_HexDigits.l0 (k + 1) y0 y1 y2))
 | 0 => ⟨fun _ _ r h => by simp [spec_HexDigits.j0] at h, fun _ _ _ r h => by simp [spec_HexDigits.l0] at h⟩
 | k + 1 => by
  obtain ⟨ih0, ih1⟩ := spec_HexDigits.mono_l k
  refine ⟨?_, ?_⟩
  ·
   intro y0 y1
   unfold spec_HexDigits.j0
   repeat' first
   | (with_reducible exact ih0 _ _)
   | (with_reducible exact ih1 _ _ _)
   | (with_reducible exact spec_l1Hex.mono _ _)
   | (with_reducible exact LeO.refl _)
   | (with_reducible exact LeO.none _)
   | (with_reducible refine LeO.ite ?_ ?_)
   | (with_reducible refine LeO.bind ?_ (fun _ => ?_))
   | exact ih0 _ _
   | exact ih1 _ _ _
   | exact spec_l1Hex.mono _ _
   | exact LeO.none _
   | refine LeO.ite ?_ ?_
   | refine LeO.bind ?_ (fun _ => ?_)
  ·
   intro y0 y1 y2
   unfold spec_HexDigits.l0
   repeat' first
   | (with_reducible exact ih0 _ _)
   | (with_reducible exact ih1 _ _ _)
   | (with_reducible exact spec_l1Hex.mono _ _)
   | (with_reducible exact LeO.refl _)
   | (with_reducible exact LeO.none _)
   | (with_reducible refine LeO.ite ?_ ?_)
   | (with_reducible refine LeO.bind ?_ (fun _ => ?_))
   | exact ih0 _ _
   | exact ih1 _ _ _
   | exact spec_l1Hex.mono _ _
   | exact LeO.none _
   | refine LeO.ite ?_ ?_
   | refine LeO.bind ?_ (fun _ => ?_)
theorem spec_HexDigits.mono : ∀ a0 k, LeO (spec_HexDigits.f k a0) (spec_HexDigits.f (k + 1) a0) := by
 intro a0 k
 obtain ⟨ih0, ih1⟩ := spec_HexDigits.mono_l k
 unfold spec_HexDigits.f
 repeat' first
   | (with_reducible exact ih0 _ _)
   | (with_reducible exact ih1 _ _ _)
   | (with_reducible exact spec_l1Hex.mono _ _)
   | (with_reducible exact LeO.refl _)
   | (with_reducible exact LeO.none _)
   | (with_reducible refine LeO.ite ?_ ?_)
   | (with_reducible refine LeO.bind ?_ (fun _ => ?_))
   | exact ih0 _ _
   | exact ih1 _ _ _
   | exact spec_l1Hex.mono _ _
   | exact LeO.none _
   | refine LeO.ite ?_ ?_
   | refine LeO.bind ?_ (fun _ => ?_)
set_option maxHeartbeats 8000000 in
set_option maxRecDepth 100000 in
theorem spec_HexDigits.calls (k : Nat) (a0 : ByteArray) (r1 : Int) (r2 : Bool) (w : World) (h : spec_HexDigits.f k a0 = some (r1, r2)) :
  Calls Tryd.prog 26 #[.string a0] w fun e w' => e = .returned (.tuple #[.int .i64 r1, .bool r2]) ∧ Drawn0 w w' := by
 have H : (if (a0.size : Int) < 1 then (spec_HexDigits.j0 k a0 true) else (spec_HexDigits.j0 k a0 (decide ((a0.size : Int) > 13)))) = some (r1, r2) := h
 clear h
 have HC2 := Aside0.mk H
 clear H
 go_enter Tryd.func26, Tryd.ntmps26
 go_upto_region 1 with (fail)
 go_cut [14] (fun v14 wc => ∃ (kq : Nat) (x14_1 : Bool), v14 = .bool x14_1 ∧ Aside0 (spec_HexDigits.j0 kq a0 x14_1 = some (r1, r2)) ∧ Aside0 (kq ≤ k) ∧ Drawn0 w wc)
 case first =>
  have H := HC2.out
  clear HC2
  by_cases c3 : (a0.size : Int) < 1
  ·
   rw [if_pos c3] at H
   have c3b0 : decide ((a0.size : Int) < 1) = true := decide_eq_true c3
   have c3b1 : decide (a0.size < 1) = true := decide_eq_true (by omega)
   clear c3
   (first | rw [c3b0] | (simp only [i64_w, i32_w]; rw [c3b0]) | skip)
   have H' := Aside0.mk H
   clear H
   go_wp2
   go_meet
   case rel => exact ⟨_, (true), (by first | rfl | (simp; done) | (simp [*]; done)), H', ⟨by first | omega | exact Nat.le_refl _⟩, by repeat (first | exact Drawn0.refl _ | apply Drawn0.step)⟩
  ·
   rw [if_neg c3] at H
   have c3b0 : decide ((a0.size : Int) < 1) = false := decide_eq_false c3
   have c3b1 : decide (a0.size < 1) = false := decide_eq_false (by omega)
   clear c3
   (first | rw [c3b0] | (simp only [i64_w, i32_w]; rw [c3b0]) | skip)
   have H' := Aside0.mk H
   clear H
   go_wp2
   go_meet
   case rel => exact ⟨_, (decide ((a0.size : Int) > 13)), (by first | rfl | (simp; done) | (simp [*]; done)), H', ⟨by first | omega | exact Nat.le_refl _⟩, by repeat (first | exact Drawn0.refl _ | apply Drawn0.step)⟩
 case rest =>
  clear HC2
  try clear c2
  try clear p2
  try clear c3
  try clear c3b0
  try clear c3b1
  obtain ⟨kq, x14_1, rfl, HA, HJ1, ⟨mc1, rfl⟩⟩ := hcut
  cases kq with
  | zero => exact absurd HA.out (by simp [spec_HexDigits.j0])
  | succ kj1 =>
   have H := HA.out
   clear HA
   simp only [spec_HexDigits.j0] at H
   by_cases c4 : x14_1 = true
   ·
    subst c4
    have H1 : (some (0, false)) = some (r1, r2) := by rw [if_pos rfl] at H; exact H
    clear H
    have H := H1
    clear H1
    simp only [Option.some.injEq, Prod.mk.injEq] at H
    obtain ⟨rfl, rfl⟩ := H
    go_wp2
    go_ret2
    exact ⟨by first | rfl | (simp; done) | (simp [*]; done), by repeat (first | exact Drawn0.refl _ | apply Drawn0.step)⟩
   ·
    replace c4 := Bool.eq_false_iff.mpr c4
    subst c4
    have H1 : (spec_HexDigits.l0 kj1 a0 0 0) = some (r1, r2) := by rw [if_neg (show ¬ (false = true) by decide)] at H; exact H
    clear H
    have H := H1
    clear H1
    have H' := Aside0.mk H
    clear H
    go_wp2
    go_loopg [4, 5] kj1 (fun kq v4 v5 w' => ∃ (x4_2 : Int) (x5_2 : Int), v4 = .int .i64 x4_2 ∧ v5 = .int .i64 x5_2 ∧ Aside0 (spec_HexDigits.l0 kq a0 x4_2 x5_2 = some (r1, r2)) ∧ Aside0 (kq ≤ kj1) ∧ Drawn0 w w')
    case atStart => exact ⟨(0), (0), (by first | rfl | (simp; done) | (simp [*]; done)), (by first | rfl | (simp; done) | (simp [*]; done)), H', ⟨Nat.le_refl _⟩, by repeat (first | exact Drawn0.refl _ | apply Drawn0.step)⟩
    case round =>
     clear H'
     try clear c1
     try clear c2
     try clear p2
     try clear c3
     try clear c3b0
     try clear c3b1
     try clear c4
     try clear p2
     obtain ⟨x4_2, x5_2, rfl, rfl, HA, HK2, ⟨m2, rfl⟩⟩ := hrel
     cases gk with
     | zero => exact absurd HA.out (by simp [spec_HexDigits.l0])
     | succ k2 =>
      have H := HA.out
      clear HA
      simp only [spec_HexDigits.l0] at H
      by_cases c5 : x5_2 < (a0.size : Int)
      ·
       rw [if_pos c5] at H
       have c5b0 : decide (x5_2 < (a0.size : Int)) = true := decide_eq_true c5
       clear c5
       by_cases c6 : 0 ≤ x5_2
       ·
        rw [if_pos c6] at H
        have c6b0 : decide (0 ≤ x5_2) = true := decide_eq_true c6
        clear c6
        obtain ⟨t101, A80, H⟩ := Option.bind_eq_some_iff.mp H
        try dsimp only at H
        have A8 := Aside0.mk A80
        clear A80
        by_cases c9 : t101 < 0
        ·
         rw [if_pos c9] at H
         have c9b0 : decide (t101 < 0) = true := decide_eq_true c9
         clear c9
         simp only [Option.some.injEq, Prod.mk.injEq] at H
         obtain ⟨rfl, rfl⟩ := H
         have p7 : 0 ≤ (x5_2 : Int) := of_decide_eq_true (by first | (with_reducible assumption) | assumption)
         have q7 : x5_2 < (a0.size : Int) := of_decide_eq_true (by first | (with_reducible assumption) | assumption)
         have hx7 := bt_at a0 x5_2
         replace p7 := eq_true p7
         replace q7 := eq_true q7
         go_wp2_with (first | ((with_reducible refine gate_callee (f := 54) rfl ?_); refine goesL_ (some 24) rfl rfl Tryd.func54 (by kernel_rfl) rfl #[.int .u8 (bt a0 x5_2)] rfl mc ?_; (with_reducible refine (spec_l1Hex.calls k2 (bt a0 x5_2) t101 _ A8.out).mono ?_); rintro e w' ⟨rfl, ⟨nd, rfl⟩⟩; refine ⟨_, rfl, ?_⟩))
         go_ret2
         exact ⟨by first | rfl | (simp; done) | (simp [*]; done), by repeat (first | exact Drawn0.refl _ | apply Drawn0.step)⟩
        ·
         rw [if_neg c9] at H
         have c9b0 : decide (t101 < 0) = false := decide_eq_false c9
         clear c9
         have H' := Aside0.mk H
         clear H
         have p7 : 0 ≤ (x5_2 : Int) := of_decide_eq_true (by first | (with_reducible assumption) | assumption)
         have q7 : x5_2 < (a0.size : Int) := of_decide_eq_true (by first | (with_reducible assumption) | assumption)
         have hx7 := bt_at a0 x5_2
         replace p7 := eq_true p7
         replace q7 := eq_true q7
         go_wp2_with (first | ((with_reducible refine gate_callee (f := 54) rfl ?_); refine goesL_ (some 24) rfl rfl Tryd.func54 (by kernel_rfl) rfl #[.int .u8 (bt a0 x5_2)] rfl mc ?_; (with_reducible refine (spec_l1Hex.calls k2 (bt a0 x5_2) t101 _ A8.out).mono ?_); rintro e w' ⟨rfl, ⟨nd, rfl⟩⟩; refine ⟨_, rfl, ?_⟩))
         go_roundg k2
         case measure => have := HJ1.out; have := HK2.out; omega
         case rel => exact ⟨(wrap64 ((wrap64 (x4_2 * 16)) + t101)), (wrap64 (x5_2 + 1)), (by first | rfl | (simp; done) | (simp [*]; done)), (by first | rfl | (simp; done) | (simp [*]; done)), H', ⟨by have := HJ1.out; have := HK2.out; omega⟩, by repeat (first | exact Drawn0.refl _ | apply Drawn0.step)⟩
       ·
        rw [if_neg c6] at H
        exact absurd H (by simp)
      ·
       rw [if_neg c5] at H
       have c5b0 : decide (x5_2 < (a0.size : Int)) = false := decide_eq_false c5
       clear c5
       simp only [Option.some.injEq, Prod.mk.injEq] at H
       obtain ⟨rfl, rfl⟩ := H
       go_wp2
       go_ret2
       exact ⟨by first | rfl | (simp; done) | (simp [*]; done), by repeat (first | exact Drawn0.refl _ | apply Drawn0.step)⟩
end Go.Proofs.YtpolkndhjcdheaaDoor.P
namespace Go.Proofs.YtpolkndhjcdheaaDoor.Q
set_option linter.unusedVariables false
set_option linter.unusedSimpArgs false
open Go.RowKit Go.Proofs.YtpolkndhjcdheaaDoor.P Go.Proofs.YtpolkndhjcdheaaDoorW.PrintWords Go.Proofs.YtpolkndhjcdheaaDoorW.PrintLast Go.Proofs.YtpolkndhjcdheaaDoorW.PrintMore

theorem dgt_hex (c : Int) : dgt c = hexV c := by
  unfold dgt hexV digB
  by_cases h : 48 ≤ c ∧ c ≤ 57
  · rw [if_pos h, if_pos (by simp [h])]
  · have hb : (decide (48 ≤ c) && decide (c ≤ 57)) = false := by simp; omega
    rw [if_neg h, hb]
    simp
theorem hexV_lt (c : Int) : hexV c < 16 := by
  rw [← dgt_hex]
  unfold dgt
  split
  · omega
  · split
    · omega
    · split <;> omega
theorem hexB_is (c : Int) : hexB c = (decide (0 ≤ dgt c) && decide (dgt c < 16)) := by
  have h1 := hexV_neg c
  have h2 := hexV_lt c
  rw [dgt_hex, decide_eq_true h2, Bool.and_true]
  by_cases h : 0 ≤ hexV c
  · rw [decide_eq_false (by omega : ¬ hexV c < 0)] at h1
    rw [decide_eq_true h]
    cases hb : hexB c
    · rw [hb] at h1; cases h1
    · rfl
  · rw [decide_eq_true (by omega : hexV c < 0)] at h1
    rw [decide_eq_false h]
    cases hb : hexB c
    · rfl
    · rw [hb] at h1; cases h1
theorem digB_is (c : Int) : digB c = (decide (0 ≤ dgt c) && decide (dgt c < 10)) := by
  unfold digB dgt
  by_cases h : 48 ≤ c ∧ c ≤ 57
  · rw [if_pos h]
    have a : 0 ≤ c - 48 := by omega
    have b : c - 48 < 10 := by omega
    simp [h, a, b]
  · rw [if_neg h]
    have : (decide (48 ≤ c) && decide (c ≤ 57)) = false := by simp; omega
    rw [this]
    split
    · have : ¬ c - 87 < 10 := by omega
      simp [this]
    · split
      · have : ¬ c - 55 < 10 := by omega
        simp [this]
      · simp
theorem dgt_dig {c : Int} (h : digB c = true) : dgt c = c - 48 ∧ 48 ≤ c ∧ c ≤ 57 := by
  unfold digB at h
  simp at h
  unfold dgt
  rw [if_pos h]
  exact ⟨rfl, h⟩
theorem all_okB16 (l : List Int) : l.all hexB = okB 16 l := all_congr' fun c _ => hexB_is c
theorem all_okB10 (l : List Int) : l.all digB = okB 10 l := all_congr' fun c _ => digB_is c
/-- A text's number at a base, if it has one to so many digits. -/
def numOk (b : Int) (m : Nat) (p : Int → Bool) (s : ByteArray) : Int × Bool := if 1 ≤ s.size ∧ s.size ≤ m ∧ (bytesOf s).all p = true then (numB b (bytesOf s), true) else (0, false)
theorem runL_num (b : Int) (p : Int → Bool) (l : List Int) (st : Int) :
    runL (fun (st : Int) c => if p c = true then .inl (st * b + dgt c) else .inr ((0 : Int), false)) (fun st => (st, true)) l st = if l.all p = true then (l.foldl (fun n c => n * b + dgt c) st, true) else (0, false) := by
  induction l generalizing st with
  | nil => rfl
  | cons c cs ih =>
    rw [List.all_cons]
    unfold runL
    by_cases hp : p c = true
    · simp only [hp, if_true, Bool.true_and, ih, List.foldl_cons]
    · simp only [(by simpa using hp : p c = false), Bool.false_and, Bool.false_eq_true, if_false]
theorem num_next {b st d : Int} {i : Nat} (hb : 0 ≤ b) (h0 : 0 ≤ st) (h1 : st < b ^ i) (d0 : 0 ≤ d) (d1 : d < b) : 0 ≤ st * b ∧ 0 ≤ st * b + d ∧ st * b + d < b ^ (i + 1) := by
  have a := Int.mul_nonneg h0 hb
  rw [Int.pow_succ]
  have : (st + 1) * b ≤ b ^ i * b := Int.mul_le_mul_of_nonneg_right (by omega) hb
  rw [Int.add_mul, Int.one_mul] at this
  omega
theorem num_loop (b : Int) (hb : b = 10 ∨ b = 16) (m : Nat) (hm : (b = 10 ∧ m ≤ 15) ∨ (b = 16 ∧ m ≤ 13)) (p : Int → Bool) (hp : ∀ c, p c = true → 0 ≤ dgt c ∧ dgt c < b) (s : ByteArray) (hs : s.size ≤ m) (g : Nat → Int → Int → Option (Int × Bool)) (K : Nat)
    (h1 : ∀ k (st : Int) (i : Nat), K ≤ k → i < s.size → p (bt s i) = true → wrap64 (st * b) = st * b → wrap64 (st * b + dgt (bt s i)) = st * b + dgt (bt s i) → g (k + 1) st i = g k (st * b + dgt (bt s i)) ((i + 1 : Nat) : Int))
    (h0 : ∀ k (st : Int) (i : Nat), K ≤ k → i < s.size → p (bt s i) = false → g (k + 1) st i = some (0, false))
    (he : ∀ k (st : Int), K ≤ k → g (k + 1) st (s.size : Int) = some (st, true)) : Ev (fun k => g k 0 0) (if (bytesOf s).all p = true then (numB b (bytesOf s), true) else (0, false)) := by
  have hr := ev_run s (fun (st : Int) i => 0 ≤ st ∧ st < b ^ i) (fun (st : Int) c => if p c = true then .inl (st * b + dgt c) else .inr ((0 : Int), false)) (fun st => (st, true)) g K
    (fun k st i hk hi hI => ⟨fun st' e => (by
        by_cases hq : p (bt s i) = true
        · rw [if_pos hq] at e
          obtain rfl : st * b + dgt (bt s i) = st' := by injection e
          obtain ⟨d0, d1⟩ := hp _ hq
          obtain ⟨a0, a1, a2⟩ := num_next (b := b) (by omega) hI.1 hI.2 d0 d1
          have hw := pow_small hb hm (k := i + 1) (by omega)
          exact ⟨h1 k st i hk hi hq (wrap_in (by omega) (by omega)) (wrap_in (by omega) (by omega)), a1, a2⟩
        · rw [if_neg hq] at e; cases e),
      fun r e => (by
        by_cases hq : p (bt s i) = true
        · rw [if_pos hq] at e; cases e
        · rw [if_neg hq] at e
          obtain rfl : ((0 : Int), false) = r := by injection e
          exact h0 k st i hk hi (by simpa using hq))⟩)
    (fun k st hk _ => he k st hk) 0 ⟨by omega, by simp⟩
  rw [runL_num] at hr
  exact hr
theorem spec_Digits_ev (s : ByteArray) : Ev (fun k => spec_Digits.f k s) (numOk 10 15 digB s) := by
  have no : Ev (fun k => spec_Digits.j0 k s true) ((0 : Int), false) := Ev.step (f := fun _ => some (0, false)) (fun k => by simp only [spec_Digits.j0, if_true]) (Ev.now _)
  unfold spec_Digits.f numOk
  by_cases h1 : (s.size : Int) < 1
  · simp only [if_pos h1]
    rw [if_neg (by omega)]
    exact no
  · simp only [if_neg h1]
    by_cases h2 : (s.size : Int) > 15
    · rw [decide_eq_true h2, if_neg (by omega)]
      exact no
    · rw [decide_eq_false h2]
      refine Ev.step (f := fun k => spec_Digits.l0 k s 0 0) (fun k => by simp only [spec_Digits.j0, Bool.false_eq_true, if_false]) ?_
      refine ev_eq (num_loop 10 (.inl rfl) 15 (.inl ⟨rfl, Nat.le_refl _⟩) digB (fun c h => by obtain ⟨a, b, c⟩ := dgt_dig h; omega) s (by omega) (fun k st i => spec_Digits.l0 k s st i) 0 (fun k st i _ hi hq w1 w2 => ?_) (fun k st i _ hi hq => ?_) (fun k st _ => ?_)) ?_
      · obtain ⟨e, c0, c1⟩ := dgt_dig hq
        rw [e] at w2
        simp only [spec_Digits.l0]
        rw [if_pos (by omega), if_pos (by omega), if_neg (by omega), if_neg (by omega), wrap_next hi (by omega), w1, Int.emod_eq_of_lt (by omega) (by omega), w2, e]
      · unfold digB at hq
        simp at hq
        simp only [spec_Digits.l0]
        rw [if_pos (by omega), if_pos (by omega)]
        by_cases h3 : bt s i < 48
        · rw [if_pos h3]
        · rw [if_neg h3, if_pos (by omega)]
      · simp only [spec_Digits.l0]
        rw [if_neg (by omega)]
      · have a : 1 ≤ s.size := by omega
        have b : s.size ≤ 15 := by omega
        simp only [a, b, true_and]
theorem impl_Digits_is (s : ByteArray) : impl_Digits.f s = some (numOk 10 15 digB s) := by
  unfold impl_Digits.f numOk
  by_cases h1 : (s.size : Int) < 1
  · rw [if_pos h1, if_neg (by omega)]
  · rw [if_neg h1]
    by_cases h2 : (s.size : Int) > 15
    · rw [if_pos h2, if_neg (by omega)]
    · rw [if_neg h2, all_dig s (by omega)]
      simp only [Option.bind_some]
      have a : 1 ≤ s.size := by omega
      have b : s.size ≤ 15 := by omega
      by_cases h3 : (bytesOf s).all digB = true
      · rw [if_pos h3, if_pos ⟨a, b, h3⟩]
        unfold strconv_ParseInt.f
        rw [if_pos ⟨rfl, by omega, by rw [← all_okB10]; exact h3, .inr ⟨rfl, b⟩⟩]
        rfl
      · rw [if_neg h3, if_neg (by intro h; exact h3 h.2.2)]
theorem spec_HexDigits_ev (s : ByteArray) : Ev (fun k => spec_HexDigits.f k s) (numOk 16 13 hexB s) := by
  have no : Ev (fun k => spec_HexDigits.j0 k s true) ((0 : Int), false) := Ev.step (f := fun _ => some (0, false)) (fun k => by simp only [spec_HexDigits.j0, if_true]) (Ev.now _)
  unfold spec_HexDigits.f numOk
  by_cases h1 : (s.size : Int) < 1
  · simp only [if_pos h1]
    rw [if_neg (by omega)]
    exact no
  · simp only [if_neg h1]
    by_cases h2 : (s.size : Int) > 13
    · rw [decide_eq_true h2, if_neg (by omega)]
      exact no
    · rw [decide_eq_false h2]
      refine Ev.step (f := fun k => spec_HexDigits.l0 k s 0 0) (fun k => by simp only [spec_HexDigits.j0, Bool.false_eq_true, if_false]) ?_
      refine ev_eq (num_loop 16 (.inr rfl) 13 (.inr ⟨rfl, Nat.le_refl _⟩) hexB (fun c h => by rw [hexB_is] at h; simpa using h) s (by omega) (fun k st i => spec_HexDigits.l0 k s st i) 2 (fun k st i hk hi hq w1 w2 => ?_) (fun k st i hk hi hq => ?_) (fun k st _ => ?_)) ?_
      · have hr := bt_range s i
        have hn := hexV_neg (bt s i)
        rw [hq] at hn
        rw [dgt_hex] at w2 ⊢
        simp only [spec_HexDigits.l0]
        rw [if_pos (by omega), if_pos (by omega), spec_l1Hex_is _ hr.1 hr.2 k hk, wrap_next hi (by omega)]
        simp only [Option.bind_some]
        rw [if_neg (by simpa using hn), w1, w2]
      · have hr := bt_range s i
        have hn := hexV_neg (bt s i)
        rw [hq] at hn
        simp only [spec_HexDigits.l0]
        rw [if_pos (by omega), if_pos (by omega), spec_l1Hex_is _ hr.1 hr.2 k hk]
        simp only [Option.bind_some]
        rw [if_pos (by simpa using hn)]
      · simp only [spec_HexDigits.l0]
        rw [if_neg (by omega)]
      · have a : 1 ≤ s.size := by omega
        have b : s.size ≤ 13 := by omega
        simp only [a, b, true_and]
theorem impl_HexDigits_is (s : ByteArray) : impl_HexDigits.f s = some (numOk 16 13 hexB s) := by
  unfold impl_HexDigits.f numOk
  by_cases h1 : (s.size : Int) < 1
  · rw [if_pos h1, if_neg (by omega)]
  · rw [if_neg h1]
    by_cases h2 : (s.size : Int) > 13
    · rw [if_pos h2, if_neg (by omega)]
    · rw [if_neg h2, all_hex s (by omega)]
      simp only [Option.bind_some]
      have a : 1 ≤ s.size := by omega
      have b : s.size ≤ 13 := by omega
      by_cases h3 : (bytesOf s).all hexB = true
      · rw [if_pos h3, if_pos ⟨a, b, h3⟩]
        unfold strconv_ParseInt.f
        rw [if_pos ⟨rfl, by omega, by rw [← all_okB16]; exact h3, .inl ⟨rfl, b⟩⟩]
        rfl
      · rw [if_neg h3, if_neg (by intro h; exact h3 h.2.2)]
theorem bytes_extract (s : ByteArray) (a b : Nat) : bytesOf (s.extract a b) = ((bytesOf s).drop a).take (b - a) := by
  unfold bytesOf
  rw [Lib.extract_data, List.map_take, List.map_drop]
theorem bytes_last (s : ByteArray) (h : 0 < s.size) : bytesOf s = bytesOf (s.extract 0 (s.size - 1)) ++ [bt s ((s.size - 1 : Nat) : Int)] := by
  rw [bytes_extract, List.drop_zero, Nat.sub_zero]
  have h1 := drop_bt s (s.size - 1) (by omega)
  have h2 : (bytesOf s).drop (s.size - 1 + 1) = [] := List.drop_of_length_le (by rw [bytesOf_length]; omega)
  rw [h2] at h1
  rw [← h1, List.take_append_drop]
theorem bytes_first (s : ByteArray) (h : 0 < s.size) : bytesOf s = bt s 0 :: bytesOf (s.extract 1 s.size) := by
  rw [bytes_extract]
  have h1 := drop_bt s 0 h
  rw [List.drop_zero] at h1
  rw [List.take_of_length_le (by rw [List.length_drop, bytesOf_length]; exact Nat.le_refl _)]
  exact h1
theorem size_extract (s : ByteArray) (a b : Nat) (hb : b ≤ s.size) : (s.extract a b).size = b - a := by
  rw [← bytesOf_length, bytes_extract, List.length_take, List.length_drop, bytesOf_length]
  omega
theorem toList_nil (s : ByteArray) : s.toList = [] ↔ s.size = 0 := by
  rw [toList_data, ← data_length]
  exact List.length_eq_zero_iff.symm
theorem bytes_nil (s : ByteArray) (h : s.size = 0) : bytesOf s = [] := List.eq_nil_of_length_eq_zero (by rw [bytesOf_length]; exact h)
theorem bytes_ofList (l : List UInt8) : bytesOf ⟨l.toArray⟩ = l.map fun b => (b.toNat : Int) := by
  unfold bytesOf
  rfl
theorem bytes_two (s : ByteArray) (i : Nat) (h : i + 2 ≤ s.size) : bytesOf (s.extract i (i + 2)) = [bt s (i : Int), bt s ((i + 1 : Nat) : Int)] := by
  rw [bytes_extract, drop_bt s i (by omega), drop_bt s (i + 1) (by omega), show i + 2 - i = 2 from by omega]
  rfl
def inB (x a b : Int) : Bool := decide (a ≤ x) && decide (x ≤ b)
theorem spec_l1In_is (x a b : Int) : spec_l1In.f x a b = some (inB x a b) := by
  unfold spec_l1In.f inB
  by_cases h : x ≥ a
  · rw [if_pos h, decide_eq_true (by omega : a ≤ x), Bool.true_and]
  · rw [if_neg h, decide_eq_false (by omega : ¬ a ≤ x), Bool.false_and]
theorem impl_within_is (x a b : Int) : impl_within.f x a b = some (inB x a b) := by
  unfold impl_within.f inB
  by_cases h : x ≥ a
  · rw [if_pos h, decide_eq_true (by omega : a ≤ x), Bool.true_and]
  · rw [if_neg h, decide_eq_false (by omega : ¬ a ≤ x), Bool.false_and]
theorem inB_true {x a b : Int} (h : inB x a b = true) : a ≤ x ∧ x ≤ b := by unfold inB at h; simpa using h
def leapB (y : Int) : Bool := if Int.tmod y 4 = 0 then (if Int.tmod y 100 = 0 then Int.tmod y 400 == 0 else true) else Int.tmod y 400 == 0
theorem spec_Leap_is (y : Int) : spec_Leap.f y = some (leapB y) := by
  unfold spec_Leap.f leapB
  split
  · split <;> rfl
  · rfl
theorem impl_Leap_is (y : Int) : impl_Leap.f y = some (leapB y) := spec_Leap_is y
/-- How many days a month has. -/
def monthDays (y m : Int) : Int := if m = 2 then (if leapB y = true then 29 else 28) else if m = 4 ∨ m = 6 ∨ m = 9 ∨ m = 11 then 30 else 31
theorem monthDays_range (y m : Int) : 28 ≤ monthDays y m ∧ monthDays y m ≤ 31 := by
  unfold monthDays
  split
  · split <;> omega
  · split <;> omega
theorem spec_l2Month_is (y m : Int) (h0 : 1 ≤ m) (h1 : m ≤ 12) : spec_l2Month.f y m = some (monthDays y m) := by
  unfold spec_l2Month.f monthDays
  rw [spec_Leap_is]
  have hm : m = 1 ∨ m = 2 ∨ m = 3 ∨ m = 4 ∨ m = 5 ∨ m = 6 ∨ m = 7 ∨ m = 8 ∨ m = 9 ∨ m = 10 ∨ m = 11 ∨ m = 12 := by omega
  rcases hm with rfl | rfl | rfl | rfl | rfl | rfl | rfl | rfl | rfl | rfl | rfl | rfl
  all_goals
    clear h0 h1
    generalize leapB y = b
    cases b <;> decide +kernel
theorem impl_daysIn_is (y m : Int) (k : Nat) (hk : 1 ≤ k) : impl_daysIn.f k y m = some (monthDays y m) := by
  obtain ⟨k, rfl⟩ : ∃ n, k = n + 1 := ⟨k - 1, by omega⟩
  unfold impl_daysIn.f monthDays
  simp only [impl_daysIn.j0, impl_Leap_is, Option.bind_some]
  by_cases h4 : m = 4
  · subst h4; simp
  · rw [if_neg h4]
    by_cases h6 : m = 6
    · subst h6; simp
    · rw [if_neg h6]
      by_cases h9 : m = 9
      · subst h9; simp
      · rw [if_neg h9]
        by_cases h11 : m = 11
        · subst h11; simp
        · have hb : (m == 11) = false := by simpa using h11
          by_cases h2 : m = 2
          · subst h2
            cases leapB y <;> simp
          · simp [hb, h2, h4, h6, h9, h11]
def dateOk (y m d h n s : Int) : Bool := inB y 1970 9999 && (inB m 1 12 && (inB d 1 (monthDays y m) && (inB h 0 23 && (inB n 0 59 && inB s 0 59))))
theorem spec_DateOk_is (y m d h n s : Int) : spec_DateOk.f y m d h n s = some (dateOk y m d h n s) := by
  unfold spec_DateOk.f dateOk
  simp only [spec_l1In_is, Option.bind_some]
  cases h1 : inB y 1970 9999
  · simp
  · cases h2 : inB m 1 12
    · simp
    · obtain ⟨a, b⟩ := inB_true h2
      simp only [if_true, spec_l2Month_is y m a b, Option.bind_some, Bool.true_and]
      cases inB d 1 (monthDays y m) <;> cases inB h 0 23 <;> cases inB n 0 59 <;> simp
theorem impl_DateOk_is (y m d h n s : Int) (k : Nat) (hk : 1 ≤ k) : impl_DateOk.f k y m d h n s = some (dateOk y m d h n s) := by
  unfold impl_DateOk.f dateOk
  simp only [impl_within_is, impl_daysIn_is y m k hk, Option.bind_some]
  cases h1 : inB y 1970 9999
  · simp
  · cases h2 : inB m 1 12
    · simp
    · cases inB d 1 (monthDays y m) <;> cases inB h 0 23 <;> cases inB n 0 59 <;> simp
/-- The days ahead of a year. -/
def yearD (y : Int) : Int := 365 * (y - 1970) + (y - 1) / 4 - (y - 1) / 100 + (y - 1) / 400 - 477
def leapN (y : Int) : Int := if leapB y = true then 1 else 0
theorem leapB_iff (y : Int) (h : 0 ≤ y) : leapB y = true ↔ (y % 4 = 0 ∧ y % 100 ≠ 0) ∨ y % 400 = 0 := by
  unfold leapB
  rw [Int.tmod_eq_emod_of_nonneg h, Int.tmod_eq_emod_of_nonneg h, Int.tmod_eq_emod_of_nonneg h]
  by_cases h4 : y % 4 = 0
  · rw [if_pos h4]
    by_cases h1 : y % 100 = 0
    · rw [if_pos h1]; simp; omega
    · rw [if_neg h1]; simp; omega
  · rw [if_neg h4]; simp; omega
theorem yearD_next (y : Int) (h : 0 ≤ y) : yearD (y + 1) = yearD y + 365 + leapN y := by
  unfold yearD leapN
  by_cases hl : leapB y = true
  · rw [if_pos hl]
    have := (leapB_iff y h).1 hl
    omega
  · rw [if_neg hl]
    have : ¬ ((y % 4 = 0 ∧ y % 100 ≠ 0) ∨ y % 400 = 0) := fun h' => hl ((leapB_iff y h).2 h')
    omega
theorem leapN_range (y : Int) : 0 ≤ leapN y ∧ leapN y ≤ 1 := by unfold leapN; split <;> omega
theorem yearD_range (y : Int) (h0 : 1970 ≤ y) (h1 : y ≤ 10000) : 0 ≤ yearD y ∧ yearD y ≤ 2932897 := by unfold yearD; omega
theorem yearD_mono (y : Int) (n : Nat) (h : 0 ≤ y) : yearD y + 365 * n ≤ yearD (y + n) := by
  induction n with
  | zero => simp
  | succ n ih =>
    have h1 := yearD_next (y + n) (by omega)
    have h2 := leapN_range (y + n)
    rw [show y + ((n + 1 : Nat) : Int) = y + n + 1 from by omega]
    omega
theorem yearD_lt (y z : Int) (h : 0 ≤ y) (hz : y < z) : yearD (y + 1) ≤ yearD z := by
  have := yearD_mono (y + 1) (z - (y + 1)).toNat (by omega)
  rw [show y + 1 + ((z - (y + 1)).toNat : Int) = z from by omega] at this
  omega
/-- The days of a year ahead of a month. -/
def monthD (y : Int) : Nat → Int
  | 0 => 0
  | m + 1 => if m = 0 then 0 else monthD y m + monthDays y m
theorem monthD_one (y : Int) : monthD y 1 = 0 := rfl
theorem monthD_next (y : Int) (m : Nat) (h : 1 ≤ m) : monthD y (m + 1) = monthD y m + monthDays y m := by
  show (if m = 0 then 0 else monthD y m + monthDays y m) = _
  rw [if_neg (by omega)]
theorem monthD_mono (y : Int) (m n : Nat) (h : 1 ≤ m) : monthD y m + 28 * n ≤ monthD y (m + n) := by
  induction n with
  | zero => simp
  | succ n ih =>
    have h1 := monthD_next y (m + n) (by omega)
    have h2 := monthDays_range y ((m + n : Nat) : Int)
    rw [show m + (n + 1) = m + n + 1 from by omega]
    omega
theorem monthD_lt (y : Int) (m n : Nat) (h : 1 ≤ m) (hn : m < n) : monthD y (m + 1) ≤ monthD y n := by
  have := monthD_mono y (m + 1) (n - (m + 1)) (by omega)
  rw [show m + 1 + (n - (m + 1)) = n from by omega] at this
  omega
theorem monthD_all (y : Int) : monthD y 13 = 365 + leapN y := by
  simp only [monthD_next y _ (by omega : 1 ≤ 12), monthD_next y _ (by omega : 1 ≤ 11), monthD_next y _ (by omega : 1 ≤ 10), monthD_next y _ (by omega : 1 ≤ 9), monthD_next y _ (by omega : 1 ≤ 8), monthD_next y _ (by omega : 1 ≤ 7), monthD_next y _ (by omega : 1 ≤ 6), monthD_next y _ (by omega : 1 ≤ 5), monthD_next y _ (by omega : 1 ≤ 4), monthD_next y _ (by omega : 1 ≤ 3), monthD_next y _ (by omega : 1 ≤ 2), monthD_next y _ (by omega : 1 ≤ 1), monthD_one]
  unfold leapN monthDays
  cases leapB y <;> simp
theorem monthD_range (y : Int) (m : Nat) (h0 : 1 ≤ m) (h1 : m ≤ 13) : 0 ≤ monthD y m ∧ monthD y m ≤ 366 := by
  have a := monthD_mono y 1 (m - 1) (Nat.le_refl _)
  have b := monthD_mono y m (13 - m) h0
  rw [show 1 + (m - 1) = m from by omega, monthD_one] at a
  rw [show m + (13 - m) = 13 from by omega, monthD_all] at b
  have := leapN_range y
  omega
/-- The days ahead of a date, its moment. -/
def dayN (y m d : Int) : Int := yearD y + monthD y m.toNat + d - 1
def momentN (y m d h n s : Int) : Int := dayN y m d * 86400 + h * 3600 + n * 60 + s
structure Good (y m d h n s : Int) : Prop where
  y0 : 1970 ≤ y
  y1 : y ≤ 9999
  m0 : 1 ≤ m
  m1 : m ≤ 12
  d0 : 1 ≤ d
  d1 : d ≤ monthDays y m
  h0 : 0 ≤ h
  h1 : h ≤ 23
  n0 : 0 ≤ n
  n1 : n ≤ 59
  s0 : 0 ≤ s
  s1 : s ≤ 59
theorem good_iff (y m d h n s : Int) : dateOk y m d h n s = true ↔ Good y m d h n s := by
  unfold dateOk inB
  simp only [Bool.and_eq_true, decide_eq_true_eq]
  constructor
  · rintro ⟨⟨a, b⟩, ⟨c, d⟩, ⟨e, f⟩, ⟨g, h⟩, ⟨i, j⟩, k, l⟩
    exact ⟨a, b, c, d, e, f, g, h, i, j, k, l⟩
  · intro g
    exact ⟨⟨g.y0, g.y1⟩, ⟨g.m0, g.m1⟩, ⟨g.d0, g.d1⟩, ⟨g.h0, g.h1⟩, ⟨g.n0, g.n1⟩, g.s0, g.s1⟩
/-- A day of a year lies within it, a day of a month within that. -/
theorem day_in {y m d : Int} (hm0 : 1 ≤ m) (hm1 : m ≤ 12) (hd0 : 1 ≤ d) (hd1 : d ≤ monthDays y m) : 0 ≤ monthD y m.toNat + d - 1 ∧ monthD y m.toNat + d - 1 < monthD y (m.toNat + 1) ∧ monthD y (m.toNat + 1) ≤ 365 + leapN y := by
  have h1 := monthD_next y m.toNat (by omega)
  rw [show ((m.toNat : Nat) : Int) = m from by omega] at h1
  have h2 := monthD_range y m.toNat (by omega) (by omega)
  have h3 := monthD_mono y (m.toNat + 1) (12 - m.toNat) (by omega)
  rw [show m.toNat + 1 + (12 - m.toNat) = 13 from by omega, monthD_all] at h3
  omega
theorem dayN_in {y m d : Int} (hy : 0 ≤ y) (hm0 : 1 ≤ m) (hm1 : m ≤ 12) (hd0 : 1 ≤ d) (hd1 : d ≤ monthDays y m) : yearD y ≤ dayN y m d ∧ dayN y m d < yearD (y + 1) := by
  have := day_in hm0 hm1 hd0 hd1
  have h2 := yearD_next y hy
  unfold dayN
  omega
theorem dayN_range {y m d h n s : Int} (g : Good y m d h n s) : 0 ≤ dayN y m d ∧ dayN y m d ≤ 2932896 := by
  have h1 := dayN_in (by have := g.y0; omega) g.m0 g.m1 g.d0 g.d1
  have h2 := yearD_range y g.y0 (by have := g.y1; omega)
  have h3 := yearD_range (y + 1) (by have := g.y0; omega) (by have := g.y1; omega)
  omega
theorem momentN_range {y m d h n s : Int} (g : Good y m d h n s) : 0 ≤ momentN y m d h n s ∧ momentN y m d h n s ≤ 253402300799 := by
  have h1 := dayN_range g
  have := g.h0; have := g.h1; have := g.n0; have := g.n1; have := g.s0; have := g.s1
  unfold momentN
  omega
/-- Each day has its year .. -/
theorem year_of (L : Int) (h0 : 0 ≤ L) (h1 : L ≤ 2932896) : ∃ y, 1970 ≤ y ∧ y ≤ 9999 ∧ yearD y ≤ L ∧ L < yearD (y + 1) := by
  have key : ∀ n : Nat, n ≤ 8030 → L < yearD (1970 + (n : Int)) → ∃ y : Int, 1970 ≤ y ∧ y < 1970 + (n : Int) ∧ yearD y ≤ L ∧ L < yearD (y + 1) := by
    intro n
    induction n with
    | zero =>
      intro _ h
      exfalso
      have e : yearD (1970 + ((0 : Nat) : Int)) = 0 := by decide
      omega
    | succ n ih =>
      intro hn h
      by_cases hl : L < yearD (1970 + (n : Int))
      · obtain ⟨y, a, b, c, d⟩ := ih (by omega) hl
        exact ⟨y, a, by omega, c, d⟩
      · exact ⟨1970 + (n : Int), by omega, by omega, by omega, by rw [show (1970 : Int) + n + 1 = 1970 + ((n + 1 : Nat) : Int) from by omega]; exact h⟩
  have e : yearD (1970 + ((8030 : Nat) : Int)) = 2932897 := by decide
  obtain ⟨y, a, b, c, d⟩ := key 8030 (Nat.le_refl _) (by omega)
  exact ⟨y, a, by omega, c, d⟩
/-- .. and its month. -/
theorem month_of (y r : Int) (h0 : 0 ≤ r) (h1 : r < 365 + leapN y) : ∃ m : Nat, 1 ≤ m ∧ m ≤ 12 ∧ monthD y m ≤ r ∧ r < monthD y (m + 1) := by
  have key : ∀ n : Nat, n ≤ 12 → r < monthD y (1 + n) → ∃ m : Nat, 1 ≤ m ∧ m < 1 + n ∧ monthD y m ≤ r ∧ r < monthD y (m + 1) := by
    intro n
    induction n with
    | zero => intro _ h; rw [monthD_one] at h; omega
    | succ n ih =>
      intro hn h
      by_cases hl : r < monthD y (1 + n)
      · obtain ⟨m, a, b, c, d⟩ := ih (by omega) hl
        exact ⟨m, a, by omega, c, d⟩
      · exact ⟨1 + n, by omega, by omega, by omega, h⟩
  obtain ⟨m, a, b, c, d⟩ := key 12 (Nat.le_refl _) (by rw [show 1 + 12 = 13 from rfl, monthD_all]; exact h1)
  exact ⟨m, a, by omega, c, d⟩
theorem date_of (t : Int) (h0 : 0 ≤ t) (h1 : t ≤ 253402300799) : ∃ y m d h n s, Good y m d h n s ∧ momentN y m d h n s = t := by
  obtain ⟨y, y0, y1, y2, y3⟩ := year_of (t / 86400) (by omega) (by omega)
  have hn := yearD_next y (by omega)
  obtain ⟨m, m0, m1, m2, m3⟩ := month_of y (t / 86400 - yearD y) (by omega) (by omega)
  have h2 := monthD_next y m m0
  refine ⟨y, m, t / 86400 - yearD y - monthD y m + 1, t % 86400 / 3600, t % 86400 / 60 % 60, t % 86400 % 60, ⟨y0, y1, by omega, by omega, by omega, by omega, by omega, by omega, by omega, by omega, by omega, by omega⟩, ?_⟩
  unfold momentN dayN
  rw [Int.toNat_natCast]
  omega
end Go.Proofs.YtpolkndhjcdheaaDoor.Q
namespace Go.Proofs.YtpolkndhjcdheaaDoor.P
open Go.RowKit Go.Proofs.YtpolkndhjcdheaaDoorW.PrintWords Go.Proofs.YtpolkndhjcdheaaDoorW.PrintLast Go.Proofs.YtpolkndhjcdheaaDoorW.PrintMore
attribute [local go_sem] max2_int min2_int max_two min_two max_three min_three max_four min_four   -- for this text's walks alone
set_option linter.unusedVariables false
set_option linter.unusedSimpArgs false

/-! ### spec_DateAt: function 81 -/
mutual
def spec_DateAt.l0 : Nat → Int → Int → Int → Option (Int × Int × Int × Int × Int × Int)
 | 0, _, _, _ => none
 | k + 1, x3, x4, x5 => (spec_l2Year.f (wrap64 (x5 + 1))).bind fun t103 => (if t103 ≤ x3 then (spec_DateAt.l0 k x3 x4 (wrap64 (x5 + 1))) else ((spec_l2Year.f x5).bind fun t104 => (spec_DateAt.l1 k (wrap64 (x3 - t104)) x4 x5 1)))
def spec_DateAt.l1 : Nat → Int → Int → Int → Int → Option (Int × Int × Int × Int × Int × Int)
 | 0, _, _, _, _ => none
 | k + 1, x3, x4, x5, x6 => (spec_l2Month.f x5 x6).bind fun t105 => (if x3 ≥ t105 then ((spec_l2Month.f x5 x6).bind fun t106 => (spec_DateAt.l1 k (wrap64 (x3 - t106)) x4 x5 (wrap64 (x6 + 1)))) else (some (x5, x6, wrap64 (x3 + 1), wrap64 (Int.tdiv x4 3600), Int.tmod (wrap64 (Int.tdiv x4 60)) 60, Int.tmod x4 60)))
end
def spec_DateAt.f (k : Nat) (a0 : Int) : Option (Int × Int × Int × Int × Int × Int) := (spec_l1In.f a0 0 253402300799).bind fun t102 => (if t102 = true then (spec_DateAt.l0 k (wrap64 (Int.tdiv a0 86400)) (Int.tmod a0 86400) (wrap64 (1970 + (wrap64 (Int.tdiv (wrap64 (Int.tdiv a0 86400)) 366))))) else (some (0, 0, 0, 0, 0, 0)))
theorem spec_DateAt.mono_l : ∀ k, (∀ y0 y1 y2, LeO (spec_DateAt.l0 k y0 y1 y2) (spec_DateAt.l0 (k + 1) y0 y1 y2)) ∧ (∀ y0 y1 y2 y3, LeO (spec_DateAt.l1 k y0 y1 y2 y3) (spec_DateAt.l1 (k + 1) y0 y1 y2 y3))
 | 0 => ⟨fun _ _ _ r h => by simp [spec_DateAt.l0] at h, fun _ _ _ _ r h => by simp [spec_DateAt.l1] at h⟩
 | k + 1 => by
  obtain ⟨ih0, ih1⟩ := spec_DateAt.mono_l k
  refine ⟨?_, ?_⟩
  ·
   intro y0 y1 y2
   unfold spec_DateAt.l0
   repeat' first
   | (with_reducible exact ih0 _ _ _)
   | (with_reducible exact ih1 _ _ _ _)
   | (with_reducible exact LeO.refl _)
   | (with_reducible exact LeO.none _)
   | (with_reducible refine LeO.ite ?_ ?_)
   | (with_reducible refine LeO.bind ?_ (fun _ => ?_))
   | exact ih0 _ _ _
   | exact ih1 _ _ _ _
   | exact LeO.none _
   | refine LeO.ite ?_ ?_
   | refine LeO.bind ?_ (fun _ => ?_)
  ·
   intro y0 y1 y2 y3
   unfold spec_DateAt.l1
   repeat' first
   | (with_reducible exact ih0 _ _ _)
   | (with_reducible exact ih1 _ _ _ _)
   | (with_reducible exact LeO.refl _)
   | (with_reducible exact LeO.none _)
   | (with_reducible refine LeO.ite ?_ ?_)
   | (with_reducible refine LeO.bind ?_ (fun _ => ?_))
   | exact ih0 _ _ _
   | exact ih1 _ _ _ _
   | exact LeO.none _
   | refine LeO.ite ?_ ?_
   | refine LeO.bind ?_ (fun _ => ?_)
theorem spec_DateAt.mono : ∀ a0 k, LeO (spec_DateAt.f k a0) (spec_DateAt.f (k + 1) a0) := by
 intro a0 k
 obtain ⟨ih0, ih1⟩ := spec_DateAt.mono_l k
 unfold spec_DateAt.f
 repeat' first
   | (with_reducible exact ih0 _ _ _)
   | (with_reducible exact ih1 _ _ _ _)
   | (with_reducible exact LeO.refl _)
   | (with_reducible exact LeO.none _)
   | (with_reducible refine LeO.ite ?_ ?_)
   | (with_reducible refine LeO.bind ?_ (fun _ => ?_))
   | exact ih0 _ _ _
   | exact ih1 _ _ _ _
   | exact LeO.none _
   | refine LeO.ite ?_ ?_
   | refine LeO.bind ?_ (fun _ => ?_)
set_option maxHeartbeats 8000000 in
set_option maxRecDepth 100000 in
theorem spec_DateAt.calls (k : Nat) (a0 : Int) (r1 : Int) (r2 : Int) (r3 : Int) (r4 : Int) (r5 : Int) (r6 : Int) (w : World) (h : spec_DateAt.f k a0 = some (r1, r2, r3, r4, r5, r6)) :
  Calls Tryd.prog 81 #[.int .i64 a0] w fun e w' => e = .returned (.agg #[.int .i64 r1, .int .i64 r2, .int .i64 r3, .int .i64 r4, .int .i64 r5, .int .i64 r6]) ∧ Below w.heap.size w w' := by
 have hu25 := Tryd.underlying25
 have HB := Aside0.mk (Below.refl w.heap.size w)
 have H : ((spec_l1In.f a0 0 253402300799).bind fun t102 => (if t102 = true then (spec_DateAt.l0 k (wrap64 (Int.tdiv a0 86400)) (Int.tmod a0 86400) (wrap64 (1970 + (wrap64 (Int.tdiv (wrap64 (Int.tdiv a0 86400)) 366))))) else (some (0, 0, 0, 0, 0, 0)))) = some (r1, r2, r3, r4, r5, r6) := h
 clear h
 obtain ⟨q_, hq_⟩ : ∃ q_ : Int, Int.tmod a0 86400 = q_ := ⟨_, rfl⟩
 rw [hq_] at H
 obtain ⟨t102, A20, H⟩ := Option.bind_eq_some_iff.mp H
 try dsimp only at H
 have A2 := Aside0.mk A20
 clear A20
 by_cases c3 : t102 = true
 ·
  subst c3
  rw [if_pos rfl] at H
  have H' := Aside0.mk H
  clear H
  go_enter Tryd.func81, Tryd.ntmps81
  go_wp2_with (first | ((with_reducible refine gate_dst (N := 2) rfl ?_); refine bx 2 #[.int .i64 0, .int .i64 0, .int .i64 0, .int .i64 0, .int .i64 0, .int .i64 0] 25 ?_; intro gb101 hg w4 hbox hb; have BK101 := Aside0.mk (hbox); have GW101 := Aside0.mk (bz hg); have GE101 := Aside0.mk (bz hg); replace HB := Aside0.mk (below_step bh hb); clear hb hbox hg) | ((with_reducible refine gate_callee (f := 39) rfl ?_); refine goesL_ (some 8) rfl rfl Tryd.func39 (by kernel_rfl) rfl #[.int .i64 a0, .int .i64 0, .int .i64 253402300799] rfl mc ?_; (with_reducible refine (spec_l1In.calls a0 0 253402300799 true _ A2.out).mono ?_); rintro e w' ⟨rfl, ⟨nd, rfl⟩⟩; refine ⟨_, rfl, ?_⟩))
  go_loopg [5] k (fun kq v5 w' => ∃ (x5_1 : Int), v5 = .int .i64 x5_1 ∧ Aside0 (spec_DateAt.l0 kq (wrap64 (Int.tdiv a0 86400)) (q_) x5_1 = some (r1, r2, r3, r4, r5, r6)) ∧ Aside0 (kq ≤ k) ∧ Aside0 (w'.heap[gb101]? = some (.cells #[.int .i64 0, .int .i64 0, .int .i64 0, .int .i64 0, .int .i64 0, .int .i64 0] 25 (0, 0))) ∧ Aside0 (Below w.heap.size w w'))
  case atStart => exact ⟨(wrap64 (1970 + (wrap64 (Int.tdiv (wrap64 (Int.tdiv a0 86400)) 366)))), (by first | rfl | (simp; done) | (simp [*]; done)), H', ⟨Nat.le_refl _⟩, ⟨by (with_reducible repeat (first | refine blk_drewN ?_ _ | refine blk_drew ?_ | refine blk_alloc ?_ _)); exact BK101.out⟩, ⟨bh⟩⟩
  case round =>
   clear H'
   try clear p2
   try clear c3
   obtain ⟨x5_1, rfl, HA, HK1, BK101, HB⟩ := hrel
   cases gk with
   | zero => exact absurd HA.out (by simp [spec_DateAt.l0])
   | succ k1 =>
    have H := HA.out
    clear HA
    simp only [spec_DateAt.l0] at H
    obtain ⟨t103, A50, H⟩ := Option.bind_eq_some_iff.mp H
    try dsimp only at H
    have A5 := Aside0.mk A50
    clear A50
    by_cases c6 : t103 ≤ (wrap64 (Int.tdiv a0 86400))
    ·
     rw [if_pos c6] at H
     have c6b0 : decide (t103 ≤ (wrap64 (Int.tdiv a0 86400))) = true := decide_eq_true c6
     clear c6
     have H' := Aside0.mk H
     clear H
     go_wp2_with (first | ((with_reducible refine gate_callee (f := 69) rfl ?_); refine goesL_ (some 20) rfl rfl Tryd.func69 (by kernel_rfl) rfl #[.int .i64 (wrap64 (x5_1 + 1))] rfl mc ?_; (with_reducible refine (spec_l2Year.calls (wrap64 (x5_1 + 1)) t103 _ A5.out).mono ?_); rintro e w' ⟨rfl, ⟨nd, rfl⟩⟩; refine ⟨_, rfl, ?_⟩))
     go_roundg k1
     case measure => have := HK1.out; omega
     case rel => exact ⟨(wrap64 (x5_1 + 1)), (by first | rfl | (simp; done) | (simp [*]; done)), H', ⟨by have := HK1.out; omega⟩, ⟨by (with_reducible repeat (first | refine blk_drewN ?_ _ | refine blk_drew ?_ | refine blk_alloc ?_ _)); exact BK101.out⟩, ⟨bh⟩⟩
    ·
     rw [if_neg c6] at H
     have c6b0 : decide (t103 ≤ (wrap64 (Int.tdiv a0 86400))) = false := decide_eq_false c6
     clear c6
     obtain ⟨t104, A70, H⟩ := Option.bind_eq_some_iff.mp H
     try dsimp only at H
     have A7 := Aside0.mk A70
     clear A70
     have H' := Aside0.mk H
     clear H
     go_wp2_with (first | ((with_reducible refine gate_callee (f := 69) rfl ?_); refine goesL_ (some 20) rfl rfl Tryd.func69 (by kernel_rfl) rfl #[.int .i64 (wrap64 (x5_1 + 1))] rfl mc ?_; (with_reducible refine (spec_l2Year.calls (wrap64 (x5_1 + 1)) t103 _ A5.out).mono ?_); rintro e w' ⟨rfl, ⟨nd, rfl⟩⟩; refine ⟨_, rfl, ?_⟩) | ((with_reducible refine gate_callee (f := 69) rfl ?_); refine goesL_ (some 27) rfl rfl Tryd.func69 (by kernel_rfl) rfl #[.int .i64 x5_1] rfl mc ?_; (with_reducible refine (spec_l2Year.calls x5_1 t104 _ A7.out).mono ?_); rintro e w' ⟨rfl, ⟨nd, rfl⟩⟩; refine ⟨_, rfl, ?_⟩))
     go_loopg [3, 6] k1 (fun kq v3 v6 w' => ∃ (x3_2 : Int) (x6_2 : Int), v3 = .int .i64 x3_2 ∧ v6 = .int .i64 x6_2 ∧ Aside0 (spec_DateAt.l1 kq x3_2 (q_) x5_1 x6_2 = some (r1, r2, r3, r4, r5, r6)) ∧ Aside0 (kq ≤ k1) ∧ Aside0 (w'.heap[gb101]? = some (.cells #[.int .i64 0, .int .i64 0, .int .i64 0, .int .i64 0, .int .i64 0, .int .i64 0] 25 (0, 0))) ∧ Aside0 (Below w.heap.size w w'))
     case atStart => exact ⟨(wrap64 ((wrap64 (Int.tdiv a0 86400)) - t104)), (1), (by first | rfl | (simp; done) | (simp [*]; done)), (by first | rfl | (simp; done) | (simp [*]; done)), H', ⟨Nat.le_refl _⟩, ⟨by (with_reducible repeat (first | refine blk_drewN ?_ _ | refine blk_drew ?_ | refine blk_alloc ?_ _)); exact BK101.out⟩, ⟨bh⟩⟩
     case round =>
      clear H'
      try clear p2
      try clear c3
      try clear c6
      try clear c6b0
      try clear p6
      try clear p2
      obtain ⟨x3_2, x6_2, rfl, rfl, HA, HK2, BK101, HB⟩ := hrel
      cases gk with
      | zero => exact absurd HA.out (by simp [spec_DateAt.l1])
      | succ k2 =>
       have H := HA.out
       clear HA
       simp only [spec_DateAt.l1] at H
       obtain ⟨t105, A80, H⟩ := Option.bind_eq_some_iff.mp H
       try dsimp only at H
       have A8 := Aside0.mk A80
       clear A80
       by_cases c9 : x3_2 ≥ t105
       ·
        rw [if_pos c9] at H
        have c9b0 : decide (t105 ≤ x3_2) = true := decide_eq_true c9
        clear c9
        obtain ⟨t106, A100, H⟩ := Option.bind_eq_some_iff.mp H
        try dsimp only at H
        have A10 := Aside0.mk A100
        clear A100
        have H' := Aside0.mk H
        clear H
        go_wp2_with (first | ((with_reducible refine gate_callee (f := 40) rfl ?_); refine goesL_ (some 32) rfl rfl Tryd.func40 (by kernel_rfl) rfl #[.int .i64 x5_1, .int .i64 x6_2] rfl mc ?_; (with_reducible refine (spec_l2Month.calls x5_1 x6_2 t105 _ A8.out).mono ?_); rintro e w11 ⟨rfl, hb⟩; refine ⟨_, rfl, ?_⟩; replace BK101 := Aside0.mk (blk_below (g := gb101) (o := .cells #[.int .i64 0, .int .i64 0, .int .i64 0, .int .i64 0, .int .i64 0, .int .i64 0] 25 (0, 0)) bk hb); replace HB := Aside0.mk (below_step bh hb); (try clear hb); (try clear hb2); (try clear hk); (try clear hi)) | ((with_reducible refine gate_callee (f := 40) rfl ?_); refine goesL_ (some 37) rfl rfl Tryd.func40 (by kernel_rfl) rfl #[.int .i64 x5_1, .int .i64 x6_2] rfl mc ?_; (with_reducible refine (spec_l2Month.calls x5_1 x6_2 t106 _ A10.out).mono ?_); rintro e w12 ⟨rfl, hb⟩; refine ⟨_, rfl, ?_⟩; replace BK101 := Aside0.mk (blk_below (g := gb101) (o := .cells #[.int .i64 0, .int .i64 0, .int .i64 0, .int .i64 0, .int .i64 0, .int .i64 0] 25 (0, 0)) bk hb); replace HB := Aside0.mk (below_step bh hb); (try clear hb); (try clear hb2); (try clear hk); (try clear hi)))
        go_roundg k2
        case measure => have := HK1.out; have := HK2.out; omega
        case rel => exact ⟨(wrap64 (x3_2 - t106)), (wrap64 (x6_2 + 1)), (by first | rfl | (simp; done) | (simp [*]; done)), (by first | rfl | (simp; done) | (simp [*]; done)), H', ⟨by have := HK1.out; have := HK2.out; omega⟩, ⟨by (with_reducible repeat (first | refine blk_drewN ?_ _ | refine blk_drew ?_ | refine blk_alloc ?_ _)); exact BK101.out⟩, ⟨bh⟩⟩
       ·
        rw [if_neg c9] at H
        have c9b0 : decide (t105 ≤ x3_2) = false := decide_eq_false c9
        clear c9
        simp only [Option.some.injEq, Prod.mk.injEq] at H
        obtain ⟨rfl, rfl, rfl, rfl, rfl, rfl⟩ := H
        go_wp2_with (first | ((with_reducible refine gate_callee (f := 40) rfl ?_); refine goesL_ (some 32) rfl rfl Tryd.func40 (by kernel_rfl) rfl #[.int .i64 x5_1, .int .i64 x6_2] rfl mc ?_; (with_reducible refine (spec_l2Month.calls x5_1 x6_2 t105 _ A8.out).mono ?_); rintro e w13 ⟨rfl, hb⟩; refine ⟨_, rfl, ?_⟩; replace BK101 := Aside0.mk (blk_below (g := gb101) (o := .cells #[.int .i64 0, .int .i64 0, .int .i64 0, .int .i64 0, .int .i64 0, .int .i64 0] 25 (0, 0)) bk hb); replace HB := Aside0.mk (below_step bh hb); (try clear hb); (try clear hb2); (try clear hk); (try clear hi); have hcz14_0 : w13.cell? ⟨gb101, 0, none⟩ = some (.int .i64 0) := bc BK101 0; have hcz14_1 : w13.cell? ⟨gb101, 1, none⟩ = some (.int .i64 0) := bc BK101 1; have hcz14_2 : w13.cell? ⟨gb101, 2, none⟩ = some (.int .i64 0) := bc BK101 2; have hcz14_3 : w13.cell? ⟨gb101, 3, none⟩ = some (.int .i64 0) := bc BK101 3; have hcz14_4 : w13.cell? ⟨gb101, 4, none⟩ = some (.int .i64 0) := bc BK101 4; have hcz14_5 : w13.cell? ⟨gb101, 5, none⟩ = some (.int .i64 0) := bc BK101 5; have hfz14_0 := blk_frozen BK101.out 0; have hfz14_1 := blk_frozen BK101.out 1; have hfz14_2 := blk_frozen BK101.out 2; have hfz14_3 := blk_frozen BK101.out 3; have hfz14_4 := blk_frozen BK101.out 4; have hfz14_5 := blk_frozen BK101.out 5))
        refine bodyPost_ret (results_cell_row rfl _ _ gb101 25 #[.int .i64 x5_1, .int .i64 x6_2, .int .i64 (wrap64 (x3_2 + 1)), .int .i64 (wrap64 (Int.tdiv (q_) 3600)), .int .i64 (Int.tmod (wrap64 (Int.tdiv (q_) 60)) 60), .int .i64 (Int.tmod (q_) 60)] (0, 0) _ rfl bkp Tryd.underlying25 rfl (by kernel_rfl)) rfl ?_
        exact ⟨er, bh⟩
 ·
  replace c3 := Bool.eq_false_iff.mpr c3
  subst c3
  have H1 : (some (0, 0, 0, 0, 0, 0)) = some (r1, r2, r3, r4, r5, r6) := by rw [if_neg (show ¬ (false = true) by decide)] at H; exact H
  clear H
  have H := H1
  clear H1
  simp only [Option.some.injEq, Prod.mk.injEq] at H
  obtain ⟨rfl, rfl, rfl, rfl, rfl, rfl⟩ := H
  go_enter Tryd.func81, Tryd.ntmps81
  go_wp2_with (first | ((with_reducible refine gate_dst (N := 2) rfl ?_); refine bx 2 #[.int .i64 0, .int .i64 0, .int .i64 0, .int .i64 0, .int .i64 0, .int .i64 0] 25 ?_; intro gb101 hg w15 hbox hb; have BK101 := Aside0.mk (hbox); have GW101 := Aside0.mk (bz hg); have GE101 := Aside0.mk (bz hg); replace HB := Aside0.mk (below_step bh hb); clear hb hbox hg) | ((with_reducible refine gate_callee (f := 39) rfl ?_); refine goesL_ (some 8) rfl rfl Tryd.func39 (by kernel_rfl) rfl #[.int .i64 a0, .int .i64 0, .int .i64 253402300799] rfl mc ?_; (with_reducible refine (spec_l1In.calls a0 0 253402300799 false _ A2.out).mono ?_); rintro e w' ⟨rfl, ⟨nd, rfl⟩⟩; refine ⟨_, rfl, ?_⟩; (try (rw [drewN_self w15]; generalize hq_ : World.drewN w15 _ = w15; have n0_ : Aside0 (w15.heap[gb101]? = some (.cells #[.int .i64 0, .int .i64 0, .int .i64 0, .int .i64 0, .int .i64 0, .int .i64 0] 25 (0, 0))) := ⟨by rw [← hq_]; exact bk⟩; have n1_ : Aside0 (Below w.heap.size w w15) := ⟨by rw [← hq_]; exact bh⟩; clear BK101 HB hq_; have BK101 := n0_; have HB := n1_; clear n0_ n1_)); have hcz16_0 : w15.cell? ⟨gb101, 0, none⟩ = some (.int .i64 0) := bc BK101 0; have hcz16_1 : w15.cell? ⟨gb101, 1, none⟩ = some (.int .i64 0) := bc BK101 1; have hcz16_2 : w15.cell? ⟨gb101, 2, none⟩ = some (.int .i64 0) := bc BK101 2; have hcz16_3 : w15.cell? ⟨gb101, 3, none⟩ = some (.int .i64 0) := bc BK101 3; have hcz16_4 : w15.cell? ⟨gb101, 4, none⟩ = some (.int .i64 0) := bc BK101 4; have hcz16_5 : w15.cell? ⟨gb101, 5, none⟩ = some (.int .i64 0) := bc BK101 5; have hfz16_0 := blk_frozen BK101.out 0; have hfz16_1 := blk_frozen BK101.out 1; have hfz16_2 := blk_frozen BK101.out 2; have hfz16_3 := blk_frozen BK101.out 3; have hfz16_4 := blk_frozen BK101.out 4; have hfz16_5 := blk_frozen BK101.out 5))
  refine bodyPost_ret (results_cell_row rfl _ _ gb101 25 #[.int .i64 0, .int .i64 0, .int .i64 0, .int .i64 0, .int .i64 0, .int .i64 0] (0, 0) _ rfl bkp Tryd.underlying25 rfl (by kernel_rfl)) rfl ?_
  exact ⟨er, bh⟩
end Go.Proofs.YtpolkndhjcdheaaDoor.P
namespace Go.Proofs.YtpolkndhjcdheaaDoor.Q
set_option linter.unusedVariables false
set_option linter.unusedSimpArgs false
open Go.RowKit Go.Proofs.YtpolkndhjcdheaaDoor.P Go.Proofs.YtpolkndhjcdheaaDoorW.PrintWords Go.Proofs.YtpolkndhjcdheaaDoorW.PrintLast Go.Proofs.YtpolkndhjcdheaaDoorW.PrintMore

theorem spec_l2Year_is (y : Int) (h0 : 1970 ≤ y) (h1 : y ≤ 10000) : spec_l2Year.f y = some (yearD y) := by
  unfold spec_l2Year.f yearD
  refine congrArg some ?_
  rw [wrap_in (i := y - 1970) (by omega) (by omega), wrap_in (i := y - 1) (by omega) (by omega), wrap_in (i := 365 * (y - 1970)) (by omega) (by omega)]
  rw [Int.tdiv_eq_ediv_of_nonneg (by omega), Int.tdiv_eq_ediv_of_nonneg (by omega), Int.tdiv_eq_ediv_of_nonneg (by omega)]
  rw [wrap_in (i := (y - 1) / 4) (by omega) (by omega), wrap_in (i := (y - 1) / 100) (by omega) (by omega), wrap_in (i := (y - 1) / 400) (by omega) (by omega)]
  rw [wrap_in (i := 365 * (y - 1970) + (y - 1) / 4) (by omega) (by omega), wrap_in (i := 365 * (y - 1970) + (y - 1) / 4 - (y - 1) / 100) (by omega) (by omega), wrap_in (i := 365 * (y - 1970) + (y - 1) / 4 - (y - 1) / 100 + (y - 1) / 400) (by omega) (by omega)]
  exact wrap_in (by omega) (by omega)
theorem spec_l2Days_loop (y m d h n s : Int) (m0 : 1 ≤ m) (m1 : m ≤ 12) (r : Nat) : ∀ (j : Int) (acc : Int), 1 ≤ j → j + r = m → 0 ≤ acc → acc ≤ 3000000 + monthD y j.toNat → ∀ k, r + 1 < k →
    spec_l2Days.l0 k acc j y m d h n s = some (acc + monthD y m.toNat - monthD y j.toNat) := by
  induction r with
  | zero =>
    intro j acc j0 hj a0 a1 k hk
    obtain ⟨k, rfl⟩ : ∃ z, k = z + 1 := ⟨k - 1, by omega⟩
    simp only [spec_l2Days.l0]
    rw [if_neg (by omega), show j = m from by omega]
    exact congrArg some (by omega)
  | succ r ih =>
    intro j acc j0 hj a0 a1 k hk
    obtain ⟨k, rfl⟩ : ∃ z, k = z + 1 := ⟨k - 1, by omega⟩
    have hk : 1 ≤ k := by omega
    have hr := monthDays_range y j
    have hn := monthD_next y j.toNat (by omega)
    rw [show ((j.toNat : Nat) : Int) = j from by omega] at hn
    have hg := monthD_range y j.toNat (by omega) (by omega)
    simp only [spec_l2Days.l0]
    rw [if_pos (by omega), spec_l2Month_is y j (by omega) (by omega)]
    simp only [Option.bind_some]
    rw [wrap_in (by omega) (by omega), wrap_in (by omega) (by omega)]
    have e : (j + 1).toNat = j.toNat + 1 := by omega
    rw [ih (j + 1) (acc + monthDays y j) (by omega) (by omega) (by omega) (by rw [e]; omega) k (by omega), e]
    exact congrArg some (by omega)
theorem spec_l2Days_ev {y m d h n s : Int} (g : Good y m d h n s) (k : Nat) (hk : 16 ≤ k) : spec_l2Days.f k y m d h n s = some (dayN y m d) := by
  have hr := yearD_range y g.y0 (by have := g.y1; omega)
  have hm := monthDays_range y m
  have d0 := g.d0
  have d1 := g.d1
  have m0 := g.m0
  have m1 := g.m1
  unfold spec_l2Days.f
  rw [spec_l2Year_is y g.y0 (by have := g.y1; omega)]
  simp only [Option.bind_some]
  rw [wrap_in (i := yearD y + d) (by omega) (by omega), wrap_in (by omega) (by omega)]
  rw [spec_l2Days_loop y m d h n s m0 m1 (m - 1).toNat 1 _ (by omega) (by omega) (by omega) (by rw [show (1 : Int).toNat = 1 from rfl, monthD_one]; omega) k (by omega)]
  unfold dayN
  rw [show (1 : Int).toNat = 1 from rfl, monthD_one]
  exact congrArg some (by omega)


theorem impl_yearDays_is (y : Int) (h0 : 1970 ≤ y) (h1 : y ≤ 10000) : impl_yearDays.f y = some (yearD y) := by
  unfold impl_yearDays.f yearD
  refine congrArg some ?_
  rw [wrap_in (i := y - 1970) (by omega) (by omega), wrap_in (i := y - 1) (by omega) (by omega), wrap_in (i := 365 * (y - 1970)) (by omega) (by omega)]
  rw [Int.tdiv_eq_ediv_of_nonneg (by omega), Int.tdiv_eq_ediv_of_nonneg (by omega), Int.tdiv_eq_ediv_of_nonneg (by omega)]
  rw [wrap_in (i := (y - 1) / 4) (by omega) (by omega), wrap_in (i := (y - 1) / 100) (by omega) (by omega), wrap_in (i := (y - 1) / 400) (by omega) (by omega)]
  rw [wrap_in (i := 365 * (y - 1970) + (y - 1) / 4) (by omega) (by omega), wrap_in (i := 365 * (y - 1970) + (y - 1) / 4 - (y - 1) / 100) (by omega) (by omega), wrap_in (i := 365 * (y - 1970) + (y - 1) / 4 - (y - 1) / 100 + (y - 1) / 400) (by omega) (by omega)]
  exact wrap_in (by omega) (by omega)
theorem impl_days_loop (y m d h n s : Int) (m0 : 1 ≤ m) (m1 : m ≤ 12) (r : Nat) : ∀ (j : Int) (acc : Int), 1 ≤ j → j + r = m → 0 ≤ acc → acc ≤ 3000000 + monthD y j.toNat → ∀ k, r + 1 < k →
    impl_days.l0 k acc j y m d h n s = some (acc + monthD y m.toNat - monthD y j.toNat) := by
  induction r with
  | zero =>
    intro j acc j0 hj a0 a1 k hk
    obtain ⟨k, rfl⟩ : ∃ z, k = z + 1 := ⟨k - 1, by omega⟩
    simp only [impl_days.l0]
    rw [if_neg (by omega), show j = m from by omega]
    exact congrArg some (by omega)
  | succ r ih =>
    intro j acc j0 hj a0 a1 k hk
    obtain ⟨k, rfl⟩ : ∃ z, k = z + 1 := ⟨k - 1, by omega⟩
    have hk : 1 ≤ k := by omega
    have hr := monthDays_range y j
    have hn := monthD_next y j.toNat (by omega)
    rw [show ((j.toNat : Nat) : Int) = j from by omega] at hn
    have hg := monthD_range y j.toNat (by omega) (by omega)
    simp only [impl_days.l0]
    rw [if_pos (by omega), impl_daysIn_is y j k hk]
    simp only [Option.bind_some]
    rw [wrap_in (by omega) (by omega), wrap_in (by omega) (by omega)]
    have e : (j + 1).toNat = j.toNat + 1 := by omega
    rw [ih (j + 1) (acc + monthDays y j) (by omega) (by omega) (by omega) (by rw [e]; omega) k (by omega), e]
    exact congrArg some (by omega)
theorem impl_days_ev {y m d h n s : Int} (g : Good y m d h n s) (k : Nat) (hk : 16 ≤ k) : impl_days.f k y m d h n s = some (dayN y m d) := by
  have hr := yearD_range y g.y0 (by have := g.y1; omega)
  have hm := monthDays_range y m
  have d0 := g.d0
  have d1 := g.d1
  have m0 := g.m0
  have m1 := g.m1
  unfold impl_days.f
  rw [impl_yearDays_is y g.y0 (by have := g.y1; omega)]
  simp only [Option.bind_some]
  rw [wrap_in (i := yearD y + d) (by omega) (by omega), wrap_in (by omega) (by omega)]
  rw [impl_days_loop y m d h n s m0 m1 (m - 1).toNat 1 _ (by omega) (by omega) (by omega) (by rw [show (1 : Int).toNat = 1 from rfl, monthD_one]; omega) k (by omega)]
  unfold dayN
  rw [show (1 : Int).toNat = 1 from rfl, monthD_one]
  exact congrArg some (by omega)


theorem spec_Weekday_ev (y m d h n s : Int) (k : Nat) (hk : 16 ≤ k) : spec_Weekday.f k y m d h n s = some (if dateOk y m d h n s = true then (dayN y m d + 4) % 7 else -1) := by
  unfold spec_Weekday.f
  rw [spec_DateOk_is]
  simp only [Option.bind_some]
  by_cases g : dateOk y m d h n s = true
  · have G := (good_iff ..).1 g
    have hr := dayN_range G
    rw [if_pos g, if_pos g, spec_l2Days_ev G k hk]
    simp only [Option.bind_some]
    rw [wrap_in (by omega) (by omega), Int.tmod_eq_emod_of_nonneg (by omega)]
  · rw [if_neg g, if_neg g]



theorem impl_Weekday_ev (y m d h n s : Int) (k : Nat) (hk : 16 ≤ k) : impl_Weekday.f k y m d h n s = some (if dateOk y m d h n s = true then (dayN y m d + 4) % 7 else -1) := by
  unfold impl_Weekday.f
  rw [impl_DateOk_is _ _ _ _ _ _ k (by omega)]
  simp only [Option.bind_some]
  by_cases g : dateOk y m d h n s = true
  · have G := (good_iff ..).1 g
    have hr := dayN_range G
    rw [if_pos g, if_pos g, impl_days_ev G k hk]
    simp only [Option.bind_some]
    rw [wrap_in (by omega) (by omega), Int.tmod_eq_emod_of_nonneg (by omega)]
  · rw [if_neg g, if_neg g]



theorem spec_DateAt_months (y m : Int) (L S : Int) (m0 : 1 ≤ m) (m1 : m ≤ 12) (h0 : monthD y m.toNat ≤ L) (h1 : L < monthD y (m.toNat + 1)) (s0 : 0 ≤ S) (s1 : S < 86400) (r : Nat) : ∀ (j : Int), 1 ≤ j → j + r = m → ∀ k, r + 2 < k →
    spec_DateAt.l1 k (L - monthD y j.toNat) S y j = some (y, m, L - monthD y m.toNat + 1, S / 3600, S / 60 % 60, S % 60) := by
  have g0 := monthD_range y m.toNat (by omega) (by omega)
  have g1 := monthD_range y (m.toNat + 1) (by omega) (by omega)
  induction r with
  | zero =>
    intro j j0 hj k hk
    obtain ⟨k, rfl⟩ : ∃ z, k = z + 1 := ⟨k - 1, by omega⟩
    obtain rfl : j = m := by omega
    have hn := monthD_next y j.toNat (by omega)
    rw [show ((j.toNat : Nat) : Int) = j from by omega] at hn
    simp only [spec_DateAt.l1]
    rw [spec_l2Month_is y j (by omega) (by omega)]
    simp only [Option.bind_some]
    rw [if_neg (by omega)]
    rw [Int.tdiv_eq_ediv_of_nonneg s0, Int.tdiv_eq_ediv_of_nonneg s0, Int.tmod_eq_emod_of_nonneg s0, wrap_in (i := L - monthD y j.toNat + 1) (by omega) (by omega), wrap_in (i := S / 3600) (by omega) (by omega), wrap_in (i := S / 60) (by omega) (by omega), Int.tmod_eq_emod_of_nonneg (by omega)]
  | succ r ih =>
    intro j j0 hj k hk
    obtain ⟨k, rfl⟩ : ∃ z, k = z + 1 := ⟨k - 1, by omega⟩
    have hn := monthD_next y j.toNat (by omega)
    rw [show ((j.toNat : Nat) : Int) = j from by omega] at hn
    have hl := monthD_lt y j.toNat m.toNat (by omega) (by omega)
    have gj := monthD_range y j.toNat (by omega) (by omega)
    have hr := monthDays_range y j
    have e : (j + 1).toNat = j.toNat + 1 := by omega
    have hi := ih (j + 1) (by omega) (by omega) k (by omega)
    rw [e, hn] at hi
    simp only [spec_DateAt.l1]
    rw [spec_l2Month_is y j (by omega) (by omega)]
    simp only [Option.bind_some]
    rw [if_pos (by omega), wrap_in (i := L - monthD y j.toNat - monthDays y j) (by omega) (by omega), wrap_in (i := j + 1) (by omega) (by omega)]
    rw [show L - monthD y j.toNat - monthDays y j = L - (monthD y j.toNat + monthDays y j) from by omega]
    exact hi
theorem spec_DateAt_years (y m : Int) (L S : Int) (y0 : 1970 ≤ y) (y1 : y ≤ 9999) (h0 : yearD y ≤ L) (h1 : L < yearD (y + 1)) (m0 : 1 ≤ m) (m1 : m ≤ 12) (h2 : monthD y m.toNat ≤ L - yearD y) (h3 : L - yearD y < monthD y (m.toNat + 1)) (s0 : 0 ≤ S) (s1 : S < 86400) (r : Nat) : ∀ (z : Int), 1970 ≤ z → z + r = y → ∀ k, r + 20 < k →
    spec_DateAt.l0 k L S z = some (y, m, L - yearD y - monthD y m.toNat + 1, S / 3600, S / 60 % 60, S % 60) := by
  have g0 := yearD_range y y0 (by omega)
  have g1 := yearD_range (y + 1) (by omega) (by omega)
  induction r with
  | zero =>
    intro z z0 hz k hk
    obtain ⟨k, rfl⟩ : ∃ q, k = q + 1 := ⟨k - 1, by omega⟩
    obtain rfl : z = y := by omega
    simp only [spec_DateAt.l0]
    rw [wrap_in (i := z + 1) (by omega) (by omega), spec_l2Year_is (z + 1) (by omega) (by omega)]
    simp only [Option.bind_some]
    rw [if_neg (by omega), spec_l2Year_is z (by omega) (by omega)]
    simp only [Option.bind_some]
    rw [wrap_in (i := L - yearD z) (by omega) (by omega)]
    have hm := spec_DateAt_months z m (L - yearD z) S m0 m1 h2 h3 s0 s1 (m - 1).toNat 1 (by omega) (by omega) k (by omega)
    rw [show (1 : Int).toNat = 1 from rfl, monthD_one, Int.sub_zero] at hm
    exact hm
  | succ r ih =>
    intro z z0 hz k hk
    obtain ⟨k, rfl⟩ : ∃ q, k = q + 1 := ⟨k - 1, by omega⟩
    have hl := yearD_lt z y (by omega) (by omega)
    simp only [spec_DateAt.l0]
    rw [wrap_in (i := z + 1) (by omega) (by omega), spec_l2Year_is (z + 1) (by omega) (by omega)]
    simp only [Option.bind_some]
    rw [if_pos (by omega)]
    exact ih (z + 1) (by omega) (by omega) k (by omega)
theorem spec_DateAt_at {y m d h n s : Int} (g : Good y m d h n s) (k : Nat) (hk : 9000 ≤ k) : spec_DateAt.f k (momentN y m d h n s) = some (y, m, d, h, n, s) := by
  have hr := momentN_range g
  have hd := dayN_range g
  have hy := dayN_in (by have := g.y0; omega) g.m0 g.m1 g.d0 g.d1
  have hm := day_in g.m0 g.m1 g.d0 g.d1
  have := g.h0; have := g.h1; have := g.n0; have := g.n1; have := g.s0; have := g.s1; have := g.y0; have := g.y1; have := g.d0
  have e1 : momentN y m d h n s / 86400 = dayN y m d := by unfold momentN; omega
  have e2 : momentN y m d h n s % 86400 = h * 3600 + n * 60 + s := by unfold momentN; omega
  unfold spec_DateAt.f
  rw [spec_l1In_is, show inB (momentN y m d h n s) 0 253402300799 = true from by unfold inB; simp; omega]
  simp only [Option.bind_some, if_true]
  rw [Int.tdiv_eq_ediv_of_nonneg hr.1, Int.tmod_eq_emod_of_nonneg hr.1, e1, e2, wrap_in (i := dayN y m d) (by omega) (by omega), Int.tdiv_eq_ediv_of_nonneg hd.1, wrap_in (i := dayN y m d / 366) (by omega) (by omega), wrap_in (i := 1970 + dayN y m d / 366) (by omega) (by omega)]
  have hb : 1970 + dayN y m d / 366 ≤ y := by
    have h1 := yearD_range y g.y0 (by omega)
    have h2 : yearD (y + 1) ≤ 366 * (y + 1 - 1970) := by unfold yearD; omega
    omega
  have hz := spec_DateAt_years y m (dayN y m d) (h * 3600 + n * 60 + s) g.y0 g.y1 hy.1 hy.2 g.m0 g.m1 (by unfold dayN; omega) (by unfold dayN; omega) (by omega) (by omega) (y - (1970 + dayN y m d / 366)).toNat (1970 + dayN y m d / 366) (by omega) (by omega) k (by omega)
  rw [hz]
  have e3 : dayN y m d - yearD y - monthD y m.toNat + 1 = d := by unfold dayN; omega
  rw [e3, show (h * 3600 + n * 60 + s) / 3600 = h from by omega, show (h * 3600 + n * 60 + s) / 60 % 60 = n from by omega, show (h * 3600 + n * 60 + s) % 60 = s from by omega]
theorem spec_DateAt_out (t : Int) (h : t < 0 ∨ 253402300799 < t) (k : Nat) : spec_DateAt.f k t = some (0, 0, 0, 0, 0, 0) := by
  unfold spec_DateAt.f
  rw [spec_l1In_is, show inB t 0 253402300799 = false from by unfold inB; simp; omega]
  rfl
def ofL (l : List UInt8) : ByteArray := ⟨l.toArray⟩
theorem ofL_append (a b : List UInt8) : ofL a ++ ofL b = ofL (a ++ b) := by
  apply ByteArray.ext
  apply Array.toList_inj.1
  simp [ofL, ByteArray.data_append]
theorem ofL_size (l : List UInt8) : (ofL l).size = l.length := by
  show l.toArray.size = l.length
  simp
theorem ofL_toList (l : List UInt8) : (ofL l).toList = l := by
  rw [toList_data]
  rfl
theorem ofL_data (s : ByteArray) : ofL s.data.toList = s := by
  apply ByteArray.ext
  apply Array.toList_inj.1
  rfl
theorem strOf_one (c : Int) : strOfNums [c] = ofL [UInt8.ofNat c.toNat] := by
  apply ByteArray.ext
  apply Array.toList_inj.1
  rw [strOfNums_data]
  rfl
/-- A number's decimal numeral. -/
def decT (n : Int) : ByteArray := ofL (Lib.itoa n)
theorem impl_decimal_is (n : Int) (h0 : -9223372036854775808 ≤ n) (h1 : n ≤ 9223372036854775807) : impl_decimal.f n = some (decT n) := by
  unfold impl_decimal.f strconv_FormatInt.f
  first | rw [if_pos ⟨rfl, h0, h1⟩] | rw [if_neg (by omega), if_pos ⟨rfl, h0, h1⟩]
  rfl
theorem decT_size (n : Int) (h0 : 0 ≤ n) (h1 : n ≤ 9000000000000000000) : (decT n).size ≤ 19 := by
  unfold decT
  rw [ofL_size]
  unfold Lib.itoa
  rw [if_neg (by omega), Lib.decDigits_length]
  have key : ∀ (d u : Nat), u < 10 ^ (d + 1) → Lib.nDigits u ≤ d + 1 := by
    intro d
    induction d with
    | zero => intro u hu; rw [Lib.nDigits_small (by simpa using hu)]; omega
    | succ d ih =>
      intro u hu
      by_cases h : u < 10
      · rw [Lib.nDigits_small h]; omega
      · rw [Lib.nDigits_big h]
        have := ih (u / 10) (by rw [Nat.pow_succ] at hu; omega)
        omega
  exact key 18 n.toNat (by omega)
/-- The last two digits of a number. -/
def twoL (n : Int) : List UInt8 := [UInt8.ofNat (48 + n.toNat / 10 % 10), UInt8.ofNat (48 + n.toNat % 10)]
def twoT (n : Int) : ByteArray := ofL (twoL n)
theorem twoT_size (n : Int) : (twoT n).size = 2 := by unfold twoT; rw [ofL_size]; rfl
theorem strOf_two (a b : Int) : strOfNums [a, b] = ofL [UInt8.ofNat a.toNat, UInt8.ofNat b.toNat] := by
  apply ByteArray.ext
  apply Array.toList_inj.1
  rw [strOfNums_data]
  rfl
theorem spec_l2Two_is (n : Int) (h0 : 0 ≤ n) (h1 : n ≤ 9000000000000000000) : spec_l2Two.f n = some (twoT n) := by
  unfold spec_l2Two.f twoT twoL
  rw [strOf_two, Int.tdiv_eq_ediv_of_nonneg h0, wrap_in (i := n / 10) (by omega) (by omega), Int.tmod_eq_emod_of_nonneg (by omega), Int.tmod_eq_emod_of_nonneg h0, wrap_in (by omega) (by omega), wrap_in (by omega) (by omega)]
  rw [show ((48 + n / 10 % 10) % 256).toNat = 48 + n.toNat / 10 % 10 by omega, show ((48 + n % 10) % 256).toNat = 48 + n.toNat % 10 by omega]
theorem decT_one (n : Int) (h0 : 0 ≤ n) (h1 : n < 10) : decT n = ofL [UInt8.ofNat (48 + n.toNat % 10)] := by
  unfold decT Lib.itoa
  rw [if_neg (by omega), Lib.decDigits, dif_pos (by omega), show n.toNat % 10 = n.toNat by omega]
theorem decT_two (n : Int) (h0 : 10 ≤ n) (h1 : n < 100) : decT n = twoT n := by
  unfold decT Lib.itoa twoT twoL
  rw [if_neg (by omega), Lib.decDigits, dif_neg (by omega), Lib.decDigits, dif_pos (by omega), show n.toNat / 10 % 10 = n.toNat / 10 by omega]
  rfl
theorem decT_four (n : Int) (h0 : 1000 ≤ n) (h1 : n ≤ 9999) : decT n = twoT (n / 100) ++ twoT n := by
  unfold decT Lib.itoa twoT twoL
  rw [if_neg (by omega), Lib.decDigits, dif_neg (by omega), Lib.decDigits, dif_neg (by omega), Lib.decDigits, dif_neg (by omega), Lib.decDigits, dif_pos (by omega), ofL_append,
    show (n / 100).toNat / 10 % 10 = n.toNat / 10 / 10 / 10 by omega, show (n / 100).toNat % 10 = n.toNat / 10 / 10 % 10 by omega]
  rfl
theorem impl_padded_two (n : Int) (h0 : 0 ≤ n) (h1 : n < 100) : impl_padded.f n 2 = some (twoT n) := by
  unfold impl_padded.f
  rw [impl_decimal_is n (by omega) (by omega)]
  simp only [Option.bind_some]
  by_cases h : n < 10
  · rw [decT_one n h0 h, ofL_size, show mx 0 (wrap64 (2 - (([UInt8.ofNat (48 + n.toNat % 10)].length : Nat) : Int))) = 1 by simp [mx, wrap64]]
    unfold strings_Repeat.f
    rw [if_neg (by decide), if_pos rfl]
    simp only [Option.bind_some]
    rw [if_pos (show (⟨#[48]⟩ : ByteArray).size + [UInt8.ofNat (48 + n.toNat % 10)].length ≤ 9223372036854775807 from by show 1 + 1 ≤ _; decide)]
    unfold twoT twoL
    rw [show n.toNat / 10 % 10 = 0 by omega]
    refine congrArg some ?_
    rw [show (⟨#[48]⟩ : ByteArray) = ofL [48] from rfl, ofL_append]
    rfl
  · rw [decT_two n (by omega) h1, twoT_size, show mx 0 (wrap64 (2 - ((2 : Nat) : Int))) = 0 by simp [mx, wrap64]]
    unfold strings_Repeat.f
    rw [if_pos rfl]
    simp only [Option.bind_some]
    rw [if_pos (by decide)]
    refine congrArg some ?_
    rw [show (⟨#[]⟩ : ByteArray) = ofL [] from rfl]
    unfold twoT
    rw [ofL_append]
    rfl
theorem impl_padded_four (n : Int) (h0 : 1000 ≤ n) (h1 : n ≤ 9999) : impl_padded.f n 4 = some (twoT (n / 100) ++ twoT n) := by
  unfold impl_padded.f
  rw [impl_decimal_is n (by omega) (by omega)]
  simp only [Option.bind_some]
  rw [decT_four n h0 h1, ByteArray.size_append, twoT_size, twoT_size, show mx 0 (wrap64 (4 - ((2 + 2 : Nat) : Int))) = 0 by simp [mx, wrap64]]
  unfold strings_Repeat.f
  rw [if_pos rfl]
  simp only [Option.bind_some]
  rw [if_pos (by decide)]
  refine congrArg some ?_
  rw [show (⟨#[]⟩ : ByteArray) = ofL [] from rfl]
  unfold twoT
  rw [ofL_append, ofL_append]
  rfl
def dayNames : ByteArray := ⟨#[83, 117, 110, 77, 111, 110, 84, 117, 101, 87, 101, 100, 84, 104, 117, 70, 114, 105, 83, 97, 116]⟩
def monthNames : ByteArray := ⟨#[74, 97, 110, 70, 101, 98, 77, 97, 114, 65, 112, 114, 77, 97, 121, 74, 117, 110, 74, 117, 108, 65, 117, 103, 83, 101, 112, 79, 99, 116, 78, 111, 118, 68, 101, 99]⟩
def dayT (w : Int) : ByteArray := dayNames.extract (3 * w).toNat (3 * w + 3).toNat
def monthT (m : Int) : ByteArray := monthNames.extract (3 * m - 3).toNat (3 * m).toNat
theorem dayT_size (w : Int) (h0 : 0 ≤ w) (h1 : w ≤ 6) : (dayT w).size = 3 := by
  unfold dayT
  rw [size_extract _ _ _ (by show _ ≤ 21; omega)]
  omega
theorem monthT_size (m : Int) (h0 : 1 ≤ m) (h1 : m ≤ 12) : (monthT m).size = 3 := by
  unfold monthT
  rw [size_extract _ _ _ (by show _ ≤ 36; omega)]
  omega
/-- The text of a date. -/
def showN (y m d h n s : Int) : ByteArray :=
  dayT ((dayN y m d + 4) % 7) ++ ⟨#[44, 32]⟩ ++ twoT d ++ ⟨#[32]⟩ ++ monthT m ++ ⟨#[32]⟩ ++ twoT (y / 100) ++ twoT y ++ ⟨#[32]⟩ ++ twoT h ++ ⟨#[58]⟩ ++ twoT n ++ ⟨#[58]⟩ ++ twoT s ++ ⟨#[32, 71, 77, 84]⟩
def showR (y m d h n s : Int) : ByteArray := if dateOk y m d h n s = true then showN y m d h n s else ⟨#[]⟩
theorem lit_sizes : (⟨#[44, 32]⟩ : ByteArray).size = 2 ∧ (⟨#[32]⟩ : ByteArray).size = 1 ∧ (⟨#[58]⟩ : ByteArray).size = 1 ∧ (⟨#[32, 71, 77, 84]⟩ : ByteArray).size = 4 := ⟨rfl, rfl, rfl, rfl⟩
theorem showN_size {y m d h n s : Int} (G : Good y m d h n s) : (showN y m d h n s).size = 29 := by
  unfold showN
  simp only [ByteArray.size_append, twoT_size, monthT_size m G.m0 G.m1, dayT_size _ (show 0 ≤ (dayN y m d + 4) % 7 by omega) (by omega), lit_sizes.1, lit_sizes.2.1, lit_sizes.2.2.1, lit_sizes.2.2.2]
theorem spec_l2DayName_is (w : Int) (h0 : 0 ≤ w) (h1 : w ≤ 6) : spec_l2DayName.f w = some (dayT w) := by
  unfold spec_l2DayName.f
  rw [wrap_in (i := 3 * w) (by omega) (by omega), wrap_in (by omega) (by omega), if_pos (by omega), if_pos (by omega), if_pos (by omega)]
  rfl
theorem spec_l2MonthName_is (m : Int) (h0 : 1 ≤ m) (h1 : m ≤ 12) : spec_l2MonthName.f m = some (monthT m) := by
  unfold spec_l2MonthName.f
  rw [wrap_in (i := 3 * m) (by omega) (by omega), wrap_in (by omega) (by omega), if_pos (by omega), if_pos (by omega), if_pos (by omega)]
  rfl
theorem md_bound (y m : Int) : monthDays y m ≤ 31 := (monthDays_range y m).2
set_option maxHeartbeats 2000000 in
theorem spec_ShowDate_ev (y m d h n s : Int) (k : Nat) (hk : 16 ≤ k) : spec_ShowDate.f k y m d h n s = some (showR y m d h n s) := by
  unfold spec_ShowDate.f showR
  rw [spec_DateOk_is]
  simp only [Option.bind_some]
  by_cases g : dateOk y m d h n s = true
  · have G := (good_iff ..).1 g
    have hmd := md_bound y m
    have q1 := G.y0
    have q2 := G.y1
    have q3 := G.d0
    have q4 := G.d1
    have w0 : 0 ≤ (dayN y m d + 4) % 7 := by omega
    have w1 : (dayN y m d + 4) % 7 ≤ 6 := by omega
    rw [if_pos g, if_pos g, spec_Weekday_ev y m d h n s k hk, if_pos g]
    simp only [Option.bind_some]
    rw [spec_l2DayName_is _ w0 w1, spec_l2Two_is d (by omega) (by omega), spec_l2MonthName_is m G.m0 G.m1, Int.tdiv_eq_ediv_of_nonneg (by omega), wrap_in (by omega) (by omega), spec_l2Two_is (y / 100) (by omega) (by omega), spec_l2Two_is y (by omega) (by omega), spec_l2Two_is h G.h0 (by have := G.h1; omega), spec_l2Two_is n G.n0 (by have := G.n1; omega), spec_l2Two_is s G.s0 (by have := G.s1; omega)]
    simp only [Option.bind_some, ByteArray.size_append, twoT_size, monthT_size m G.m0 G.m1, dayT_size _ w0 w1, lit_sizes.1, lit_sizes.2.1, lit_sizes.2.2.1, lit_sizes.2.2.2, Nat.reduceAdd, Nat.reduceLeDiff, if_true]
    rfl
  · rw [if_neg g, if_neg g]
set_option maxHeartbeats 4000000 in
theorem impl_ShowDate_ev (y m d h n s : Int) (k : Nat) (hk : 16 ≤ k) : impl_ShowDate.f k y m d h n s = some (showR y m d h n s) := by
  unfold impl_ShowDate.f showR
  rw [impl_DateOk_is _ _ _ _ _ _ k (by omega)]
  simp only [Option.bind_some]
  by_cases g : dateOk y m d h n s = true
  · have G := (good_iff ..).1 g
    have hmd := md_bound y m
    have q1 := G.y0
    have q2 := G.y1
    have q3 := G.d0
    have q4 := G.d1
    have m0 := G.m0
    have m1 := G.m1
    have w0 : 0 ≤ (dayN y m d + 4) % 7 := by omega
    have w1 : (dayN y m d + 4) % 7 ≤ 6 := by omega
    rw [if_pos g, if_pos g, impl_Weekday_ev y m d h n s k hk, if_pos g]
    simp only [Option.bind_some]
    have hz := dayT_size _ w0 w1
    unfold showN
    generalize (dayN y m d + 4) % 7 = W at w0 w1 hz
    have e1 : wrap64 (3 * W) = 3 * W := wrap_in (by omega) (by omega)
    have e2 : wrap64 (3 * W + 3) = 3 * W + 3 := wrap_in (by omega) (by omega)
    have e3 : wrap64 (m - 1) = m - 1 := wrap_in (by omega) (by omega)
    have e4 : wrap64 (3 * (m - 1)) = 3 * m - 3 := by rw [wrap_in (by omega) (by omega)]; omega
    have e5 : wrap64 (3 * m - 3 + 3) = 3 * m := by rw [wrap_in (by omega) (by omega)]; omega
    have hd : (⟨#[83, 117, 110, 77, 111, 110, 84, 117, 101, 87, 101, 100, 84, 104, 117, 70, 114, 105, 83, 97, 116]⟩ : ByteArray).extract (3 * W).toNat (3 * W + 3).toNat = dayT W := rfl
    have hm : (⟨#[74, 97, 110, 70, 101, 98, 77, 97, 114, 65, 112, 114, 77, 97, 121, 74, 117, 110, 74, 117, 108, 65, 117, 103, 83, 101, 112, 79, 99, 116, 78, 111, 118, 68, 101, 99]⟩ : ByteArray).extract (3 * m - 3).toNat (3 * m).toNat = monthT m := rfl
    simp only [e1, e2, e3, e4, e5, hd, hm, impl_padded_two d (by omega) (by omega), impl_padded_four y (by omega) (by omega), impl_padded_two h G.h0 (by have := G.h1; omega), impl_padded_two n G.n0 (by have := G.n1; omega), impl_padded_two s G.s0 (by have := G.s1; omega), Option.bind_some, ByteArray.size_append, twoT_size, monthT_size m G.m0 G.m1, hz, lit_sizes.1, lit_sizes.2.1, lit_sizes.2.2.1, lit_sizes.2.2.2, Nat.reduceAdd, Nat.reduceLeDiff, if_true,
      show (0 : Int) ≤ 3 * W from by omega, show 3 * W ≤ 3 * W + 3 from by omega, show 3 * W + 3 ≤ 21 from by omega, show (0 : Int) ≤ 3 * m - 3 from by omega, show 3 * m - 3 ≤ 3 * m from by omega, show 3 * m ≤ 36 from by omega]
    refine congrArg some ?_
    simp only [ByteArray.append_assoc]
  · rw [if_neg g, if_neg g]
abbrev Dt := Int × Int × Int × Int × Int × Int × Bool
/-- What is read, if the text is the one that the date is shown as. -/
def dateIf (s : ByteArray) (y m d h n c : Int) : Dt := if (showR y m d h n c).toList = s.toList then (y, m, d, h, n, c, true) else (0, 0, 0, 0, 0, 0, false)
/-- The month of a name: the last one that has it. -/
def monthL (t : List UInt8) : Nat → Int → Int → Int
  | 0, _, m => m
  | k + 1, i, m => monthL t k (i + 1) (if (monthT i).data.toList = t then i else m)
def digN (s : ByteArray) (p : Nat) : Int := (numOk 10 15 digB (s.extract p (p + 2))).1
def specY (s : ByteArray) : Int := wrap64 (wrap64 (100 * digN s 12) + digN s 14)
def specM (s : ByteArray) : Int := monthL (s.extract 8 11).data.toList 12 1 0
theorem ev_month (s : ByteArray) (hs : 11 ≤ s.size) (r : Dt) : ∀ (j : Nat) (i m : Int), i = 13 - j → j ≤ 12 → Ev (fun k => spec_ReadDate.l1 k s [] [5, 12, 14, 17, 20, 23] 6 0 0 (monthL (s.extract 8 11).data.toList j i m) 0 0 0 0) r →
    Ev (fun k => spec_ReadDate.l0 k s i 0 m 0 0 0 0) r
  | 0, i, m, hi, hj, h => by
    refine Ev.step (fun k => ?_) h
    simp only [spec_ReadDate.l0]
    rw [if_neg (by omega)]
    rfl
  | j + 1, i, m, hi, hj, h => by
    have ih := ev_month s hs r j (i + 1) (if (monthT i).data.toList = (s.extract 8 11).data.toList then i else m) (by omega) (by omega) h
    refine Ev.step (fun k => ?_) ih
    simp only [spec_ReadDate.l0]
    rw [if_pos (by omega), spec_l2MonthName_is i (by omega) (by omega)]
    simp only [Option.bind_some]
    rw [if_pos (by decide), if_pos (by omega), wrap_in (by omega) (by omega), toList_data, toList_data]
    by_cases e : (monthT i).data.toList = (s.extract 8 11).data.toList
    · rw [if_pos e, if_pos e]
    · rw [if_neg e, if_neg e]
theorem ev_num (s : ByteArray) (hs : s.size = 29) (m : Int) (acc : List Int) (i p : Nat) (hi : i < 6) (hp : rd [5, 12, 14, 17, 20, 23] (i : Int) = (p : Int)) (hp2 : p + 2 ≤ 29) (ha : acc.length < 100) (r : Dt)
    (h : Ev (fun k => spec_ReadDate.l1 k s (acc ++ [digN s p]) [5, 12, 14, 17, 20, 23] 6 ((i + 1 : Nat) : Int) 0 m 0 0 0 0) r) :
    Ev (fun k => spec_ReadDate.l1 k s acc [5, 12, 14, 17, 20, 23] 6 (i : Int) 0 m 0 0 0 0) r := by
  refine Ev.step (f := fun k => (spec_Digits.f k (s.extract p (p + 2))).bind fun b => spec_ReadDate.l1 k s (acc ++ [b.1]) [5, 12, 14, 17, 20, 23] 6 ((i + 1 : Nat) : Int) 0 m 0 0 0 0) (fun k => ?_) (Ev.bind (spec_Digits_ev _) h)
  simp only [spec_ReadDate.l1]
  rw [hp, wrap_in (i := (p : Int) + 2) (by omega) (by omega), wrap_in (i := (i : Int) + 1) (by omega) (by omega), if_pos (by omega), if_pos (by omega), if_pos (show (i : Int) < (([5, 12, 14, 17, 20, 23] : List Int).length : Int) by show (i : Int) < 6; omega), if_pos (by omega), if_pos (by omega), if_pos (by omega)]
  rw [show ((p : Int)).toNat = p by omega, show ((p : Int) + 2).toNat = p + 2 by omega]
  refine congrArg _ (funext fun b => ?_)
  rw [if_pos (by omega)]
  rfl
theorem spec_ReadDate_ev (s : ByteArray) (hs : s.size = 29) : Ev (fun k => spec_ReadDate.f k s) (dateIf s (specY s) (specM s) (digN s 5) (digN s 17) (digN s 20) (digN s 23)) := by
  unfold spec_ReadDate.f
  simp only [if_pos (show (s.size : Int) = 29 by omega)]
  refine ev_month s (by omega) _ 12 1 0 (by decide) (by decide) ?_
  show Ev (fun k => spec_ReadDate.l1 k s [] [5, 12, 14, 17, 20, 23] 6 0 0 (specM s) 0 0 0 0) _
  refine ev_num s hs _ [] 0 5 (by decide) rfl (by decide) (by decide) _ ?_
  refine ev_num s hs _ _ 1 12 (by decide) rfl (by decide) (by simp) _ ?_
  refine ev_num s hs _ _ 2 14 (by decide) rfl (by decide) (by simp) _ ?_
  refine ev_num s hs _ _ 3 17 (by decide) rfl (by decide) (by simp) _ ?_
  refine ev_num s hs _ _ 4 20 (by decide) rfl (by decide) (by simp) _ ?_
  refine ev_num s hs _ _ 5 23 (by decide) rfl (by decide) (by simp) _ ?_
  simp only [List.nil_append, List.cons_append]
  refine Ev.step (f := fun k => (spec_ShowDate.f k (specY s) (specM s) (digN s 5) (digN s 17) (digN s 20) (digN s 23)).bind fun t => if t.toList = s.toList then some (specY s, specM s, digN s 5, digN s 17, digN s 20, digN s 23, true) else some (0, 0, 0, 0, 0, 0, false)) (fun k => ?_) (Ev.bind (a := showR (specY s) (specM s) (digN s 5) (digN s 17) (digN s 20) (digN s 23)) ⟨16, fun k hk => spec_ShowDate_ev _ _ _ _ _ _ k hk⟩ ?_)
  · simp only [spec_ReadDate.l1]
    rw [if_neg (by decide)]
    rfl
  · unfold dateIf
    split
    · exact Ev.now _
    · exact Ev.now _
theorem bytes2 (s : ByteArray) (h : s.size = 2) : ∃ a b, bytesOf s = [a, b] := by
  have hl : (bytesOf s).length = 2 := by rw [bytesOf_length, h]
  match e : bytesOf s, hl with
  | [a, b], _ => exact ⟨a, b, rfl⟩
theorem bytes3 (s : ByteArray) (h : s.size = 3) : ∃ a b c, bytesOf s = [a, b, c] := by
  have hl : (bytesOf s).length = 3 := by rw [bytesOf_length, h]
  match e : bytesOf s, hl with
  | [a, b, c], _ => exact ⟨a, b, c, rfl⟩
theorem show_parts {y m d h n c : Int} (G : Good y m d h n c) :
    (showN y m d h n c).extract 5 7 = twoT d ∧ (showN y m d h n c).extract 8 11 = monthT m ∧ (showN y m d h n c).extract 12 14 = twoT (y / 100) ∧ (showN y m d h n c).extract 14 16 = twoT y ∧
    (showN y m d h n c).extract 12 16 = twoT (y / 100) ++ twoT y ∧ (showN y m d h n c).extract 17 19 = twoT h ∧ (showN y m d h n c).extract 20 22 = twoT n ∧ (showN y m d h n c).extract 23 25 = twoT c := by
  obtain ⟨a0, a1, a2, ha⟩ := bytes3 _ (dayT_size _ (show 0 ≤ (dayN y m d + 4) % 7 by omega) (by omega))
  obtain ⟨b0, b1, b2, hb⟩ := bytes3 _ (monthT_size m G.m0 G.m1)
  obtain ⟨d0, d1, hd⟩ := bytes2 _ (twoT_size d)
  obtain ⟨e0, e1, he⟩ := bytes2 _ (twoT_size (y / 100))
  obtain ⟨f0, f1, hf⟩ := bytes2 _ (twoT_size y)
  obtain ⟨g0, g1, hg⟩ := bytes2 _ (twoT_size h)
  obtain ⟨i0, i1, hi⟩ := bytes2 _ (twoT_size n)
  obtain ⟨j0, j1, hj⟩ := bytes2 _ (twoT_size c)
  have hL : bytesOf (showN y m d h n c) = [a0, a1, a2, 44, 32, d0, d1, 32, b0, b1, b2, 32, e0, e1, f0, f1, 32, g0, g1, 58, i0, i1, 58, j0, j1, 32, 71, 77, 84] := by
    unfold showN
    simp only [bytes_append, ha, hb, hd, he, hf, hg, hi, hj]
    rfl
  refine ⟨?_, ?_, ?_, ?_, ?_, ?_, ?_, ?_⟩ <;> refine bytes_inj ?_ <;> rw [bytes_extract, hL]
  · rw [hd]; rfl
  · rw [hb]; rfl
  · rw [he]; rfl
  · rw [hf]; rfl
  · rw [bytes_append, he, hf]; rfl
  · rw [hg]; rfl
  · rw [hi]; rfl
  · rw [hj]; rfl
theorem twoT_bytes (n : Int) (h0 : 0 ≤ n) : bytesOf (twoT n) = [48 + n / 10 % 10, 48 + n % 10] := by
  unfold twoT ofL
  rw [bytes_ofList]
  unfold twoL
  simp only [List.map_cons, List.map_nil, UInt8.toNat_ofNat']
  congr 1
  · omega
  · congr 1
    omega
theorem dgt_num (q : Int) (h0 : 0 ≤ q) (h1 : q ≤ 9) : dgt (48 + q) = q ∧ digB (48 + q) = true := by
  have e : digB (48 + q) = (decide (0 ≤ dgt (48 + q)) && decide (dgt (48 + q) < 10)) := digB_is _
  have d : dgt (48 + q) = q := by unfold dgt; rw [if_pos (by omega)]; omega
  refine ⟨d, ?_⟩
  rw [e, d, decide_eq_true h0, decide_eq_true (by omega)]
  rfl
theorem num_two (n : Int) (h0 : 0 ≤ n) : numOk 10 15 digB (twoT n) = (n % 100, true) := by
  have a := dgt_num (n / 10 % 10) (by omega) (by omega)
  have b := dgt_num (n % 10) (by omega) (by omega)
  unfold numOk
  rw [twoT_bytes n h0, twoT_size]
  rw [if_pos ⟨by decide, by decide, by simp only [List.all_cons, List.all_nil, a.2, b.2, Bool.and_true]⟩]
  unfold numB
  simp only [List.foldl_cons, List.foldl_nil, a.1, b.1]
  congr 1
  omega
theorem num_four (y : Int) (h0 : 0 ≤ y) (h1 : y ≤ 9999) : numOk 10 15 digB (twoT (y / 100) ++ twoT y) = (y, true) := by
  have a := dgt_num (y / 100 / 10 % 10) (by omega) (by omega)
  have b := dgt_num (y / 100 % 10) (by omega) (by omega)
  have c := dgt_num (y / 10 % 10) (by omega) (by omega)
  have d := dgt_num (y % 10) (by omega) (by omega)
  unfold numOk
  rw [bytes_append, twoT_bytes _ (by omega), twoT_bytes y h0, ByteArray.size_append, twoT_size, twoT_size]
  rw [if_pos ⟨by decide, by decide, by simp only [List.cons_append, List.nil_append, List.all_cons, List.all_nil, a.2, b.2, c.2, d.2, Bool.and_true]⟩]
  unfold numB
  simp only [List.cons_append, List.nil_append, List.foldl_cons, List.foldl_nil, a.1, b.1, c.1, d.1]
  congr 1
  omega
theorem month_spec (m : Int) (h0 : 1 ≤ m) (h1 : m ≤ 12) : monthL (monthT m).data.toList 12 1 0 = m := by
  have key : ∀ i : Fin 12, monthL (monthT ((i.1 : Int) + 1)).data.toList 12 1 0 = (i.1 : Int) + 1 := by decide +kernel
  have := key ⟨(m - 1).toNat, by omega⟩
  simp only at this
  rwa [show (((m - 1).toNat : Nat) : Int) + 1 = m by omega] at this
theorem month_impl (m : Int) (h0 : 1 ≤ m) (h1 : m ≤ 12) : wrap64 (wrap64 (Int.tdiv (Lib.index monthsB.data.toList (monthT m).data.toList) 3) + 1) = m := by
  have key : ∀ i : Fin 12, wrap64 (wrap64 (Int.tdiv (Lib.index monthsB.data.toList (monthT ((i.1 : Int) + 1)).data.toList) 3) + 1) = (i.1 : Int) + 1 := by decide +kernel
  have := key ⟨(m - 1).toNat, by omega⟩
  simp only at this
  rwa [show (((m - 1).toNat : Nat) : Int) + 1 = m by omega] at this
theorem atF_of (s : ByteArray) (i j : Nat) (n : Int) (h : numOk 10 15 digB (s.extract i j) = (n, true)) : atF s i j = some n := by
  unfold atF
  rw [impl_Digits_is, h]
  rfl
theorem atF_is (s : ByteArray) (i j : Nat) : ∃ n, atF s i j = some n := by
  unfold atF
  rw [impl_Digits_is]
  exact ⟨_, rfl⟩
/-- What is shown is read. -/
theorem read_show {y m d h n c : Int} (G : Good y m d h n c) :
    specY (showN y m d h n c) = y ∧ specM (showN y m d h n c) = m ∧ digN (showN y m d h n c) 5 = d ∧ digN (showN y m d h n c) 17 = h ∧ digN (showN y m d h n c) 20 = n ∧ digN (showN y m d h n c) 23 = c ∧
    atF (showN y m d h n c) 5 7 = some d ∧ atF (showN y m d h n c) 12 16 = some y ∧ atF (showN y m d h n c) 17 19 = some h ∧ atF (showN y m d h n c) 20 22 = some n ∧ atF (showN y m d h n c) 23 25 = some c ∧ monthF (showN y m d h n c) = m := by
  obtain ⟨p1, p2, p3, p4, p5, p6, p7, p8⟩ := show_parts G
  have hmd := md_bound y m
  have g1 := G.y0
  have g2 := G.y1
  have g3 := G.d0
  have g4 := G.d1
  have g5 := G.h0
  have g6 := G.h1
  have g7 := G.n0
  have g8 := G.n1
  have g9 := G.s0
  have g10 := G.s1
  have two : ∀ x : Int, 0 ≤ x → x ≤ 99 → numOk 10 15 digB (twoT x) = (x, true) := fun x a b => by rw [num_two x a]; congr 1; omega
  refine ⟨?_, ?_, ?_, ?_, ?_, ?_, ?_, ?_, ?_, ?_, ?_, ?_⟩
  · unfold specY digN
    rw [p3, p4, num_two _ (by omega), num_two y (by omega)]
    show wrap64 (wrap64 (100 * (y / 100 % 100)) + y % 100) = y
    rw [wrap_in (i := 100 * (y / 100 % 100)) (by omega) (by omega), wrap_in (by omega) (by omega)]
    omega
  · unfold specM
    rw [p2]
    exact month_spec m G.m0 G.m1
  · unfold digN; rw [p1, two d (by omega) (by omega)]
  · unfold digN; rw [p6, two h (by omega) (by omega)]
  · unfold digN; rw [p7, two n (by omega) (by omega)]
  · unfold digN; rw [p8, two c (by omega) (by omega)]
  · exact atF_of _ _ _ _ (by rw [p1, two d (by omega) (by omega)])
  · exact atF_of _ _ _ _ (by rw [p5, num_four y (by omega) (by omega)])
  · exact atF_of _ _ _ _ (by rw [p6, two h (by omega) (by omega)])
  · exact atF_of _ _ _ _ (by rw [p7, two n (by omega) (by omega)])
  · exact atF_of _ _ _ _ (by rw [p8, two c (by omega) (by omega)])
  · unfold monthF
    rw [p2]
    exact month_impl m G.m0 G.m1
/-- A text that is shown is no empty one. -/
theorem good_of_show {s : ByteArray} (hs : s.size = 29) {y m d h n c : Int} (e : (showR y m d h n c).toList = s.toList) : Good y m d h n c ∧ s = showN y m d h n c := by
  have e2 := eq_of_toList e
  unfold showR at e2
  by_cases g : dateOk y m d h n c = true
  · rw [if_pos g] at e2
    exact ⟨(good_iff ..).1 g, e2.symm⟩
  · rw [if_neg g] at e2
    rw [← e2] at hs
    exact absurd hs (by decide)
theorem impl_ReadDate_is (s : ByteArray) (hs : s.size = 29) : impl_ReadDate.f s = some (dateIf s (specY s) (specM s) (digN s 5) (digN s 17) (digN s 20) (digN s 23)) := by
  unfold impl_ReadDate.f
  rw [if_pos hs]
  obtain ⟨d, hd⟩ := atF_is s 5 7
  obtain ⟨y, hy⟩ := atF_is s 12 16
  obtain ⟨h, hh⟩ := atF_is s 17 19
  obtain ⟨n, hn⟩ := atF_is s 20 22
  obtain ⟨c, hc⟩ := atF_is s 23 25
  rw [hd, hy, hh, hn, hc]
  simp only [Option.bind_some]
  rw [impl_DateOk_is _ _ _ _ _ _ 16 (by decide)]
  simp only [Option.bind_some]
  by_cases q : (showR (specY s) (specM s) (digN s 5) (digN s 17) (digN s 20) (digN s 23)).toList = s.toList
  · obtain ⟨G, e⟩ := good_of_show hs q
    obtain ⟨-, -, -, -, -, -, r1, r2, r3, r4, r5, r6⟩ := read_show G
    rw [← e] at r1 r2 r3 r4 r5 r6
    rw [r1] at hd
    rw [r2] at hy
    rw [r3] at hh
    rw [r4] at hn
    rw [r5] at hc
    obtain rfl := Option.some.inj hd
    obtain rfl := Option.some.inj hy
    obtain rfl := Option.some.inj hh
    obtain rfl := Option.some.inj hn
    obtain rfl := Option.some.inj hc
    rw [r6, if_pos ((good_iff ..).2 G), impl_ShowDate_ev _ _ _ _ _ _ 16 (by decide)]
    simp only [Option.bind_some]
    unfold dateIf
    rw [if_pos q, if_pos q]
  · have hno : dateIf s (specY s) (specM s) (digN s 5) (digN s 17) (digN s 20) (digN s 23) = (0, 0, 0, 0, 0, 0, false) := by unfold dateIf; rw [if_neg q]
    rw [hno]
    by_cases g : dateOk y (monthF s) d h n c = true
    · rw [if_pos g, impl_ShowDate_ev _ _ _ _ _ _ 16 (by decide)]
      simp only [Option.bind_some]
      by_cases e : (showR y (monthF s) d h n c).toList = s.toList
      · exfalso
        obtain ⟨G, e2⟩ := good_of_show hs e
        obtain ⟨t1, t2, t3, t4, t5, t6, -⟩ := read_show G
        rw [← e2] at t1 t2 t3 t4 t5 t6
        rw [t1, t2, t3, t4, t5, t6] at q
        exact q e
      · rw [if_neg e]
    · rw [if_neg g]
end Go.Proofs.YtpolkndhjcdheaaDoor.Q
namespace Go.Proofs.YtpolkndhjcdheaaDoor.Pure
set_option linter.unusedVariables false
set_option linter.unusedSimpArgs false
open Go.RowKit Go.Proofs.YtpolkndhjcdheaaDoor.P Go.Proofs.YtpolkndhjcdheaaDoor.Q Go.Proofs.YtpolkndhjcdheaaDoorW.PrintWords
theorem eqDate_self (y m d h n c : Int) : laws_eqDate.f y m d h n c y m d h n c = some true := by
 unfold laws_eqDate.f
 simp
theorem readDate_both (s : ByteArray) : ∃ r : Dt, Ev (fun k => spec_ReadDate.f k s) r ∧ impl_ReadDate.f s = some r := by
 by_cases h : s.size = 29
 ·
  exact ⟨_, spec_ReadDate_ev s h, impl_ReadDate_is s h⟩
 ·
  refine ⟨(0, 0, 0, 0, 0, 0, false), ?_, ?_⟩
  ·
   unfold spec_ReadDate.f
   simp only [if_neg (show ¬ (s.size : Int) = 29 by omega)]
   exact Ev.now _
  ·
   unfold impl_ReadDate.f
   rw [if_neg h]
theorem FnExactReadDate : laws_FnExactReadDate.Pure := by
 intro s hs
 unfold laws_FnExactReadDate.f
 obtain ⟨⟨y, m, d, h, n, c, ok⟩, h1, h2⟩ := readDate_both s
 by_cases hb : (s.size : Int) > 1048576
 ·
  exact ⟨0, by rw [if_pos hb]⟩
 ·
  simp only [if_neg hb]
  refine Ev.rounds (r := true) (Ev.bind h1 (Ev.bind (ev_const h2) ?_))
  simp only [eqDate_self, Option.bind_some, if_true]
  cases ok <;> exact Ev.now _
end Go.Proofs.YtpolkndhjcdheaaDoor.Pure
namespace Go.Proofs.YtpolkndhjcdheaaDoor.fnExactReadDate
open Go.ChangeShapes Go.WideShapes Go.ChangeAt Go.RowKit
open Go.ChangeMaps (open_string shut_string)
set_option linter.unusedVariables false
theorem own : ownKnob Tryd.prog.godebug = none := by kernel_rfl
set_option maxRecDepth 100000 in
theorem lifted (os : Os) (started : os.Started) (H : Type) (enc : TypeId × Value → H) :
    ReturnsInHanded {} Tryd.checked os 4 .any (fun w args => (Rows.fnExactReadDateSpec.pre enc Tryd.prog Tryd.f4 [] false w args ∧ laidMetH Tryd.prog Rows.fnExactReadDateRow.laid w) ∧ sizedMet enc Tryd.prog Tryd.f4 (OpenSpec.ofChange Rows.fnExactReadDateSpec) false w args) (Rows.fnExactReadDateSpec.post enc Tryd.prog Tryd.f4 false true false false) := by
  refine RowAid.handed_both (C := Tryd.checked) (X := fun w _ => laidMetH Tryd.prog Rows.fnExactReadDateRow.laid w) (fun _ _ _ hh h => h.of_heap hh) own started (by kernel_rfl) Tryd.func4
    (ChangeSpec.witness_shaped (enc := enc) (C := Tryd.checked) (os := os) (X := fun w _ => laidMetH Tryd.prog Rows.fnExactReadDateRow.laid w) false (World.laidAll Tryd.prog os Rows.fnExactReadDateRow.laid) #[.string ByteArray.empty] 8 (World.laidAll_os _ _ _)
      (World.shaped_of_ZipB (by kernel_rfl) (by kernel_rfl)) (by kernel_rfl) (by kernel_rfl) (by kernel_rfl)
      (by rw [MakeChecks.laidMetH_plain _ _ _ (by kernel_rfl)]; exact laidMet_laidAll _ (by kernel_rfl) (by kernel_rfl))) ?_
  intro W base args ds gs before hval0 hW hcnd hsz0 hL hSh _
  have hsz : (DataW.weightsEach Tryd.prog (Tryd.f4.params.toList ++ Rows.fnExactReadDateSpec.plain.varTypes Tryd.prog) (ds ++ gs)).all (· ≤ reachBytes) = true := hsz0
  have hval : ∀ (j : Nat) t v, Tryd.f4.params[j]? = some t → args[j]? = some v → Value.okWide Tryd.prog W .any base t v := hval0
  have hW' := hW
  obtain ⟨p, q, hA0, hV, rfl, hfz, hnd⟩ := hW
  have hA : DataW.TrodAll enc Tryd.prog W 0 (fun _ => true) true Tryd.f4.params.toList args.toList ds p := hA0
  rw [Tryd.params4] at hA hval hsz
  obtain ⟨v0, vs0, d0, ds0, p0, q0, hargs, rfl, rfl, h0, r0⟩ := trodAll_cons hA
  obtain ⟨rfl, rfl, rfl⟩ := trodAll_nil r0
  obtain rfl : args = #[v0] := by cases args; simp_all
  obtain ⟨rfl, rfl⟩ := trodVars_none hV
  obtain ⟨a0, rfl, rfl, rfl, y0⟩ := open_string Tryd.underlying9 (hval 0 9 v0 rfl rfl) h0
  have w0 : a0.size ≤ 140737488351232 := by
    have z := sized_string hsz (j := 0) (t := 9) rfl rfl
    rw [Array.length_toList] at z
    exact z
  clear hA0 hval0 hsz0 hsz
  have hXW := RowAid.xw_of (m := 7) hSh Rows.fnExactReadDateRow.laid hL (by kernel_rfl) (fun _ => by kernel_rfl) (fun _ => by kernel_rfl)
  refine (P.laws_FnExactReadDate.walk Pure.FnExactReadDate a0 W hXW w0).mono fun e W' ⟨he, bel⟩ => ?_
  subst he
  exact ⟨_, rfl, _, _, _, [], _, [], hW', trodAll_mk1 (shut_bool Tryd.underlying4 _), (trodAll_cons_mk (shut_string Tryd.underlying9 y0) trodAll_mk0), rfl, bel.frame _, fun h => by cases h⟩
theorem over : Rows.fnExactReadDateRow.holds Tryd.pinned (OpenSpec.ofChange Rows.fnExactReadDateSpec) :=
  OpenClaim.holds_of_wide 4 Tryd.f4 rfl rfl rfl rfl rfl rfl rfl ⟨rfl, rfl, rfl, rfl, rfl⟩ rfl rfl rfl rfl rfl (by kernel_rfl) Tryd.func4 (by kernel_rfl)
    (of_decide_eq_true (by kernel_rfl)) (by unfold Func.isWrapper; first | (rw [if_pos (by decide +kernel)]; kernel_rfl) | (rw [if_neg (by decide +kernel)]; exact ⟨rfl, rfl⟩))
    (fun os started H enc _ => lifted os started H enc)
theorem proved : Rows.FnExactReadDateSaid := over
#print axioms proved
end Go.Proofs.YtpolkndhjcdheaaDoor.fnExactReadDate
namespace Go.Proofs.YtpolkndhjcdheaaDoor
/-- The tied card, under a short name, for the claim. -/
theorem fnExactReadDate_card : Rows.FnExactReadDateCardSaid :=
  Claim7.holds_tied_plain_at .later [] [.data, .data, .data, .sentinel, .sentinel] true (true, "2134072171a85a52d68e86f520862ac0071c1be3afb9790bf4bf02533f5fb1dc") true
    fnExactReadDate.proved (fun _ h => by cases h) (by kernel_rfl) (fun _ h => by cases h) fnExactReadDate_row_tie rfl ⟨rfl, rfl⟩ (by kernel_rfl) rfl
    (fun f fn hf hfn => by
      obtain rfl : f = 4 := Option.some.inj ((show Tryd.prog.funcNamed "loop.example/g00207/laws.FnExactReadDate" = some 4 by kernel_rfl).symm.trans hf) |>.symm
      obtain rfl : fn = Tryd.f4 := (Option.some.inj (Tryd.func4.symm.trans hfn)).symm
      exact ⟨by kernel_rfl, fun j t ht => by
        rw [Tryd.params4] at ht
        have hm : t ∈ [9] := by simpa using Array.mem_of_getElem? ht
        have hall : ([9].all fun u => !Tryd.prog.wantsStandIn u) = true := by kernel_rfl
        exact (show Tryd.prog.wantsStandIn t = false by simpa using List.all_eq_true.1 hall t hm)⟩)
    (by kernel_rfl)
#print axioms fnExactReadDate_card
end Go.Proofs.YtpolkndhjcdheaaDoor
