/- Functions of the Go program as Lean functions, and proofs about them, merged out of this session's texts by its program bundle.py; conditions: those that each theorem states. -/
import Derived.Below
import Derived.ChangeOld
import Derived.Laws.BitsLemmas
import Derived.OpenShut
import Derived.ProofKit
import Derived.ShutString
import Derived.SizedLaws
import Derived.Test.YtpolkndhjcdheaaBFnDates1
import Derived.Test.YtpolkndhjcdheaaBFnDates2
import Derived.Test.YtpolkndhjcdheaaP0
import Derived.Test.YtpolkndhjcdheaaPimplDateAt
import Derived.Test.YtpolkndhjcdheaaPimplDateOk
import Derived.Test.YtpolkndhjcdheaaPimplDays
import Derived.Test.YtpolkndhjcdheaaPimplLeap
import Derived.Test.YtpolkndhjcdheaaPimplMoment
import Derived.Test.YtpolkndhjcdheaaPimplWeekday
import Derived.Test.YtpolkndhjcdheaaPimpldays
import Derived.Test.YtpolkndhjcdheaaPimpldaysIn
import Derived.Test.YtpolkndhjcdheaaPimplwithin
import Derived.Test.YtpolkndhjcdheaaPimplyearDays
import Derived.Test.YtpolkndhjcdheaaPspecDateAt
import Derived.Test.YtpolkndhjcdheaaPspecDateOk
import Derived.Test.YtpolkndhjcdheaaPspecDays
import Derived.Test.YtpolkndhjcdheaaPspecDrawDateAt
import Derived.Test.YtpolkndhjcdheaaPspecLeap
import Derived.Test.YtpolkndhjcdheaaPspecMoment
import Derived.Test.YtpolkndhjcdheaaPspecWeekday
import Derived.Test.YtpolkndhjcdheaaPspecl1Below
import Derived.Test.YtpolkndhjcdheaaPspecl1Byte
import Derived.Test.YtpolkndhjcdheaaPspecl1In
import Derived.Test.YtpolkndhjcdheaaPspecl1New
import Derived.Test.YtpolkndhjcdheaaPspecl1Once
import Derived.Test.YtpolkndhjcdheaaPspecl2Days
import Derived.Test.YtpolkndhjcdheaaPspecl2Draw
import Derived.Test.YtpolkndhjcdheaaPspecl2DrawAny
import Derived.Test.YtpolkndhjcdheaaPspecl2Month
import Derived.Test.YtpolkndhjcdheaaPspecl2Year
import Derived.Test.YtpolkndhjcdheaaRows
import Derived.Test.YtpolkndhjcdheaaWSized
import Derived.WalkKit
namespace Go.Proofs.Ytpolkndhjcdheaa.Q
open Go.RowKit Go.Proofs.YtpolkndhjcdheaaW.PrintWords Go.Proofs.YtpolkndhjcdheaaW.PrintLast Go.Proofs.YtpolkndhjcdheaaW.PrintMore

theorem wrap_in {i : Int} (h0 : -9223372036854775808 ≤ i) (h1 : i ≤ 9223372036854775807) : wrap64 i = i := by unfold wrap64; omega
theorem wrap_next {i : Nat} {n : Nat} (h : i < n) (hn : n ≤ 4611686018427387904) : wrap64 ((i : Int) + 1) = ((i + 1 : Nat) : Int) := by unfold wrap64; omega

theorem toList_data (s : ByteArray) : s.toList = s.data.toList := ByteArray.toList_eq s
theorem eq_of_toList {a b : ByteArray} (h : a.toList = b.toList) : a = b := by
  rw [toList_data, toList_data] at h
  exact ByteArray.ext (Array.toList_inj.1 h)
theorem bt_get (s : ByteArray) (i : Nat) (h : i < s.size) : (bytesOf s)[i]? = some (bt s i) := by
  rw [← rd_bytesOf]
  have h1 : i < (bytesOf s).length := by rw [bytesOf_length]; exact h
  simp [rd, List.getD_eq_getElem?_getD, List.getElem?_eq_getElem h1]
theorem drop_bt (s : ByteArray) (i : Nat) (h : i < s.size) : (bytesOf s).drop i = bt s i :: (bytesOf s).drop (i + 1) := by
  have h1 : i < (bytesOf s).length := by rw [bytesOf_length]; exact h
  rw [List.drop_eq_getElem_cons h1]
  have := bt_get s i h
  rw [List.getElem?_eq_getElem h1] at this
  rw [Option.some.inj this]
theorem mem_bytes {s : ByteArray} {c : Int} (h : c ∈ bytesOf s) : 0 ≤ c ∧ c ≤ 255 := by
  unfold bytesOf at h
  obtain ⟨b, _, rfl⟩ := List.mem_map.1 h
  have := b.toNat_lt
  omega
theorem bytes_nums (l : List Int) (h : ∀ c ∈ l, 0 ≤ c ∧ c ≤ 255) : bytesOf (strOfNums l) = l := by
  unfold bytesOf
  rw [strOfNums_data, List.map_map]
  refine (List.map_congr_left fun c hc => ?_).trans (List.map_id l)
  have := h c hc
  simp only [Function.comp, UInt8.toNat_ofNat', id]
  omega
theorem nums_bytes (s : ByteArray) : strOfNums (bytesOf s) = s := by
  apply ByteArray.ext
  apply Array.toList_inj.1
  rw [strOfNums_data]
  unfold bytesOf
  rw [List.map_map]
  refine (List.map_congr_left fun c hc => ?_).trans (List.map_id _)
  simp
theorem bytes_inj {a b : ByteArray} (h : bytesOf a = bytesOf b) : a = b := by rw [← nums_bytes a, ← nums_bytes b, h]
theorem bytes_append (a b : ByteArray) : bytesOf (a ++ b) = bytesOf a ++ bytesOf b := by
  unfold bytesOf
  rw [← List.map_append]
  simp [ByteArray.data_append]

/-- A loop over bytes: what a round does with its state and a byte; an end ahead of time. -/
def runL {σ β : Type} (f : σ → Int → σ ⊕ β) (fin : σ → β) : List Int → σ → β
  | [], st => fin st
  | c :: cs, st => match f st c with
    | .inl st' => runL f fin cs st'
    | .inr b => b
/-- The printed loop comes to what 'runL' comes to, from some number of rounds on. -/
theorem ev_run {σ β : Type} (s : ByteArray) (I : σ → Nat → Prop) (f : σ → Int → σ ⊕ β) (fin : σ → β) (g : Nat → σ → Int → Option β) (K : Nat)
    (hstep : ∀ k st (i : Nat), K ≤ k → i < s.size → I st i → (∀ st', f st (bt s i) = .inl st' → g (k + 1) st i = g k st' ((i + 1 : Nat) : Int) ∧ I st' (i + 1)) ∧ (∀ b, f st (bt s i) = .inr b → g (k + 1) st i = some b))
    (hend : ∀ k st, K ≤ k → I st s.size → g (k + 1) st (s.size : Int) = some (fin st)) (st : σ) (h0 : I st 0) :
    Ev (fun k => g k st 0) (runL f fin (bytesOf s) st) := by
  have key : ∀ (d i : Nat) (st : σ), i + d = s.size → I st i → ∀ k, K + d < k → g k st (i : Int) = some (runL f fin ((bytesOf s).drop i) st) := by
    intro d
    induction d with
    | zero =>
      intro i st hd hI k hk
      obtain ⟨k, rfl⟩ : ∃ m, k = m + 1 := ⟨k - 1, by omega⟩
      have e : i = s.size := by omega
      subst e
      rw [hend k st (by omega) hI, List.drop_of_length_le (by rw [bytesOf_length]; exact Nat.le_refl _)]
      rfl
    | succ d ih =>
      intro i st hd hI k hk
      obtain ⟨k, rfl⟩ : ∃ m, k = m + 1 := ⟨k - 1, by omega⟩
      obtain ⟨h1, h2⟩ := hstep k st i (by omega) (by omega) hI
      rw [drop_bt s i (by omega)]
      show g (k + 1) st i = some (match f st (bt s i) with | .inl st' => runL f fin ((bytesOf s).drop (i + 1)) st' | .inr b => b)
      cases hf : f st (bt s i) with
      | inl st' =>
        obtain ⟨e, hI'⟩ := h1 st' hf
        rw [e]
        exact ih (i + 1) st' (by omega) hI' k (by omega)
      | inr b => exact h2 b hf
  refine ⟨K + s.size + 1, fun k hk => ?_⟩
  have := key s.size 0 st (by omega) h0 k (by omega)
  rw [List.drop_zero] at this
  exact this

/-- A loop that asks each byte. -/
theorem ev_all (s : ByteArray) (p : Int → Bool) (g : Nat → Int → Option Bool) (K : Nat)
    (h1 : ∀ k (i : Nat), K ≤ k → i < s.size → p (bt s i) = true → g (k + 1) i = g k ((i + 1 : Nat) : Int))
    (h0 : ∀ k (i : Nat), K ≤ k → i < s.size → p (bt s i) = false → g (k + 1) i = some false)
    (he : ∀ k, K ≤ k → g (k + 1) (s.size : Int) = some true) : Ev (fun k => g k 0) ((bytesOf s).all p) := by
  have h := ev_run (σ := Unit) (β := Bool) s (fun _ _ => True) (fun _ c => if p c = true then .inl () else .inr false) (fun _ => true) (fun k _ i => g k i) K
    (fun k st i hk hi _ => ⟨fun st' e => ⟨h1 k i hk hi (by
        by_cases hp : p (bt s i) = true
        · exact hp
        · rw [if_neg hp] at e; cases e), trivial⟩, fun b e => by
        by_cases hp : p (bt s i) = true
        · rw [if_pos hp] at e; cases e
        · rw [if_neg hp] at e
          obtain rfl : false = b := by injection e
          exact h0 k i hk hi (by simpa using hp)⟩)
    (fun k st hk _ => he k hk) () trivial
  have e : ∀ l : List Int, runL (σ := Unit) (β := Bool) (fun _ c => if p c = true then .inl () else .inr false) (fun _ => true) l () = l.all p := by
    intro l
    induction l with
    | nil => rfl
    | cons c cs ih =>
      rw [List.all_cons]
      unfold runL
      by_cases hp : p c = true
      · simp only [hp, if_true, Bool.true_and]; exact ih
      · simp only [(by simpa using hp : p c = false), Bool.false_and, Bool.false_eq_true, if_false]
  rw [e] at h
  exact h
theorem runL_all {β : Type} (p : Int → Bool) (r b : β) (l : List Int) : runL (σ := Unit) (fun _ c => if p c = true then .inl () else .inr b) (fun _ => r) l () = if l.all p = true then r else b := by
  induction l with
  | nil => rfl
  | cons c cs ih =>
    rw [List.all_cons]
    unfold runL
    by_cases hp : p c = true
    · simp only [hp, if_true, Bool.true_and]; exact ih
    · simp only [(by simpa using hp : p c = false), Bool.false_and, Bool.false_eq_true, if_false]
/-- A loop that asks each byte, and goes on behind it. -/
theorem ev_allr {β : Type} (s : ByteArray) (p : Int → Bool) (r b : β) (g : Nat → Int → Option β) (K : Nat)
    (h1 : ∀ k (i : Nat), K ≤ k → i < s.size → p (bt s i) = true → g (k + 1) i = g k ((i + 1 : Nat) : Int))
    (h0 : ∀ k (i : Nat), K ≤ k → i < s.size → p (bt s i) = false → g (k + 1) i = some b)
    (he : ∀ k, K ≤ k → g (k + 1) (s.size : Int) = some r) : Ev (fun k => g k 0) (if (bytesOf s).all p = true then r else b) := by
  rw [← runL_all p r b (bytesOf s)]
  refine ev_run (σ := Unit) s (fun _ _ => True) (fun _ c => if p c = true then .inl () else .inr b) (fun _ => r) (fun k _ i => g k i) K
    (fun k st i hk hi _ => ⟨fun st' e => ⟨h1 k i hk hi (by
        by_cases hp : p (bt s i) = true
        · exact hp
        · rw [if_neg hp] at e; cases e), trivial⟩, fun b' e => by
        by_cases hp : p (bt s i) = true
        · rw [if_pos hp] at e; cases e
        · rw [if_neg hp] at e
          obtain rfl : b = b' := by injection e
          exact h0 k i hk hi (by simpa using hp)⟩)
    (fun k st hk _ => he k hk) () trivial
/-- A loop that puts something behind a list for each byte. -/
theorem runL_flat {β : Type} (f : Int → List Int) (fin : List Int → β) (l st : List Int) : runL (fun st c => .inl (st ++ f c)) fin l st = fin (st ++ l.flatMap f) := by
  induction l generalizing st with
  | nil => simp [runL]
  | cons c cs ih =>
    unfold runL
    simp only [ih, List.flatMap_cons, List.append_assoc]
theorem ev_const {α : Type} {x : Option α} {r : α} (h : x = some r) : Ev (fun _ => x) r := ⟨0, fun _ _ => h⟩
theorem ev_eq {α : Type} {g : Nat → Option α} {r r' : α} (h : Ev g r) (e : r = r') : Ev g r' := e ▸ h
/-- From a number of rounds on: a law that holds at each such number. -/
theorem ev_now {α : Type} {g : Nat → Option α} {r : α} (K : Nat) (h : ∀ k, K ≤ k → g k = some r) : Ev g r := ⟨K, h⟩
theorem all_congr' {l : List Int} {p q : Int → Bool} (h : ∀ c ∈ l, p c = q c) : l.all p = l.all q := by
  induction l with
  | nil => rfl
  | cons a l ih =>
    rw [List.all_cons, List.all_cons, h a List.mem_cons_self, ih fun c hc => h c (List.mem_cons_of_mem _ hc)]
end Go.Proofs.Ytpolkndhjcdheaa.Q
namespace Go.Proofs.Ytpolkndhjcdheaa.Q
set_option linter.unusedVariables false
set_option linter.unusedSimpArgs false
open Go.RowKit Go.Proofs.Ytpolkndhjcdheaa.P Go.Proofs.YtpolkndhjcdheaaW.PrintWords Go.Proofs.YtpolkndhjcdheaaW.PrintLast Go.Proofs.YtpolkndhjcdheaaW.PrintMore

def inB (x a b : Int) : Bool := decide (a ≤ x) && decide (x ≤ b)
theorem spec_l1In_is (x a b : Int) : spec_l1In.f x a b = some (inB x a b) := by
  unfold spec_l1In.f inB
  by_cases h : x ≥ a
  · rw [if_pos h, decide_eq_true (by omega : a ≤ x), Bool.true_and]
  · rw [if_neg h, decide_eq_false (by omega : ¬ a ≤ x), Bool.false_and]
theorem impl_within_is (x a b : Int) : impl_within.f x a b = some (inB x a b) := by
  unfold impl_within.f inB
  by_cases h : x ≥ a
  · rw [if_pos h, decide_eq_true (by omega : a ≤ x), Bool.true_and]
  · rw [if_neg h, decide_eq_false (by omega : ¬ a ≤ x), Bool.false_and]
theorem inB_true {x a b : Int} (h : inB x a b = true) : a ≤ x ∧ x ≤ b := by unfold inB at h; simpa using h
def leapB (y : Int) : Bool := if Int.tmod y 4 = 0 then (if Int.tmod y 100 = 0 then Int.tmod y 400 == 0 else true) else Int.tmod y 400 == 0
theorem spec_Leap_is (y : Int) : spec_Leap.f y = some (leapB y) := by
  unfold spec_Leap.f leapB
  split
  · split <;> rfl
  · rfl
theorem impl_Leap_is (y : Int) : impl_Leap.f y = some (leapB y) := spec_Leap_is y
/-- How many days a month has. -/
def monthDays (y m : Int) : Int := if m = 2 then (if leapB y = true then 29 else 28) else if m = 4 ∨ m = 6 ∨ m = 9 ∨ m = 11 then 30 else 31
theorem monthDays_range (y m : Int) : 28 ≤ monthDays y m ∧ monthDays y m ≤ 31 := by
  unfold monthDays
  split
  · split <;> omega
  · split <;> omega
theorem spec_l2Month_is (y m : Int) (h0 : 1 ≤ m) (h1 : m ≤ 12) : spec_l2Month.f y m = some (monthDays y m) := by
  unfold spec_l2Month.f monthDays
  rw [spec_Leap_is]
  have hm : m = 1 ∨ m = 2 ∨ m = 3 ∨ m = 4 ∨ m = 5 ∨ m = 6 ∨ m = 7 ∨ m = 8 ∨ m = 9 ∨ m = 10 ∨ m = 11 ∨ m = 12 := by omega
  rcases hm with rfl | rfl | rfl | rfl | rfl | rfl | rfl | rfl | rfl | rfl | rfl | rfl
  all_goals
    clear h0 h1
    generalize leapB y = b
    cases b <;> decide +kernel
theorem impl_daysIn_is (y m : Int) (k : Nat) (hk : 1 ≤ k) : impl_daysIn.f k y m = some (monthDays y m) := by
  obtain ⟨k, rfl⟩ : ∃ n, k = n + 1 := ⟨k - 1, by omega⟩
  unfold impl_daysIn.f monthDays
  simp only [impl_daysIn.j0, impl_Leap_is, Option.bind_some]
  by_cases h4 : m = 4
  · subst h4; simp
  · rw [if_neg h4]
    by_cases h6 : m = 6
    · subst h6; simp
    · rw [if_neg h6]
      by_cases h9 : m = 9
      · subst h9; simp
      · rw [if_neg h9]
        by_cases h11 : m = 11
        · subst h11; simp
        · have hb : (m == 11) = false := by simpa using h11
          by_cases h2 : m = 2
          · subst h2
            cases leapB y <;> simp
          · simp [hb, h2, h4, h6, h9, h11]
def dateOk (y m d h n s : Int) : Bool := inB y 1970 9999 && (inB m 1 12 && (inB d 1 (monthDays y m) && (inB h 0 23 && (inB n 0 59 && inB s 0 59))))
theorem spec_DateOk_is (y m d h n s : Int) : spec_DateOk.f y m d h n s = some (dateOk y m d h n s) := by
  unfold spec_DateOk.f dateOk
  simp only [spec_l1In_is, Option.bind_some]
  cases h1 : inB y 1970 9999
  · simp
  · cases h2 : inB m 1 12
    · simp
    · obtain ⟨a, b⟩ := inB_true h2
      simp only [if_true, spec_l2Month_is y m a b, Option.bind_some, Bool.true_and]
      cases inB d 1 (monthDays y m) <;> cases inB h 0 23 <;> cases inB n 0 59 <;> simp
theorem impl_DateOk_is (y m d h n s : Int) (k : Nat) (hk : 1 ≤ k) : impl_DateOk.f k y m d h n s = some (dateOk y m d h n s) := by
  unfold impl_DateOk.f dateOk
  simp only [impl_within_is, impl_daysIn_is y m k hk, Option.bind_some]
  cases h1 : inB y 1970 9999
  · simp
  · cases h2 : inB m 1 12
    · simp
    · cases inB d 1 (monthDays y m) <;> cases inB h 0 23 <;> cases inB n 0 59 <;> simp
/-- The days ahead of a year. -/
def yearD (y : Int) : Int := 365 * (y - 1970) + (y - 1) / 4 - (y - 1) / 100 + (y - 1) / 400 - 477
def leapN (y : Int) : Int := if leapB y = true then 1 else 0
theorem leapB_iff (y : Int) (h : 0 ≤ y) : leapB y = true ↔ (y % 4 = 0 ∧ y % 100 ≠ 0) ∨ y % 400 = 0 := by
  unfold leapB
  rw [Int.tmod_eq_emod_of_nonneg h, Int.tmod_eq_emod_of_nonneg h, Int.tmod_eq_emod_of_nonneg h]
  by_cases h4 : y % 4 = 0
  · rw [if_pos h4]
    by_cases h1 : y % 100 = 0
    · rw [if_pos h1]; simp; omega
    · rw [if_neg h1]; simp; omega
  · rw [if_neg h4]; simp; omega
theorem yearD_next (y : Int) (h : 0 ≤ y) : yearD (y + 1) = yearD y + 365 + leapN y := by
  unfold yearD leapN
  by_cases hl : leapB y = true
  · rw [if_pos hl]
    have := (leapB_iff y h).1 hl
    omega
  · rw [if_neg hl]
    have : ¬ ((y % 4 = 0 ∧ y % 100 ≠ 0) ∨ y % 400 = 0) := fun h' => hl ((leapB_iff y h).2 h')
    omega
theorem leapN_range (y : Int) : 0 ≤ leapN y ∧ leapN y ≤ 1 := by unfold leapN; split <;> omega
theorem yearD_range (y : Int) (h0 : 1970 ≤ y) (h1 : y ≤ 10000) : 0 ≤ yearD y ∧ yearD y ≤ 2932897 := by unfold yearD; omega
theorem yearD_mono (y : Int) (n : Nat) (h : 0 ≤ y) : yearD y + 365 * n ≤ yearD (y + n) := by
  induction n with
  | zero => simp
  | succ n ih =>
    have h1 := yearD_next (y + n) (by omega)
    have h2 := leapN_range (y + n)
    rw [show y + ((n + 1 : Nat) : Int) = y + n + 1 from by omega]
    omega
theorem yearD_lt (y z : Int) (h : 0 ≤ y) (hz : y < z) : yearD (y + 1) ≤ yearD z := by
  have := yearD_mono (y + 1) (z - (y + 1)).toNat (by omega)
  rw [show y + 1 + ((z - (y + 1)).toNat : Int) = z from by omega] at this
  omega
/-- The days of a year ahead of a month. -/
def monthD (y : Int) : Nat → Int
  | 0 => 0
  | m + 1 => if m = 0 then 0 else monthD y m + monthDays y m
theorem monthD_one (y : Int) : monthD y 1 = 0 := rfl
theorem monthD_next (y : Int) (m : Nat) (h : 1 ≤ m) : monthD y (m + 1) = monthD y m + monthDays y m := by
  show (if m = 0 then 0 else monthD y m + monthDays y m) = _
  rw [if_neg (by omega)]
theorem monthD_mono (y : Int) (m n : Nat) (h : 1 ≤ m) : monthD y m + 28 * n ≤ monthD y (m + n) := by
  induction n with
  | zero => simp
  | succ n ih =>
    have h1 := monthD_next y (m + n) (by omega)
    have h2 := monthDays_range y ((m + n : Nat) : Int)
    rw [show m + (n + 1) = m + n + 1 from by omega]
    omega
theorem monthD_lt (y : Int) (m n : Nat) (h : 1 ≤ m) (hn : m < n) : monthD y (m + 1) ≤ monthD y n := by
  have := monthD_mono y (m + 1) (n - (m + 1)) (by omega)
  rw [show m + 1 + (n - (m + 1)) = n from by omega] at this
  omega
theorem monthD_all (y : Int) : monthD y 13 = 365 + leapN y := by
  simp only [monthD_next y _ (by omega : 1 ≤ 12), monthD_next y _ (by omega : 1 ≤ 11), monthD_next y _ (by omega : 1 ≤ 10), monthD_next y _ (by omega : 1 ≤ 9), monthD_next y _ (by omega : 1 ≤ 8), monthD_next y _ (by omega : 1 ≤ 7), monthD_next y _ (by omega : 1 ≤ 6), monthD_next y _ (by omega : 1 ≤ 5), monthD_next y _ (by omega : 1 ≤ 4), monthD_next y _ (by omega : 1 ≤ 3), monthD_next y _ (by omega : 1 ≤ 2), monthD_next y _ (by omega : 1 ≤ 1), monthD_one]
  unfold leapN monthDays
  cases leapB y <;> simp
theorem monthD_range (y : Int) (m : Nat) (h0 : 1 ≤ m) (h1 : m ≤ 13) : 0 ≤ monthD y m ∧ monthD y m ≤ 366 := by
  have a := monthD_mono y 1 (m - 1) (Nat.le_refl _)
  have b := monthD_mono y m (13 - m) h0
  rw [show 1 + (m - 1) = m from by omega, monthD_one] at a
  rw [show m + (13 - m) = 13 from by omega, monthD_all] at b
  have := leapN_range y
  omega
/-- The days ahead of a date, its moment. -/
def dayN (y m d : Int) : Int := yearD y + monthD y m.toNat + d - 1
def momentN (y m d h n s : Int) : Int := dayN y m d * 86400 + h * 3600 + n * 60 + s
structure Good (y m d h n s : Int) : Prop where
  y0 : 1970 ≤ y
  y1 : y ≤ 9999
  m0 : 1 ≤ m
  m1 : m ≤ 12
  d0 : 1 ≤ d
  d1 : d ≤ monthDays y m
  h0 : 0 ≤ h
  h1 : h ≤ 23
  n0 : 0 ≤ n
  n1 : n ≤ 59
  s0 : 0 ≤ s
  s1 : s ≤ 59
theorem good_iff (y m d h n s : Int) : dateOk y m d h n s = true ↔ Good y m d h n s := by
  unfold dateOk inB
  simp only [Bool.and_eq_true, decide_eq_true_eq]
  constructor
  · rintro ⟨⟨a, b⟩, ⟨c, d⟩, ⟨e, f⟩, ⟨g, h⟩, ⟨i, j⟩, k, l⟩
    exact ⟨a, b, c, d, e, f, g, h, i, j, k, l⟩
  · intro g
    exact ⟨⟨g.y0, g.y1⟩, ⟨g.m0, g.m1⟩, ⟨g.d0, g.d1⟩, ⟨g.h0, g.h1⟩, ⟨g.n0, g.n1⟩, g.s0, g.s1⟩
/-- A day of a year lies within it, a day of a month within that. -/
theorem day_in {y m d : Int} (hm0 : 1 ≤ m) (hm1 : m ≤ 12) (hd0 : 1 ≤ d) (hd1 : d ≤ monthDays y m) : 0 ≤ monthD y m.toNat + d - 1 ∧ monthD y m.toNat + d - 1 < monthD y (m.toNat + 1) ∧ monthD y (m.toNat + 1) ≤ 365 + leapN y := by
  have h1 := monthD_next y m.toNat (by omega)
  rw [show ((m.toNat : Nat) : Int) = m from by omega] at h1
  have h2 := monthD_range y m.toNat (by omega) (by omega)
  have h3 := monthD_mono y (m.toNat + 1) (12 - m.toNat) (by omega)
  rw [show m.toNat + 1 + (12 - m.toNat) = 13 from by omega, monthD_all] at h3
  omega
theorem dayN_in {y m d : Int} (hy : 0 ≤ y) (hm0 : 1 ≤ m) (hm1 : m ≤ 12) (hd0 : 1 ≤ d) (hd1 : d ≤ monthDays y m) : yearD y ≤ dayN y m d ∧ dayN y m d < yearD (y + 1) := by
  have := day_in hm0 hm1 hd0 hd1
  have h2 := yearD_next y hy
  unfold dayN
  omega
theorem dayN_range {y m d h n s : Int} (g : Good y m d h n s) : 0 ≤ dayN y m d ∧ dayN y m d ≤ 2932896 := by
  have h1 := dayN_in (by have := g.y0; omega) g.m0 g.m1 g.d0 g.d1
  have h2 := yearD_range y g.y0 (by have := g.y1; omega)
  have h3 := yearD_range (y + 1) (by have := g.y0; omega) (by have := g.y1; omega)
  omega
theorem momentN_range {y m d h n s : Int} (g : Good y m d h n s) : 0 ≤ momentN y m d h n s ∧ momentN y m d h n s ≤ 253402300799 := by
  have h1 := dayN_range g
  have := g.h0; have := g.h1; have := g.n0; have := g.n1; have := g.s0; have := g.s1
  unfold momentN
  omega
/-- Each day has its year .. -/
theorem year_of (L : Int) (h0 : 0 ≤ L) (h1 : L ≤ 2932896) : ∃ y, 1970 ≤ y ∧ y ≤ 9999 ∧ yearD y ≤ L ∧ L < yearD (y + 1) := by
  have key : ∀ n : Nat, n ≤ 8030 → L < yearD (1970 + (n : Int)) → ∃ y : Int, 1970 ≤ y ∧ y < 1970 + (n : Int) ∧ yearD y ≤ L ∧ L < yearD (y + 1) := by
    intro n
    induction n with
    | zero =>
      intro _ h
      exfalso
      have e : yearD (1970 + ((0 : Nat) : Int)) = 0 := by decide
      omega
    | succ n ih =>
      intro hn h
      by_cases hl : L < yearD (1970 + (n : Int))
      · obtain ⟨y, a, b, c, d⟩ := ih (by omega) hl
        exact ⟨y, a, by omega, c, d⟩
      · exact ⟨1970 + (n : Int), by omega, by omega, by omega, by rw [show (1970 : Int) + n + 1 = 1970 + ((n + 1 : Nat) : Int) from by omega]; exact h⟩
  have e : yearD (1970 + ((8030 : Nat) : Int)) = 2932897 := by decide
  obtain ⟨y, a, b, c, d⟩ := key 8030 (Nat.le_refl _) (by omega)
  exact ⟨y, a, by omega, c, d⟩
/-- .. and its month. -/
theorem month_of (y r : Int) (h0 : 0 ≤ r) (h1 : r < 365 + leapN y) : ∃ m : Nat, 1 ≤ m ∧ m ≤ 12 ∧ monthD y m ≤ r ∧ r < monthD y (m + 1) := by
  have key : ∀ n : Nat, n ≤ 12 → r < monthD y (1 + n) → ∃ m : Nat, 1 ≤ m ∧ m < 1 + n ∧ monthD y m ≤ r ∧ r < monthD y (m + 1) := by
    intro n
    induction n with
    | zero => intro _ h; rw [monthD_one] at h; omega
    | succ n ih =>
      intro hn h
      by_cases hl : r < monthD y (1 + n)
      · obtain ⟨m, a, b, c, d⟩ := ih (by omega) hl
        exact ⟨m, a, by omega, c, d⟩
      · exact ⟨1 + n, by omega, by omega, by omega, h⟩
  obtain ⟨m, a, b, c, d⟩ := key 12 (Nat.le_refl _) (by rw [show 1 + 12 = 13 from rfl, monthD_all]; exact h1)
  exact ⟨m, a, by omega, c, d⟩
theorem date_of (t : Int) (h0 : 0 ≤ t) (h1 : t ≤ 253402300799) : ∃ y m d h n s, Good y m d h n s ∧ momentN y m d h n s = t := by
  obtain ⟨y, y0, y1, y2, y3⟩ := year_of (t / 86400) (by omega) (by omega)
  have hn := yearD_next y (by omega)
  obtain ⟨m, m0, m1, m2, m3⟩ := month_of y (t / 86400 - yearD y) (by omega) (by omega)
  have h2 := monthD_next y m m0
  refine ⟨y, m, t / 86400 - yearD y - monthD y m + 1, t % 86400 / 3600, t % 86400 / 60 % 60, t % 86400 % 60, ⟨y0, y1, by omega, by omega, by omega, by omega, by omega, by omega, by omega, by omega, by omega, by omega⟩, ?_⟩
  unfold momentN dayN
  rw [Int.toNat_natCast]
  omega
theorem spec_l2Year_is (y : Int) (h0 : 1970 ≤ y) (h1 : y ≤ 10000) : spec_l2Year.f y = some (yearD y) := by
  unfold spec_l2Year.f yearD
  refine congrArg some ?_
  rw [wrap_in (i := y - 1970) (by omega) (by omega), wrap_in (i := y - 1) (by omega) (by omega), wrap_in (i := 365 * (y - 1970)) (by omega) (by omega)]
  rw [Int.tdiv_eq_ediv_of_nonneg (by omega), Int.tdiv_eq_ediv_of_nonneg (by omega), Int.tdiv_eq_ediv_of_nonneg (by omega)]
  rw [wrap_in (i := (y - 1) / 4) (by omega) (by omega), wrap_in (i := (y - 1) / 100) (by omega) (by omega), wrap_in (i := (y - 1) / 400) (by omega) (by omega)]
  rw [wrap_in (i := 365 * (y - 1970) + (y - 1) / 4) (by omega) (by omega), wrap_in (i := 365 * (y - 1970) + (y - 1) / 4 - (y - 1) / 100) (by omega) (by omega), wrap_in (i := 365 * (y - 1970) + (y - 1) / 4 - (y - 1) / 100 + (y - 1) / 400) (by omega) (by omega)]
  exact wrap_in (by omega) (by omega)
theorem spec_l2Days_loop (y m d h n s : Int) (m0 : 1 ≤ m) (m1 : m ≤ 12) (r : Nat) : ∀ (j : Int) (acc : Int), 1 ≤ j → j + r = m → 0 ≤ acc → acc ≤ 3000000 + monthD y j.toNat → ∀ k, r + 1 < k →
    spec_l2Days.l0 k acc j y m d h n s = some (acc + monthD y m.toNat - monthD y j.toNat) := by
  induction r with
  | zero =>
    intro j acc j0 hj a0 a1 k hk
    obtain ⟨k, rfl⟩ : ∃ z, k = z + 1 := ⟨k - 1, by omega⟩
    simp only [spec_l2Days.l0]
    rw [if_neg (by omega), show j = m from by omega]
    exact congrArg some (by omega)
  | succ r ih =>
    intro j acc j0 hj a0 a1 k hk
    obtain ⟨k, rfl⟩ : ∃ z, k = z + 1 := ⟨k - 1, by omega⟩
    have hk : 1 ≤ k := by omega
    have hr := monthDays_range y j
    have hn := monthD_next y j.toNat (by omega)
    rw [show ((j.toNat : Nat) : Int) = j from by omega] at hn
    have hg := monthD_range y j.toNat (by omega) (by omega)
    simp only [spec_l2Days.l0]
    rw [if_pos (by omega), spec_l2Month_is y j (by omega) (by omega)]
    simp only [Option.bind_some]
    rw [wrap_in (by omega) (by omega), wrap_in (by omega) (by omega)]
    have e : (j + 1).toNat = j.toNat + 1 := by omega
    rw [ih (j + 1) (acc + monthDays y j) (by omega) (by omega) (by omega) (by rw [e]; omega) k (by omega), e]
    exact congrArg some (by omega)
theorem spec_l2Days_ev {y m d h n s : Int} (g : Good y m d h n s) (k : Nat) (hk : 16 ≤ k) : spec_l2Days.f k y m d h n s = some (dayN y m d) := by
  have hr := yearD_range y g.y0 (by have := g.y1; omega)
  have hm := monthDays_range y m
  have d0 := g.d0
  have d1 := g.d1
  have m0 := g.m0
  have m1 := g.m1
  unfold spec_l2Days.f
  rw [spec_l2Year_is y g.y0 (by have := g.y1; omega)]
  simp only [Option.bind_some]
  rw [wrap_in (i := yearD y + d) (by omega) (by omega), wrap_in (by omega) (by omega)]
  rw [spec_l2Days_loop y m d h n s m0 m1 (m - 1).toNat 1 _ (by omega) (by omega) (by omega) (by rw [show (1 : Int).toNat = 1 from rfl, monthD_one]; omega) k (by omega)]
  unfold dayN
  rw [show (1 : Int).toNat = 1 from rfl, monthD_one]
  exact congrArg some (by omega)


theorem impl_yearDays_is (y : Int) (h0 : 1970 ≤ y) (h1 : y ≤ 10000) : impl_yearDays.f y = some (yearD y) := by
  unfold impl_yearDays.f yearD
  refine congrArg some ?_
  rw [wrap_in (i := y - 1970) (by omega) (by omega), wrap_in (i := y - 1) (by omega) (by omega), wrap_in (i := 365 * (y - 1970)) (by omega) (by omega)]
  rw [Int.tdiv_eq_ediv_of_nonneg (by omega), Int.tdiv_eq_ediv_of_nonneg (by omega), Int.tdiv_eq_ediv_of_nonneg (by omega)]
  rw [wrap_in (i := (y - 1) / 4) (by omega) (by omega), wrap_in (i := (y - 1) / 100) (by omega) (by omega), wrap_in (i := (y - 1) / 400) (by omega) (by omega)]
  rw [wrap_in (i := 365 * (y - 1970) + (y - 1) / 4) (by omega) (by omega), wrap_in (i := 365 * (y - 1970) + (y - 1) / 4 - (y - 1) / 100) (by omega) (by omega), wrap_in (i := 365 * (y - 1970) + (y - 1) / 4 - (y - 1) / 100 + (y - 1) / 400) (by omega) (by omega)]
  exact wrap_in (by omega) (by omega)
theorem impl_days_loop (y m d h n s : Int) (m0 : 1 ≤ m) (m1 : m ≤ 12) (r : Nat) : ∀ (j : Int) (acc : Int), 1 ≤ j → j + r = m → 0 ≤ acc → acc ≤ 3000000 + monthD y j.toNat → ∀ k, r + 1 < k →
    impl_days.l0 k acc j y m d h n s = some (acc + monthD y m.toNat - monthD y j.toNat) := by
  induction r with
  | zero =>
    intro j acc j0 hj a0 a1 k hk
    obtain ⟨k, rfl⟩ : ∃ z, k = z + 1 := ⟨k - 1, by omega⟩
    simp only [impl_days.l0]
    rw [if_neg (by omega), show j = m from by omega]
    exact congrArg some (by omega)
  | succ r ih =>
    intro j acc j0 hj a0 a1 k hk
    obtain ⟨k, rfl⟩ : ∃ z, k = z + 1 := ⟨k - 1, by omega⟩
    have hk : 1 ≤ k := by omega
    have hr := monthDays_range y j
    have hn := monthD_next y j.toNat (by omega)
    rw [show ((j.toNat : Nat) : Int) = j from by omega] at hn
    have hg := monthD_range y j.toNat (by omega) (by omega)
    simp only [impl_days.l0]
    rw [if_pos (by omega), impl_daysIn_is y j k hk]
    simp only [Option.bind_some]
    rw [wrap_in (by omega) (by omega), wrap_in (by omega) (by omega)]
    have e : (j + 1).toNat = j.toNat + 1 := by omega
    rw [ih (j + 1) (acc + monthDays y j) (by omega) (by omega) (by omega) (by rw [e]; omega) k (by omega), e]
    exact congrArg some (by omega)
theorem impl_days_ev {y m d h n s : Int} (g : Good y m d h n s) (k : Nat) (hk : 16 ≤ k) : impl_days.f k y m d h n s = some (dayN y m d) := by
  have hr := yearD_range y g.y0 (by have := g.y1; omega)
  have hm := monthDays_range y m
  have d0 := g.d0
  have d1 := g.d1
  have m0 := g.m0
  have m1 := g.m1
  unfold impl_days.f
  rw [impl_yearDays_is y g.y0 (by have := g.y1; omega)]
  simp only [Option.bind_some]
  rw [wrap_in (i := yearD y + d) (by omega) (by omega), wrap_in (by omega) (by omega)]
  rw [impl_days_loop y m d h n s m0 m1 (m - 1).toNat 1 _ (by omega) (by omega) (by omega) (by rw [show (1 : Int).toNat = 1 from rfl, monthD_one]; omega) k (by omega)]
  unfold dayN
  rw [show (1 : Int).toNat = 1 from rfl, monthD_one]
  exact congrArg some (by omega)

theorem spec_Days_ev (y m d h n s : Int) (k : Nat) (hk : 16 ≤ k) : spec_Days.f k y m d h n s = some (if dateOk y m d h n s = true then dayN y m d else -1) := by
  unfold spec_Days.f
  rw [spec_DateOk_is]
  simp only [Option.bind_some]
  by_cases g : dateOk y m d h n s = true
  · rw [if_pos g, if_pos g, spec_l2Days_ev ((good_iff ..).1 g) k hk]; rfl
  · rw [if_neg g, if_neg g]

theorem spec_Weekday_ev (y m d h n s : Int) (k : Nat) (hk : 16 ≤ k) : spec_Weekday.f k y m d h n s = some (if dateOk y m d h n s = true then (dayN y m d + 4) % 7 else -1) := by
  unfold spec_Weekday.f
  rw [spec_DateOk_is]
  simp only [Option.bind_some]
  by_cases g : dateOk y m d h n s = true
  · have G := (good_iff ..).1 g
    have hr := dayN_range G
    rw [if_pos g, if_pos g, spec_l2Days_ev G k hk]
    simp only [Option.bind_some]
    rw [wrap_in (by omega) (by omega), Int.tmod_eq_emod_of_nonneg (by omega)]
  · rw [if_neg g, if_neg g]

theorem spec_Moment_ev (y m d h n s : Int) (k : Nat) (hk : 16 ≤ k) : spec_Moment.f k y m d h n s = some (if dateOk y m d h n s = true then momentN y m d h n s else -1) := by
  unfold spec_Moment.f
  rw [spec_DateOk_is]
  simp only [Option.bind_some]
  by_cases g : dateOk y m d h n s = true
  · have G := (good_iff ..).1 g
    have hr := dayN_range G
    have := G.h0; have := G.h1; have := G.n0; have := G.n1; have := G.s0; have := G.s1
    rw [if_pos g, if_pos g, spec_l2Days_ev G k hk]
    simp only [Option.bind_some]
    unfold momentN
    rw [wrap_in (i := dayN y m d * 86400) (by omega) (by omega), wrap_in (i := h * 3600) (by omega) (by omega), wrap_in (i := dayN y m d * 86400 + h * 3600) (by omega) (by omega), wrap_in (i := n * 60) (by omega) (by omega), wrap_in (i := dayN y m d * 86400 + h * 3600 + n * 60) (by omega) (by omega)]
    exact congrArg some (wrap_in (by omega) (by omega))
  · rw [if_neg g, if_neg g]

theorem impl_Days_ev (y m d h n s : Int) (k : Nat) (hk : 16 ≤ k) : impl_Days.f k y m d h n s = some (if dateOk y m d h n s = true then dayN y m d else -1) := by
  unfold impl_Days.f
  rw [impl_DateOk_is _ _ _ _ _ _ k (by omega)]
  simp only [Option.bind_some]
  by_cases g : dateOk y m d h n s = true
  · rw [if_pos g, if_pos g, impl_days_ev ((good_iff ..).1 g) k hk]; rfl
  · rw [if_neg g, if_neg g]

theorem impl_Weekday_ev (y m d h n s : Int) (k : Nat) (hk : 16 ≤ k) : impl_Weekday.f k y m d h n s = some (if dateOk y m d h n s = true then (dayN y m d + 4) % 7 else -1) := by
  unfold impl_Weekday.f
  rw [impl_DateOk_is _ _ _ _ _ _ k (by omega)]
  simp only [Option.bind_some]
  by_cases g : dateOk y m d h n s = true
  · have G := (good_iff ..).1 g
    have hr := dayN_range G
    rw [if_pos g, if_pos g, impl_days_ev G k hk]
    simp only [Option.bind_some]
    rw [wrap_in (by omega) (by omega), Int.tmod_eq_emod_of_nonneg (by omega)]
  · rw [if_neg g, if_neg g]

theorem impl_Moment_ev (y m d h n s : Int) (k : Nat) (hk : 16 ≤ k) : impl_Moment.f k y m d h n s = some (if dateOk y m d h n s = true then momentN y m d h n s else -1) := by
  unfold impl_Moment.f
  rw [impl_DateOk_is _ _ _ _ _ _ k (by omega)]
  simp only [Option.bind_some]
  by_cases g : dateOk y m d h n s = true
  · have G := (good_iff ..).1 g
    have hr := dayN_range G
    have := G.h0; have := G.h1; have := G.n0; have := G.n1; have := G.s0; have := G.s1
    rw [if_pos g, if_pos g, impl_days_ev G k hk]
    simp only [Option.bind_some]
    unfold momentN
    rw [wrap_in (i := dayN y m d * 86400) (by omega) (by omega), wrap_in (i := h * 3600) (by omega) (by omega), wrap_in (i := dayN y m d * 86400 + h * 3600) (by omega) (by omega), wrap_in (i := n * 60) (by omega) (by omega), wrap_in (i := dayN y m d * 86400 + h * 3600 + n * 60) (by omega) (by omega)]
    exact congrArg some (wrap_in (by omega) (by omega))
  · rw [if_neg g, if_neg g]


theorem spec_DateAt_months (y m : Int) (L S : Int) (m0 : 1 ≤ m) (m1 : m ≤ 12) (h0 : monthD y m.toNat ≤ L) (h1 : L < monthD y (m.toNat + 1)) (s0 : 0 ≤ S) (s1 : S < 86400) (r : Nat) : ∀ (j : Int), 1 ≤ j → j + r = m → ∀ k, r + 2 < k →
    spec_DateAt.l1 k (L - monthD y j.toNat) S y j = some (y, m, L - monthD y m.toNat + 1, S / 3600, S / 60 % 60, S % 60) := by
  have g0 := monthD_range y m.toNat (by omega) (by omega)
  have g1 := monthD_range y (m.toNat + 1) (by omega) (by omega)
  induction r with
  | zero =>
    intro j j0 hj k hk
    obtain ⟨k, rfl⟩ : ∃ z, k = z + 1 := ⟨k - 1, by omega⟩
    obtain rfl : j = m := by omega
    have hn := monthD_next y j.toNat (by omega)
    rw [show ((j.toNat : Nat) : Int) = j from by omega] at hn
    simp only [spec_DateAt.l1]
    rw [spec_l2Month_is y j (by omega) (by omega)]
    simp only [Option.bind_some]
    rw [if_neg (by omega)]
    rw [Int.tdiv_eq_ediv_of_nonneg s0, Int.tdiv_eq_ediv_of_nonneg s0, Int.tmod_eq_emod_of_nonneg s0, wrap_in (i := L - monthD y j.toNat + 1) (by omega) (by omega), wrap_in (i := S / 3600) (by omega) (by omega), wrap_in (i := S / 60) (by omega) (by omega), Int.tmod_eq_emod_of_nonneg (by omega)]
  | succ r ih =>
    intro j j0 hj k hk
    obtain ⟨k, rfl⟩ : ∃ z, k = z + 1 := ⟨k - 1, by omega⟩
    have hn := monthD_next y j.toNat (by omega)
    rw [show ((j.toNat : Nat) : Int) = j from by omega] at hn
    have hl := monthD_lt y j.toNat m.toNat (by omega) (by omega)
    have gj := monthD_range y j.toNat (by omega) (by omega)
    have hr := monthDays_range y j
    have e : (j + 1).toNat = j.toNat + 1 := by omega
    have hi := ih (j + 1) (by omega) (by omega) k (by omega)
    rw [e, hn] at hi
    simp only [spec_DateAt.l1]
    rw [spec_l2Month_is y j (by omega) (by omega)]
    simp only [Option.bind_some]
    rw [if_pos (by omega), wrap_in (i := L - monthD y j.toNat - monthDays y j) (by omega) (by omega), wrap_in (i := j + 1) (by omega) (by omega)]
    rw [show L - monthD y j.toNat - monthDays y j = L - (monthD y j.toNat + monthDays y j) from by omega]
    exact hi
theorem spec_DateAt_years (y m : Int) (L S : Int) (y0 : 1970 ≤ y) (y1 : y ≤ 9999) (h0 : yearD y ≤ L) (h1 : L < yearD (y + 1)) (m0 : 1 ≤ m) (m1 : m ≤ 12) (h2 : monthD y m.toNat ≤ L - yearD y) (h3 : L - yearD y < monthD y (m.toNat + 1)) (s0 : 0 ≤ S) (s1 : S < 86400) (r : Nat) : ∀ (z : Int), 1970 ≤ z → z + r = y → ∀ k, r + 20 < k →
    spec_DateAt.l0 k L S z = some (y, m, L - yearD y - monthD y m.toNat + 1, S / 3600, S / 60 % 60, S % 60) := by
  have g0 := yearD_range y y0 (by omega)
  have g1 := yearD_range (y + 1) (by omega) (by omega)
  induction r with
  | zero =>
    intro z z0 hz k hk
    obtain ⟨k, rfl⟩ : ∃ q, k = q + 1 := ⟨k - 1, by omega⟩
    obtain rfl : z = y := by omega
    simp only [spec_DateAt.l0]
    rw [wrap_in (i := z + 1) (by omega) (by omega), spec_l2Year_is (z + 1) (by omega) (by omega)]
    simp only [Option.bind_some]
    rw [if_neg (by omega), spec_l2Year_is z (by omega) (by omega)]
    simp only [Option.bind_some]
    rw [wrap_in (i := L - yearD z) (by omega) (by omega)]
    have hm := spec_DateAt_months z m (L - yearD z) S m0 m1 h2 h3 s0 s1 (m - 1).toNat 1 (by omega) (by omega) k (by omega)
    rw [show (1 : Int).toNat = 1 from rfl, monthD_one, Int.sub_zero] at hm
    exact hm
  | succ r ih =>
    intro z z0 hz k hk
    obtain ⟨k, rfl⟩ : ∃ q, k = q + 1 := ⟨k - 1, by omega⟩
    have hl := yearD_lt z y (by omega) (by omega)
    simp only [spec_DateAt.l0]
    rw [wrap_in (i := z + 1) (by omega) (by omega), spec_l2Year_is (z + 1) (by omega) (by omega)]
    simp only [Option.bind_some]
    rw [if_pos (by omega)]
    exact ih (z + 1) (by omega) (by omega) k (by omega)
theorem spec_DateAt_at {y m d h n s : Int} (g : Good y m d h n s) (k : Nat) (hk : 9000 ≤ k) : spec_DateAt.f k (momentN y m d h n s) = some (y, m, d, h, n, s) := by
  have hr := momentN_range g
  have hd := dayN_range g
  have hy := dayN_in (by have := g.y0; omega) g.m0 g.m1 g.d0 g.d1
  have hm := day_in g.m0 g.m1 g.d0 g.d1
  have := g.h0; have := g.h1; have := g.n0; have := g.n1; have := g.s0; have := g.s1; have := g.y0; have := g.y1; have := g.d0
  have e1 : momentN y m d h n s / 86400 = dayN y m d := by unfold momentN; omega
  have e2 : momentN y m d h n s % 86400 = h * 3600 + n * 60 + s := by unfold momentN; omega
  unfold spec_DateAt.f
  rw [spec_l1In_is, show inB (momentN y m d h n s) 0 253402300799 = true from by unfold inB; simp; omega]
  simp only [Option.bind_some, if_true]
  rw [Int.tdiv_eq_ediv_of_nonneg hr.1, Int.tmod_eq_emod_of_nonneg hr.1, e1, e2, wrap_in (i := dayN y m d) (by omega) (by omega), Int.tdiv_eq_ediv_of_nonneg hd.1, wrap_in (i := dayN y m d / 366) (by omega) (by omega), wrap_in (i := 1970 + dayN y m d / 366) (by omega) (by omega)]
  have hb : 1970 + dayN y m d / 366 ≤ y := by
    have h1 := yearD_range y g.y0 (by omega)
    have h2 : yearD (y + 1) ≤ 366 * (y + 1 - 1970) := by unfold yearD; omega
    omega
  have hz := spec_DateAt_years y m (dayN y m d) (h * 3600 + n * 60 + s) g.y0 g.y1 hy.1 hy.2 g.m0 g.m1 (by unfold dayN; omega) (by unfold dayN; omega) (by omega) (by omega) (y - (1970 + dayN y m d / 366)).toNat (1970 + dayN y m d / 366) (by omega) (by omega) k (by omega)
  rw [hz]
  have e3 : dayN y m d - yearD y - monthD y m.toNat + 1 = d := by unfold dayN; omega
  rw [e3, show (h * 3600 + n * 60 + s) / 3600 = h from by omega, show (h * 3600 + n * 60 + s) / 60 % 60 = n from by omega, show (h * 3600 + n * 60 + s) % 60 = s from by omega]
theorem spec_DateAt_out (t : Int) (h : t < 0 ∨ 253402300799 < t) (k : Nat) : spec_DateAt.f k t = some (0, 0, 0, 0, 0, 0) := by
  unfold spec_DateAt.f
  rw [spec_l1In_is, show inB t 0 253402300799 = false from by unfold inB; simp; omega]
  rfl


theorem impl_DateAt_months (y m : Int) (L S : Int) (m0 : 1 ≤ m) (m1 : m ≤ 12) (h0 : monthD y m.toNat ≤ L) (h1 : L < monthD y (m.toNat + 1)) (s0 : 0 ≤ S) (s1 : S < 86400) (r : Nat) : ∀ (j : Int), 1 ≤ j → j + r = m → ∀ k, r + 2 < k →
    impl_DateAt.l1 k (L - monthD y j.toNat) S y j = some (y, m, L - monthD y m.toNat + 1, S / 3600, S / 60 % 60, S % 60) := by
  have g0 := monthD_range y m.toNat (by omega) (by omega)
  have g1 := monthD_range y (m.toNat + 1) (by omega) (by omega)
  induction r with
  | zero =>
    intro j j0 hj k hk
    obtain ⟨k, rfl⟩ : ∃ z, k = z + 1 := ⟨k - 1, by omega⟩
    obtain rfl : j = m := by omega
    have hn := monthD_next y j.toNat (by omega)
    rw [show ((j.toNat : Nat) : Int) = j from by omega] at hn
    simp only [impl_DateAt.l1]
    rw [impl_daysIn_is y j k (by omega)]
    simp only [Option.bind_some]
    rw [if_neg (by omega)]
    rw [Int.tdiv_eq_ediv_of_nonneg s0, Int.tdiv_eq_ediv_of_nonneg s0, Int.tmod_eq_emod_of_nonneg s0, wrap_in (i := L - monthD y j.toNat + 1) (by omega) (by omega), wrap_in (i := S / 3600) (by omega) (by omega), wrap_in (i := S / 60) (by omega) (by omega), Int.tmod_eq_emod_of_nonneg (by omega)]
  | succ r ih =>
    intro j j0 hj k hk
    obtain ⟨k, rfl⟩ : ∃ z, k = z + 1 := ⟨k - 1, by omega⟩
    have hn := monthD_next y j.toNat (by omega)
    rw [show ((j.toNat : Nat) : Int) = j from by omega] at hn
    have hl := monthD_lt y j.toNat m.toNat (by omega) (by omega)
    have gj := monthD_range y j.toNat (by omega) (by omega)
    have hr := monthDays_range y j
    have e : (j + 1).toNat = j.toNat + 1 := by omega
    have hi := ih (j + 1) (by omega) (by omega) k (by omega)
    rw [e, hn] at hi
    simp only [impl_DateAt.l1]
    rw [impl_daysIn_is y j k (by omega)]
    simp only [Option.bind_some]
    rw [if_pos (by omega), wrap_in (i := L - monthD y j.toNat - monthDays y j) (by omega) (by omega), wrap_in (i := j + 1) (by omega) (by omega)]
    rw [show L - monthD y j.toNat - monthDays y j = L - (monthD y j.toNat + monthDays y j) from by omega]
    exact hi
theorem impl_DateAt_years (y m : Int) (L S : Int) (y0 : 1970 ≤ y) (y1 : y ≤ 9999) (h0 : yearD y ≤ L) (h1 : L < yearD (y + 1)) (m0 : 1 ≤ m) (m1 : m ≤ 12) (h2 : monthD y m.toNat ≤ L - yearD y) (h3 : L - yearD y < monthD y (m.toNat + 1)) (s0 : 0 ≤ S) (s1 : S < 86400) (r : Nat) : ∀ (z : Int), 1970 ≤ z → z + r = y → ∀ k, r + 20 < k →
    impl_DateAt.l0 k L S z 1 = some (y, m, L - yearD y - monthD y m.toNat + 1, S / 3600, S / 60 % 60, S % 60) := by
  have g0 := yearD_range y y0 (by omega)
  have g1 := yearD_range (y + 1) (by omega) (by omega)
  induction r with
  | zero =>
    intro z z0 hz k hk
    obtain ⟨k, rfl⟩ : ∃ q, k = q + 1 := ⟨k - 1, by omega⟩
    obtain rfl : z = y := by omega
    simp only [impl_DateAt.l0]
    rw [wrap_in (i := z + 1) (by omega) (by omega), impl_yearDays_is (z + 1) (by omega) (by omega)]
    simp only [Option.bind_some]
    rw [if_neg (by omega), impl_yearDays_is z (by omega) (by omega)]
    simp only [Option.bind_some]
    rw [wrap_in (i := L - yearD z) (by omega) (by omega)]
    have hm := impl_DateAt_months z m (L - yearD z) S m0 m1 h2 h3 s0 s1 (m - 1).toNat 1 (by omega) (by omega) k (by omega)
    rw [show (1 : Int).toNat = 1 from rfl, monthD_one, Int.sub_zero] at hm
    exact hm
  | succ r ih =>
    intro z z0 hz k hk
    obtain ⟨k, rfl⟩ : ∃ q, k = q + 1 := ⟨k - 1, by omega⟩
    have hl := yearD_lt z y (by omega) (by omega)
    simp only [impl_DateAt.l0]
    rw [wrap_in (i := z + 1) (by omega) (by omega), impl_yearDays_is (z + 1) (by omega) (by omega)]
    simp only [Option.bind_some]
    rw [if_pos (by omega)]
    exact ih (z + 1) (by omega) (by omega) k (by omega)
theorem impl_DateAt_at {y m d h n s : Int} (g : Good y m d h n s) (k : Nat) (hk : 9000 ≤ k) : impl_DateAt.f k (momentN y m d h n s) = some (y, m, d, h, n, s) := by
  have hr := momentN_range g
  have hd := dayN_range g
  have hy := dayN_in (by have := g.y0; omega) g.m0 g.m1 g.d0 g.d1
  have hm := day_in g.m0 g.m1 g.d0 g.d1
  have := g.h0; have := g.h1; have := g.n0; have := g.n1; have := g.s0; have := g.s1; have := g.y0; have := g.y1; have := g.d0
  have e1 : momentN y m d h n s / 86400 = dayN y m d := by unfold momentN; omega
  have e2 : momentN y m d h n s % 86400 = h * 3600 + n * 60 + s := by unfold momentN; omega
  unfold impl_DateAt.f
  rw [impl_within_is, show inB (momentN y m d h n s) 0 253402300799 = true from by unfold inB; simp; omega]
  simp only [Option.bind_some, if_true]
  rw [Int.tdiv_eq_ediv_of_nonneg hr.1, Int.tmod_eq_emod_of_nonneg hr.1, e1, e2, wrap_in (i := dayN y m d) (by omega) (by omega), Int.tdiv_eq_ediv_of_nonneg hd.1, wrap_in (i := dayN y m d / 366) (by omega) (by omega), wrap_in (i := 1970 + dayN y m d / 366) (by omega) (by omega)]
  have hb : 1970 + dayN y m d / 366 ≤ y := by
    have h1 := yearD_range y g.y0 (by omega)
    have h2 : yearD (y + 1) ≤ 366 * (y + 1 - 1970) := by unfold yearD; omega
    omega
  have hz := impl_DateAt_years y m (dayN y m d) (h * 3600 + n * 60 + s) g.y0 g.y1 hy.1 hy.2 g.m0 g.m1 (by unfold dayN; omega) (by unfold dayN; omega) (by omega) (by omega) (y - (1970 + dayN y m d / 366)).toNat (1970 + dayN y m d / 366) (by omega) (by omega) k (by omega)
  rw [hz]
  have e3 : dayN y m d - yearD y - monthD y m.toNat + 1 = d := by unfold dayN; omega
  rw [e3, show (h * 3600 + n * 60 + s) / 3600 = h from by omega, show (h * 3600 + n * 60 + s) / 60 % 60 = n from by omega, show (h * 3600 + n * 60 + s) % 60 = s from by omega]
theorem impl_DateAt_out (t : Int) (h : t < 0 ∨ 253402300799 < t) (k : Nat) : impl_DateAt.f k t = some (0, 0, 0, 0, 0, 0) := by
  unfold impl_DateAt.f
  rw [impl_within_is, show inB t 0 253402300799 = false from by unfold inB; simp; omega]
  rfl
/-- From some number of rounds on it answers, and the answer is as told. -/
def TotP {α : Type} (g : Nat → Option α) (P : α → Prop) : Prop := ∃ r, Ev g r ∧ P r
theorem TotP.bind {α β : Type} {g : Nat → Option α} {f : Nat → α → Option β} {P : α → Prop} {Q : β → Prop} (h : TotP g P) (k : ∀ a, P a → TotP (fun n => f n a) Q) : TotP (fun n => (g n).bind (f n)) Q := by
  obtain ⟨a, ha, pa⟩ := h
  obtain ⟨b, hb, qb⟩ := k a pa
  exact ⟨b, Ev.bind ha hb, qb⟩
theorem TotP.of {α : Type} {x : Option α} {P : α → Prop} (h : ∃ r, x = some r ∧ P r) : TotP (fun _ => x) P := by
  obtain ⟨r, e, p⟩ := h
  exact ⟨r, ev_const e, p⟩
theorem TotP.now {α : Type} {r : α} {P : α → Prop} (p : P r) : TotP (fun _ => some r) P := ⟨r, Ev.now r, p⟩
theorem TotP.imp {α : Type} {g : Nat → Option α} {P Q : α → Prop} (h : TotP g P) (pq : ∀ r, P r → Q r) : TotP g Q := by
  obtain ⟨r, e, p⟩ := h
  exact ⟨r, e, pq r p⟩
theorem TotP.step {α : Type} {g f : Nat → Option α} {P : α → Prop} (h : ∀ k, g (k + 1) = f k) (t : TotP f P) : TotP g P := by
  obtain ⟨r, e, p⟩ := t
  exact ⟨r, Ev.step h e, p⟩
theorem TotP.ite {α : Type} {c : Prop} [Decidable c] {f g : Nat → Option α} {P : α → Prop} (hf : c → TotP f P) (hg : ¬ c → TotP g P) : TotP (fun k => if c then f k else g k) P := by
  by_cases h : c
  · simp only [if_pos h]; exact hf h
  · simp only [if_neg h]; exact hg h
theorem bindOf {α β : Type} {x : Option α} {f : α → Option β} {P : α → Prop} {Q : β → Prop} (h : ∃ r, x = some r ∧ P r) (k : ∀ a, P a → ∃ r, f a = some r ∧ Q r) : ∃ r, x.bind f = some r ∧ Q r := by
  obtain ⟨a, rfl, p⟩ := h
  exact k a p

theorem and255 (a : Int) : 0 ≤ Go.bits .and .i64 a 255 ∧ Go.bits .and .i64 a 255 ≤ 255 := by
  unfold Go.bits
  have h : ((BitVec.ofInt IntKind.i64.bits a) &&& (BitVec.ofInt IntKind.i64.bits 255)).toNat ≤ 255 := by
    rw [BitVec.toNat_and]
    exact Nat.le_trans Nat.and_le_right (by decide)
  show 0 ≤ IntKind.i64.wrap ((((BitVec.ofInt IntKind.i64.bits a) &&& (BitVec.ofInt IntKind.i64.bits 255)).toNat : Nat) : Int) ∧ IntKind.i64.wrap ((((BitVec.ofInt IntKind.i64.bits a) &&& (BitVec.ofInt IntKind.i64.bits 255)).toNat : Nat) : Int) ≤ 255
  generalize ((BitVec.ofInt IntKind.i64.bits a) &&& (BitVec.ofInt IntKind.i64.bits 255)).toNat = n at h ⊢
  rw [IntKind.wrap_i64]
  omega
/-- The cursor's place is no negative number. -/
theorem byte_ok (b : List Int) (i h : Int) (h0 : 0 ≤ i) (hb : b.length ≤ 140737488351232) : ∃ r : Int × Int × Int, spec_l1Byte.f b i h = some r ∧ (0 ≤ r.1 ∧ r.1 ≤ 255 ∧ 0 ≤ r.2.1) := by
  unfold spec_l1Byte.f
  by_cases hi : i < (b.length : Int)
  · rw [if_pos hi, if_pos h0]
    exact ⟨_, rfl, (and255 _).1, (and255 _).2, by show 0 ≤ wrap64 (i + 1); rw [wrap_in (by omega) (by omega)]; omega⟩
  · rw [if_neg hi]
    exact ⟨_, rfl, (and255 _).1, (and255 _).2, h0⟩
theorem below_ok (b : List Int) (i h n : Int) (h0 : 0 ≤ i) (hb : b.length ≤ 140737488351232) :
    ∃ r : Int × Int × Int, spec_l1Below.f b i h n = some r ∧ (0 ≤ r.1 ∧ (0 < n → r.1 < n) ∧ (n ≤ 0 → r.1 = 0) ∧ 0 ≤ r.2.1) := by
  unfold spec_l1Below.f
  by_cases hn : n ≤ 0
  · rw [if_pos hn]
    exact ⟨_, rfl, by show (0 : Int) ≤ 0; omega, fun h => by omega, fun _ => rfl, h0⟩
  · rw [if_neg hn]
    by_cases h2 : n ≤ 256
    · rw [if_pos h2]
      refine bindOf (byte_ok b i h h0 hb) fun r ⟨r0, r1, r2⟩ => ?_
      rw [if_neg (by omega)]
      refine ⟨_, rfl, ?_, fun _ => ?_, fun h => by omega, r2⟩
      · show 0 ≤ Int.tmod r.1 n
        rw [Int.tmod_eq_emod_of_nonneg r0]; exact Int.emod_nonneg _ (by omega)
      · show Int.tmod r.1 n < n
        rw [Int.tmod_eq_emod_of_nonneg r0]; exact Int.emod_lt_of_pos _ (by omega)
    · rw [if_neg h2]
      refine bindOf (byte_ok b i h h0 hb) fun r ⟨r0, r1, r2⟩ => ?_
      refine bindOf (byte_ok b _ _ r2 hb) fun s ⟨s0, s1, s2⟩ => ?_
      refine bindOf (byte_ok b _ _ s2 hb) fun t ⟨t0, t1, t2⟩ => ?_
      refine bindOf (byte_ok b _ _ t2 hb) fun u ⟨u0, u1, u2⟩ => ?_
      rw [if_neg (by omega)]
      rw [wrap_in (i := r.1 * 16777216) (by omega) (by omega), wrap_in (i := s.1 * 65536) (by omega) (by omega), wrap_in (i := r.1 * 16777216 + s.1 * 65536) (by omega) (by omega), wrap_in (i := t.1 * 256) (by omega) (by omega), wrap_in (i := r.1 * 16777216 + s.1 * 65536 + t.1 * 256) (by omega) (by omega), wrap_in (i := r.1 * 16777216 + s.1 * 65536 + t.1 * 256 + u.1) (by omega) (by omega)]
      refine ⟨_, rfl, ?_, fun _ => ?_, fun h => by omega, u2⟩
      · show 0 ≤ Int.tmod _ n
        rw [Int.tmod_eq_emod_of_nonneg (by omega)]; exact Int.emod_nonneg _ (by omega)
      · show Int.tmod _ n < n
        rw [Int.tmod_eq_emod_of_nonneg (by omega)]; exact Int.emod_lt_of_pos _ (by omega)
theorem once_ok (b : List Int) (i h n : Int) (h0 : 0 ≤ i) (hb : b.length ≤ 140737488351232) :
    ∃ r : Bool × Int × Int, spec_l1Once.f b i h n = some r ∧ 0 ≤ r.2.1 := by
  unfold spec_l1Once.f
  exact bindOf (below_ok b i h n h0 hb) fun r ⟨_, _, _, r3⟩ => ⟨_, rfl, r3⟩
theorem new_loop (b : List Int) (hb : b.length ≤ 140737488351232) (d : Nat) : ∀ (i : Nat) (x : Int), i + d = b.length → ∃ h, ∀ k, d < k → spec_l1New.l0 k b x (i : Int) = some (b, 0, h) := by
  induction d with
  | zero =>
    intro i x hd
    refine ⟨x, fun k hk => ?_⟩
    obtain ⟨k, rfl⟩ : ∃ z, k = z + 1 := ⟨k - 1, by omega⟩
    simp only [spec_l1New.l0]
    rw [if_neg (by omega)]
  | succ d ih =>
    intro i x hd
    obtain ⟨h, hh⟩ := ih (i + 1) (Go.bits .and .i64 (wrap64 ((wrap64 ((wrap64 (x * 137)) + (wrap64 (rd b (i : Int))))) + 11)) 1073741823) (by omega)
    refine ⟨h, fun k hk => ?_⟩
    obtain ⟨k, rfl⟩ : ∃ z, k = z + 1 := ⟨k - 1, by omega⟩
    simp only [spec_l1New.l0]
    rw [if_pos (by omega), if_pos (by omega), wrap_in (i := (i : Int) + 1) (by omega) (by omega)]
    exact hh k (by omega)
theorem new_ok (b : List Int) (hb : b.length ≤ 140737488351232) : TotP (fun k => spec_l1New.f k b) (fun r => r.1 = b ∧ 0 ≤ r.2.1) := by
  obtain ⟨h, hh⟩ := new_loop b hb b.length 0 (wrap64 (109013 + (b.length : Int))) (by omega)
  refine ⟨(b, 0, h), ⟨b.length + 1, fun k hk => ?_⟩, rfl, by show (0 : Int) ≤ 0; omega⟩
  unfold spec_l1New.f
  exact hh k (by omega)
theorem dateAt_tot (t : Int) : TotP (fun k => spec_DateAt.f k t) (fun _ => True) := by
  by_cases h : t < 0 ∨ 253402300799 < t
  · exact ⟨_, ⟨0, fun k _ => spec_DateAt_out t h k⟩, trivial⟩
  · obtain ⟨y, m, d, hh, n, s, g, rfl⟩ := date_of t (by omega) (by omega)
    exact ⟨_, ⟨9000, fun k hk => spec_DateAt_at g k hk⟩, trivial⟩
theorem l2Draw_ok (b : List Int) (i h : Int) (h0 : 0 ≤ i) (hb : b.length ≤ 140737488351232) : TotP (fun k => spec_l2Draw.f k b i h) (fun r => 0 ≤ r.2.2.2.2.2.2.1) := by
  unfold spec_l2Draw.f
  refine TotP.bind (TotP.of (once_ok b i h 2 h0 hb)) fun r0 p0 => TotP.ite (fun _ => ?_) (fun _ => ?_)
  · refine TotP.bind (TotP.of (below_ok b _ _ 2000 p0 hb)) fun r1 p1 => ?_
    refine TotP.bind (dateAt_tot _) fun r2 _ => ?_
    exact TotP.now p1.2.2.2
  · refine TotP.bind (TotP.of ⟨_, rfl, rfl⟩) fun (l : List Int) (e : ([1970, 1971, 1972, 1999, 2000, 2001, 2024, 2100, 2400, 9999] : List Int) = l) => ?_
    refine TotP.bind (TotP.of (below_ok b _ _ 10 p0 hb)) fun r1 p1 => TotP.ite (fun _ => TotP.ite (fun _ => ?_) (fun c => absurd (p1.2.1 (by omega)) (by rw [← e] at c; exact c))) (fun c => absurd p1.1 c)
    refine TotP.bind (TotP.of (below_ok b _ _ 12 p1.2.2.2 hb)) fun r2 p2 => ?_
    refine TotP.bind (TotP.of (below_ok b _ _ 31 p2.2.2.2 hb)) fun r3 p3 => ?_
    refine TotP.bind (TotP.of (below_ok b _ _ 24 p3.2.2.2 hb)) fun r4 p4 => ?_
    refine TotP.bind (TotP.of (below_ok b _ _ 60 p4.2.2.2 hb)) fun r5 p5 => ?_
    refine TotP.bind (TotP.of (below_ok b _ _ 60 p5.2.2.2 hb)) fun r6 p6 => ?_
    refine TotP.bind (TotP.of (once_ok b _ _ 4 p6.2.2.2 hb)) fun r7 p7 => TotP.ite (fun _ => ?_) (fun _ => TotP.now p7)
    refine TotP.bind (TotP.of (below_ok b _ _ 2 p7 hb)) fun r8 p8 => TotP.now p8.2.2.2
theorem l2DrawAny_ok (b : List Int) (i h : Int) (h0 : 0 ≤ i) (hb : b.length ≤ 140737488351232) : TotP (fun k => spec_l2DrawAny.f k b i h) (fun r => 0 ≤ r.2.2.2.2.2.2.1) := by
  unfold spec_l2DrawAny.f
  refine TotP.bind (l2Draw_ok b i h h0 hb) fun r0 p0 => ?_
  refine TotP.bind (TotP.of (once_ok b _ _ 10 p0 hb)) fun r1 p1 => TotP.ite (fun _ => ?_) (fun _ => TotP.now p1)
  refine TotP.bind (TotP.of (below_ok b _ _ 4 p1 hb)) fun r2 p2 => TotP.ite (fun _ => ?_) (fun _ => TotP.ite (fun _ => ?_) (fun _ => TotP.ite (fun _ => ?_) (fun _ => TotP.ite (fun _ => ?_) (fun _ => TotP.now p2.2.2.2))))
  · refine TotP.bind (TotP.of ⟨_, rfl, rfl⟩) fun (l : List Int) (e : ([1969, 10000, 0, (-9223372036854775808)] : List Int) = l) => ?_
    exact TotP.bind (TotP.of (below_ok b _ _ 4 p2.2.2.2 hb)) fun r3 p3 => TotP.ite (fun _ => TotP.ite (fun _ => TotP.now p3.2.2.2) (fun c => absurd (p3.2.1 (by omega)) (by rw [← e] at c; exact c))) (fun c => absurd p3.1 c)
  · refine TotP.bind (TotP.of ⟨_, rfl, rfl⟩) fun (l : List Int) (e : ([0, 13, (-1)] : List Int) = l) => ?_
    exact TotP.bind (TotP.of (below_ok b _ _ 3 p2.2.2.2 hb)) fun r3 p3 => TotP.ite (fun _ => TotP.ite (fun _ => TotP.now p3.2.2.2) (fun c => absurd (p3.2.1 (by omega)) (by rw [← e] at c; exact c))) (fun c => absurd p3.1 c)
  · refine TotP.bind (TotP.of ⟨_, rfl, rfl⟩) fun (l : List Int) (e : ([0, 31, 32] : List Int) = l) => ?_
    exact TotP.bind (TotP.of (below_ok b _ _ 3 p2.2.2.2 hb)) fun r3 p3 => TotP.ite (fun _ => TotP.ite (fun _ => TotP.now p3.2.2.2) (fun c => absurd (p3.2.1 (by omega)) (by rw [← e] at c; exact c))) (fun c => absurd p3.1 c)
  · refine TotP.bind (TotP.of ⟨_, rfl, rfl⟩) fun (l : List Int) (e : ([(-1), 24] : List Int) = l) => ?_
    refine TotP.bind (TotP.of (below_ok b _ _ 2 p2.2.2.2 hb)) fun r3 p3 => TotP.ite (fun _ => TotP.ite (fun _ => ?_) (fun c => absurd (p3.2.1 (by omega)) (by rw [← e] at c; exact c))) (fun c => absurd p3.1 c)
    refine TotP.bind (TotP.of ⟨_, rfl, rfl⟩) fun (l2 : List Int) (e2 : ([0, 60] : List Int) = l2) => ?_
    exact TotP.bind (TotP.of (below_ok b _ _ 2 p3.2.2.2 hb)) fun r4 p4 => TotP.ite (fun _ => TotP.ite (fun _ => TotP.now p4.2.2.2) (fun c => absurd (p4.2.1 (by omega)) (by rw [← e2] at c; exact c))) (fun c => absurd p4.1 c)
theorem drawDateOk_ok (b : List Int) (hb : b.length ≤ 140737488351232) : TotP (fun k => spec_DrawDateOk.f k b) (fun _ => True) := by
  unfold spec_DrawDateOk.f
  exact TotP.bind (new_ok b hb) fun r p => TotP.bind (l2DrawAny_ok _ _ _ p.2 (by rw [p.1]; exact hb)) fun _ _ => TotP.now trivial
theorem drawMoment_ok (b : List Int) (hb : b.length ≤ 140737488351232) : TotP (fun k => spec_DrawMoment.f k b) (fun _ => True) := by
  unfold spec_DrawMoment.f
  exact TotP.bind (drawDateOk_ok b hb) fun _ _ => TotP.now trivial
theorem drawDateAt_ok (b : List Int) (hb : b.length ≤ 140737488351232) : TotP (fun k => spec_DrawDateAt.f k b) (fun _ => True) := by
  unfold spec_DrawDateAt.f
  refine TotP.bind (new_ok b hb) fun r p => ?_
  have hb' : r.1.length ≤ 140737488351232 := by rw [p.1]; exact hb
  refine TotP.bind (TotP.of (once_ok _ _ _ 5 p.2 hb')) fun r0 p0 => TotP.ite (fun _ => ?_) (fun _ => ?_)
  · refine TotP.bind (TotP.of ⟨_, rfl, rfl⟩) fun (l : List Int) (e : ([(-1), 0, 86399, 86400, 253402300799, 253402300800, (-9223372036854775808)] : List Int) = l) => ?_
    exact TotP.bind (TotP.of (below_ok _ _ _ 7 p0 hb')) fun r3 p3 => TotP.ite (fun _ => TotP.ite (fun _ => TotP.now trivial) (fun c => absurd (p3.2.1 (by omega)) (by rw [← e] at c; exact c))) (fun c => absurd p3.1 c)
  · exact TotP.bind (TotP.of (below_ok _ _ _ 200000 p0 hb')) fun _ _ => TotP.now trivial
end Go.Proofs.Ytpolkndhjcdheaa.Q
namespace Go.Proofs.Ytpolkndhjcdheaa.Pure
set_option linter.unusedVariables false
set_option linter.unusedSimpArgs false
open Go.RowKit Go.Proofs.Ytpolkndhjcdheaa.P Go.Proofs.Ytpolkndhjcdheaa.Q Go.Proofs.YtpolkndhjcdheaaW.PrintWords
theorem nextDay {y m d h n s y2 m2 d2 h2 n2 s2 : Int} (g : Q.Good y m d h n s) (g2 : Q.Good y2 m2 d2 h2 n2 s2) (e : momentN y2 m2 d2 h2 n2 s2 = momentN y m d h n s + 86400) :
  dayN y2 m2 d2 = dayN y m d + 1 ∧ h2 = h ∧ (y2 > y ∨ (y2 = y ∧ (m2 > m ∨ (m2 = m ∧ d2 = d + 1)))) := by
 have := g.h0; have := g.h1; have := g.n0; have := g.n1; have := g.s0; have := g.s1
 have := g2.h0; have := g2.h1; have := g2.n0; have := g2.n1; have := g2.s0; have := g2.s1
 have e1 : dayN y2 m2 d2 = dayN y m d + 1 := by unfold momentN at e; omega
 have e2 : h2 = h := by unfold momentN at e; omega
 refine ⟨e1, e2, ?_⟩
 have a := dayN_in (by have := g.y0; omega) g.m0 g.m1 g.d0 g.d1
 have b := dayN_in (by have := g2.y0; omega) g2.m0 g2.m1 g2.d0 g2.d1
 have c := day_in g.m0 g.m1 g.d0 g.d1
 have f := day_in g2.m0 g2.m1 g2.d0 g2.d1
 have := g.m0; have := g2.m0; have := g.d0; have := g2.d0
 by_cases h1 : y2 > y
 ·
  exact Or.inl h1
 ·
  by_cases h2 : y2 < y
  ·
   have := yearD_lt y2 y (by have := g2.y0; omega) h2
   omega
  ·
   have hy : y2 = y := by omega
   subst hy
   refine Or.inr ⟨rfl, ?_⟩
   by_cases h3 : m2 > m
   ·
    exact Or.inl h3
   ·
    by_cases h4 : m2 < m
    ·
     have := monthD_lt y2 m2.toNat m.toNat (by omega) (by omega)
     unfold dayN at e1
     omega
    ·
     have hm : m2 = m := by omega
     subst hm
     exact Or.inr ⟨rfl, by unfold dayN at e1; omega⟩
theorem j2_true {y m d h n s : Int} (g : Q.Good y m d h n s) (k : Nat) (hk : 9001 ≤ k) : laws_FnDates.j2 k (momentN y m d h n s) false y m d h n s = some true := by
 obtain ⟨k, rfl⟩ : ∃ z, k = z + 1 := ⟨k - 1, by omega⟩
 have hr := momentN_range g
 simp only [laws_FnDates.j2]
 rw [if_neg (by decide), wrap_in (i := momentN y m d h n s + 86400) (by omega) (by omega)]
 by_cases hb : momentN y m d h n s + 86400 > 253402300799
 ·
  rw [if_pos hb]
 ·
  rw [if_neg hb]
  obtain ⟨y2, m2, d2, h2, n2, s2, g2, e⟩ := date_of (momentN y m d h n s + 86400) (by omega) (by omega)
  rw [← e, impl_DateAt_at g2 k (by omega)]
  simp only [Option.bind_some]
  rw [impl_Weekday_ev _ _ _ _ _ _ k (by omega), impl_Weekday_ev _ _ _ _ _ _ k (by omega), if_pos ((good_iff _ _ _ _ _ _).2 g), if_pos ((good_iff _ _ _ _ _ _).2 g2)]
  simp only [Option.bind_some]
  obtain ⟨e1, e2, e3⟩ := nextDay g g2 e
  have hd := dayN_range g
  have ew : (dayN y2 m2 d2 + 4) % 7 = Int.tmod (wrap64 ((dayN y m d + 4) % 7 + 1)) 7 := by
   rw [wrap_in (by omega) (by omega), Int.tmod_eq_emod_of_nonneg (by omega), e1]
   omega
  rw [if_pos ew, e2]
  have et : (some (h == h) : Option Bool) = some true := by simp
  rw [et]
  have := g.d1
  have := monthDays_range y m
  have := g.d0
  rw [wrap_in (i := d + 1) (by omega) (by omega)]
  rcases e3 with e3 | ⟨e3, e4 | ⟨e4, e5⟩⟩
  ·
   rw [if_pos e3]
  ·
   rw [if_neg (by omega), if_pos e3, if_pos e4]
  ·
   rw [if_neg (by omega), if_pos e3, if_neg (by omega), if_pos e4, if_pos e5]
theorem j1_true (y m d h n s : Int) (k : Nat) (hk : 9002 ≤ k) : laws_FnDates.j1 k (if dateOk y m d h n s = true then momentN y m d h n s else -1) false y m d h n s = some true := by
 obtain ⟨k, rfl⟩ : ∃ z, k = z + 1 := ⟨k - 1, by omega⟩
 simp only [laws_FnDates.j1]
 rw [if_neg (by decide)]
 by_cases ho : dateOk y m d h n s = true
 ·
  have g := (good_iff _ _ _ _ _ _).1 ho
  have hr := momentN_range g
  have hd := dayN_range g
  have := g.h0; have := g.h1; have := g.n0; have := g.n1; have := g.s0; have := g.s1
  have e1 : momentN y m d h n s / 86400 = dayN y m d := by unfold momentN; omega
  rw [if_pos ho, if_neg (by omega), impl_DateAt_at g k (by omega), impl_Days_ev _ _ _ _ _ _ k (by omega), if_pos ho]
  simp only [Option.bind_some]
  rw [if_neg (by simp), Int.tdiv_eq_ediv_of_nonneg hr.1, e1, wrap_in (i := dayN y m d) (by omega) (by omega), show (dayN y m d != dayN y m d) = false from by simp]
  exact j2_true g k (by omega)
 ·
  rw [if_neg ho, if_pos (by omega), impl_DateOk_is _ _ _ _ _ _ k (by omega)]
  simp only [Option.bind_some]
  rw [Bool.not_eq_true] at ho
  rw [ho]
  rfl
theorem j0_true (y m d h n s t : Int) (e : Int × Int × Int × Int × Int × Int) (k : Nat) (hk : 9003 ≤ k) (he : impl_DateAt.f k t = some e) :
  laws_FnDates.j0 k (if dateOk y m d h n s = true then momentN y m d h n s else -1) t false y m d h n s e.1 e.2.1 e.2.2.1 e.2.2.2.1 e.2.2.2.2.1 e.2.2.2.2.2 = some true := by
 obtain ⟨k, rfl⟩ : ∃ z, k = z + 1 := ⟨k - 1, by omega⟩
 simp only [laws_FnDates.j0]
 rw [if_neg (by decide)]
 by_cases h0 : t ≥ 0
 ·
  rw [if_pos h0]
  by_cases h1 : t ≤ 253402300799
  ·
   rw [if_pos h1]
   obtain ⟨y2, m2, d2, h2, n2, s2, g2, rfl⟩ := date_of t h0 h1
   rw [impl_DateAt_at g2 (k + 1) (by omega)] at he
   obtain rfl := Option.some.inj he
   simp only []
   rw [impl_Moment_ev _ _ _ _ _ _ k (by omega), if_pos ((good_iff _ _ _ _ _ _).2 g2)]
   simp only [Option.bind_some]
   rw [show (momentN y2 m2 d2 h2 n2 s2 != momentN y2 m2 d2 h2 n2 s2) = false from by simp]
   exact j1_true y m d h n s k (by omega)
  ·
   rw [if_neg h1]
   exact j1_true y m d h n s k (by omega)
 ·
  rw [if_neg h0]
  exact j1_true y m d h n s k (by omega)
theorem both_DateAt (t : Int) (k : Nat) (hk : 9000 ≤ k) : ∃ e, impl_DateAt.f k t = some e ∧ spec_DateAt.f k t = some e := by
 by_cases h : t < 0 ∨ 253402300799 < t
 ·
  exact ⟨_, impl_DateAt_out t h k, spec_DateAt_out t h k⟩
 ·
  obtain ⟨y, m, d, hh, n, s, g, rfl⟩ := date_of t (by omega) (by omega)
  exact ⟨_, impl_DateAt_at g k hk, spec_DateAt_at g k hk⟩
theorem FnDates : laws_FnDates.Pure := by
 intro l hl hs hx
 obtain ⟨d, ⟨K1, h1⟩, _⟩ := drawMoment_ok l (by omega)
 obtain ⟨t, ⟨K2, h2⟩, _⟩ := drawDateAt_ok l (by omega)
 refine ⟨K1 + K2 + 9003, ?_⟩
 obtain ⟨e, i1, i2⟩ := both_DateAt t (K1 + K2 + 9003) (by omega)
 unfold laws_FnDates.f laws_big.f
 simp only [Option.bind_some]
 by_cases hb : decide ((l.length : Int) > 4096) = true
 ·
  rw [if_pos hb]
 ·
  have w1 : spec_DrawMoment.f (K1 + K2 + 9003) l = some d := h1 _ (by omega)
  have w2 : spec_DrawDateAt.f (K1 + K2 + 9003) l = some t := h2 _ (by omega)
  rw [if_neg hb, w1, w2]
  obtain ⟨y, m, dd, h, n, s⟩ := d
  simp only [Option.bind_some]
  rw [impl_Moment_ev _ _ _ _ _ _ _ (by omega), spec_Moment_ev _ _ _ _ _ _ _ (by omega)]
  simp only [Option.bind_some]
  rw [i1, i2, impl_Days_ev _ _ _ _ _ _ _ (by omega), spec_Days_ev _ _ _ _ _ _ _ (by omega), impl_Weekday_ev _ _ _ _ _ _ _ (by omega), spec_Weekday_ev _ _ _ _ _ _ _ (by omega), impl_DateOk_is _ _ _ _ _ _ _ (by omega), spec_DateOk_is, impl_Leap_is, spec_Leap_is]
  simp only [Option.bind_some, if_true, beq_self_eq_true, bne_self_eq_false, Bool.not_true, Bool.or_false, if_false, Bool.false_eq_true]
  exact j0_true y m dd h n s t e _ (by omega) i1
end Go.Proofs.Ytpolkndhjcdheaa.Pure
namespace Go.Proofs.Ytpolkndhjcdheaa.fnDates
open Go.ChangeShapes Go.WideShapes Go.ChangeAt Go.RowKit
open Go.ChangeMaps (open_string shut_string)
set_option linter.unusedVariables false
theorem own : ownKnob Try.prog.godebug = none := by kernel_rfl
theorem laidOut : laidOutB Try.prog = true := by kernel_rfl
def IsRow (k : IntKind) (w : World) (a : Option Addr) (len cap : Nat) (zs : List Int) : Prop :=
  (a = none ∧ len = 0 ∧ cap = 0 ∧ zs = []) ∨
  ∃ x, a = some x ∧ len ≤ cap ∧ cap ≤ maxLen ∧ zs.length = cap ∧ (∀ i, i < zs.length → w.cell? (x.add i) = some (.int k (zs.getD i 0))) ∧ ∀ n ∈ zs, (Lit.int k n).wf = true
set_option maxRecDepth 100000 in
theorem lifted (os : Os) (started : os.Started) (H : Type) (enc : TypeId × Value → H) :
    ReturnsInHanded {} Try.checked os 3 .any (Rows.fnDatesSpec.pre6 enc Try.prog Try.f3 Rows.fnDatesRow.domain false) (Rows.fnDatesSpec.post enc Try.prog Try.f3 false true false false) := by
  refine returnsInHanded_of_change_sized (C := Try.checked) own started (by kernel_rfl) Try.func3
    (ChangeSpec.witness6 (enc := enc) (C := Try.checked) false ⟨#[], #[.slice none 0 0], []⟩ 8 (by kernel_rfl) (by kernel_rfl) (by kernel_rfl) (by kernel_rfl)) ?_
  intro W base args ds gs before hval0 hW hcnd hsz0 _
  have hsz : (DataW.weightsEach Try.prog (Try.f3.params.toList ++ Rows.fnDatesSpec.plain.varTypes Try.prog) (ds ++ gs)).all (· ≤ reachBytes) = true := hsz0
  have hval : ∀ (j : Nat) t v, Try.f3.params[j]? = some t → args[j]? = some v → Value.okWide Try.prog W .any base t v := hval0
  have hW' := hW
  obtain ⟨p, q, hA0, hV, rfl, hfz, hnd⟩ := hW
  have hA : DataW.TrodAll enc Try.prog W 0 (fun _ => true) true Try.f3.params.toList args.toList ds p := hA0
  rw [Try.params3] at hA hval hsz
  obtain ⟨v0, vs0, d0, ds0, p0, q0, hargs, rfl, rfl, h0, r0⟩ := trodAll_cons hA
  obtain ⟨rfl, rfl, rfl⟩ := trodAll_nil r0
  obtain rfl : args = #[v0] := by cases args; simp_all
  obtain ⟨rfl, rfl⟩ := trodVars_none hV
  obtain ⟨a0, len0, cap0, rfl⟩ := okWide_slice Try.underlying22 (hval 0 22 v0 rfl rfl)
  have k0 := h0
  have lt0 : ∀ x ∈ p0, x.block < W.heap.size := by obtain ⟨m, hm⟩ := k0; exact DataW.trod_lt m _ _ _ hm
  obtain ⟨z0, w0⟩ : ∃ zs, IsRow .u8 W a0 len0 cap0 zs := by
    obtain ⟨fuel, hf⟩ := h0
    rcases open_ints Try.underlying22 Try.underlying5 (by kernel_rfl) hf with ⟨hcs, _⟩ | ⟨x, l, c, zs, hcs, _, hl, hm, hz, _, hcell, hwz⟩
    · simp [Value.cells] at hcs
      obtain ⟨rfl, rfl, rfl⟩ := hcs
      exact ⟨[], .inl ⟨rfl, rfl, rfl, rfl⟩⟩
    · simp [Value.cells] at hcs
      obtain ⟨rfl, rfl, rfl⟩ := hcs
      exact ⟨zs, .inr ⟨_, rfl, hl, hm, by simpa using hz, hcell, hwz⟩⟩
  have y0 : len0 * 1 ≤ 140737488351232 := Go.Proofs.YtpolkndhjcdheaaW.PrintWords.sized_ints hsz (j := 0) (t := 22) rfl rfl Try.underlying22 Try.underlying5 (by kernel_rfl) (by kernel_rfl) h0
  clear hA0 hval0 hsz0 hsz
  refine (P.laws_FnDates.walk Pure.FnDates a0 len0 cap0 z0 W w0 y0).mono fun e W' ⟨he, bel⟩ => ?_
  subst he
  exact ⟨_, rfl, _, _, _, [], _, [], hW', trodAll_mk1 (shut_bool Try.underlying4 _), (trodAll_cons_mk (Below.trod laidOut (by kernel_rfl) (of_decide_eq_true (by kernel_rfl)) k0 bel lt0) trodAll_mk0), rfl, bel.frame _, fun h => by cases h⟩
theorem over : Rows.fnDatesRow.holds Try.pinned (OpenSpec.ofChange Rows.fnDatesSpec) :=
  OpenClaim.holds_of_wide 3 Try.f3 rfl rfl rfl rfl rfl rfl rfl ⟨rfl, rfl, rfl, rfl, rfl⟩ rfl rfl rfl rfl rfl (by kernel_rfl) Try.func3 (by kernel_rfl)
    (of_decide_eq_true (by kernel_rfl)) (by unfold Func.isWrapper; first | (rw [if_pos (by decide +kernel)]; kernel_rfl) | (rw [if_neg (by decide +kernel)]; exact ⟨rfl, rfl⟩))
    (fun os started H enc _ => lifted os started H enc)
theorem proved : Rows.FnDatesSaid := over
#print axioms proved
end Go.Proofs.Ytpolkndhjcdheaa.fnDates
namespace Go.Proofs.Ytpolkndhjcdheaa
/-- The row, under a short name, for the claim. -/
theorem fnDates_holds : Rows.FnDatesSaid := fnDates.proved
end Go.Proofs.Ytpolkndhjcdheaa
