/-
  Digits and HexDigits of spec and impl: a text's number, and whether it is one. No condition.
-/
import Derived.Test.YtdcjobjhccepkaaDoorP0
import Derived.Test.YtdcjobjhccepkaaDoorGParseInt
import Derived.Test.YtdcjobjhccepkaaDoorPimplDigits
import Derived.Test.YtdcjobjhccepkaaDoorPimplHexDigits
import Derived.Test.YtdcjobjhccepkaaDoorPspecDigits
import Derived.Test.YtdcjobjhccepkaaDoorPspecHexDigits
import Derived.Test.YtdcjobjhccepkaaDoorQ0
import Derived.Test.YtdcjobjhccepkaaDoorQall
namespace Go.Proofs.YtdcjobjhccepkaaDoor.Q
set_option linter.unusedVariables false
set_option linter.unusedSimpArgs false
open Go.RowKit Go.Proofs.YtdcjobjhccepkaaDoor.P Go.Proofs.YtdcjobjhccepkaaDoorW.PrintWords Go.Proofs.YtdcjobjhccepkaaDoorW.PrintLast Go.Proofs.YtdcjobjhccepkaaDoorW.PrintMore

theorem dgt_hex (c : Int) : dgt c = hexV c := by
  unfold dgt hexV digB
  by_cases h : 48 ≤ c ∧ c ≤ 57
  · rw [if_pos h, if_pos (by simp [h])]
  · have hb : (decide (48 ≤ c) && decide (c ≤ 57)) = false := by simp; omega
    rw [if_neg h, hb]
    simp
theorem hexV_lt (c : Int) : hexV c < 16 := by
  rw [← dgt_hex]
  unfold dgt
  split
  · omega
  · split
    · omega
    · split <;> omega
theorem hexB_is (c : Int) : hexB c = (decide (0 ≤ dgt c) && decide (dgt c < 16)) := by
  have h1 := hexV_neg c
  have h2 := hexV_lt c
  rw [dgt_hex, decide_eq_true h2, Bool.and_true]
  by_cases h : 0 ≤ hexV c
  · rw [decide_eq_false (by omega : ¬ hexV c < 0)] at h1
    rw [decide_eq_true h]
    cases hb : hexB c
    · rw [hb] at h1; cases h1
    · rfl
  · rw [decide_eq_true (by omega : hexV c < 0)] at h1
    rw [decide_eq_false h]
    cases hb : hexB c
    · rfl
    · rw [hb] at h1; cases h1
theorem digB_is (c : Int) : digB c = (decide (0 ≤ dgt c) && decide (dgt c < 10)) := by
  unfold digB dgt
  by_cases h : 48 ≤ c ∧ c ≤ 57
  · rw [if_pos h]
    have a : 0 ≤ c - 48 := by omega
    have b : c - 48 < 10 := by omega
    simp [h, a, b]
  · rw [if_neg h]
    have : (decide (48 ≤ c) && decide (c ≤ 57)) = false := by simp; omega
    rw [this]
    split
    · have : ¬ c - 87 < 10 := by omega
      simp [this]
    · split
      · have : ¬ c - 55 < 10 := by omega
        simp [this]
      · simp
theorem dgt_dig {c : Int} (h : digB c = true) : dgt c = c - 48 ∧ 48 ≤ c ∧ c ≤ 57 := by
  unfold digB at h
  simp at h
  unfold dgt
  rw [if_pos h]
  exact ⟨rfl, h⟩
theorem all_okB16 (l : List Int) : l.all hexB = okB 16 l := all_congr' fun c _ => hexB_is c
theorem all_okB10 (l : List Int) : l.all digB = okB 10 l := all_congr' fun c _ => digB_is c
/-- A text's number at a base, if it has one to so many digits. -/
def numOk (b : Int) (m : Nat) (p : Int → Bool) (s : ByteArray) : Int × Bool := if 1 ≤ s.size ∧ s.size ≤ m ∧ (bytesOf s).all p = true then (numB b (bytesOf s), true) else (0, false)
theorem runL_num (b : Int) (p : Int → Bool) (l : List Int) (st : Int) :
    runL (fun (st : Int) c => if p c = true then .inl (st * b + dgt c) else .inr ((0 : Int), false)) (fun st => (st, true)) l st = if l.all p = true then (l.foldl (fun n c => n * b + dgt c) st, true) else (0, false) := by
  induction l generalizing st with
  | nil => rfl
  | cons c cs ih =>
    rw [List.all_cons]
    unfold runL
    by_cases hp : p c = true
    · simp only [hp, if_true, Bool.true_and, ih, List.foldl_cons]
    · simp only [(by simpa using hp : p c = false), Bool.false_and, Bool.false_eq_true, if_false]
theorem num_next {b st d : Int} {i : Nat} (hb : 0 ≤ b) (h0 : 0 ≤ st) (h1 : st < b ^ i) (d0 : 0 ≤ d) (d1 : d < b) : 0 ≤ st * b ∧ 0 ≤ st * b + d ∧ st * b + d < b ^ (i + 1) := by
  have a := Int.mul_nonneg h0 hb
  rw [Int.pow_succ]
  have : (st + 1) * b ≤ b ^ i * b := Int.mul_le_mul_of_nonneg_right (by omega) hb
  rw [Int.add_mul, Int.one_mul] at this
  omega
theorem num_loop (b : Int) (hb : b = 10 ∨ b = 16) (m : Nat) (hm : (b = 10 ∧ m ≤ 15) ∨ (b = 16 ∧ m ≤ 13)) (p : Int → Bool) (hp : ∀ c, p c = true → 0 ≤ dgt c ∧ dgt c < b) (s : ByteArray) (hs : s.size ≤ m) (g : Nat → Int → Int → Option (Int × Bool)) (K : Nat)
    (h1 : ∀ k (st : Int) (i : Nat), K ≤ k → i < s.size → p (bt s i) = true → wrap64 (st * b) = st * b → wrap64 (st * b + dgt (bt s i)) = st * b + dgt (bt s i) → g (k + 1) st i = g k (st * b + dgt (bt s i)) ((i + 1 : Nat) : Int))
    (h0 : ∀ k (st : Int) (i : Nat), K ≤ k → i < s.size → p (bt s i) = false → g (k + 1) st i = some (0, false))
    (he : ∀ k (st : Int), K ≤ k → g (k + 1) st (s.size : Int) = some (st, true)) : Ev (fun k => g k 0 0) (if (bytesOf s).all p = true then (numB b (bytesOf s), true) else (0, false)) := by
  have hr := ev_run s (fun (st : Int) i => 0 ≤ st ∧ st < b ^ i) (fun (st : Int) c => if p c = true then .inl (st * b + dgt c) else .inr ((0 : Int), false)) (fun st => (st, true)) g K
    (fun k st i hk hi hI => ⟨fun st' e => (by
        by_cases hq : p (bt s i) = true
        · rw [if_pos hq] at e
          obtain rfl : st * b + dgt (bt s i) = st' := by injection e
          obtain ⟨d0, d1⟩ := hp _ hq
          obtain ⟨a0, a1, a2⟩ := num_next (b := b) (by omega) hI.1 hI.2 d0 d1
          have hw := pow_small hb hm (k := i + 1) (by omega)
          exact ⟨h1 k st i hk hi hq (wrap_in (by omega) (by omega)) (wrap_in (by omega) (by omega)), a1, a2⟩
        · rw [if_neg hq] at e; cases e),
      fun r e => (by
        by_cases hq : p (bt s i) = true
        · rw [if_pos hq] at e; cases e
        · rw [if_neg hq] at e
          obtain rfl : ((0 : Int), false) = r := by injection e
          exact h0 k st i hk hi (by simpa using hq))⟩)
    (fun k st hk _ => he k st hk) 0 ⟨by omega, by simp⟩
  rw [runL_num] at hr
  exact hr
theorem spec_Digits_ev (s : ByteArray) : Ev (fun k => spec_Digits.f k s) (numOk 10 15 digB s) := by
  have no : Ev (fun k => spec_Digits.j0 k s true) ((0 : Int), false) := Ev.step (f := fun _ => some (0, false)) (fun k => by simp only [spec_Digits.j0, if_true]) (Ev.now _)
  unfold spec_Digits.f numOk
  by_cases h1 : (s.size : Int) < 1
  · simp only [if_pos h1]
    rw [if_neg (by omega)]
    exact no
  · simp only [if_neg h1]
    by_cases h2 : (s.size : Int) > 15
    · rw [decide_eq_true h2, if_neg (by omega)]
      exact no
    · rw [decide_eq_false h2]
      refine Ev.step (f := fun k => spec_Digits.l0 k s 0 0) (fun k => by simp only [spec_Digits.j0, Bool.false_eq_true, if_false]) ?_
      refine ev_eq (num_loop 10 (.inl rfl) 15 (.inl ⟨rfl, Nat.le_refl _⟩) digB (fun c h => by obtain ⟨a, b, c⟩ := dgt_dig h; omega) s (by omega) (fun k st i => spec_Digits.l0 k s st i) 0 (fun k st i _ hi hq w1 w2 => ?_) (fun k st i _ hi hq => ?_) (fun k st _ => ?_)) ?_
      · obtain ⟨e, c0, c1⟩ := dgt_dig hq
        rw [e] at w2
        simp only [spec_Digits.l0]
        rw [if_pos (by omega), if_pos (by omega), if_neg (by omega), if_neg (by omega), wrap_next hi (by omega), w1, Int.emod_eq_of_lt (by omega) (by omega), w2, e]
      · unfold digB at hq
        simp at hq
        simp only [spec_Digits.l0]
        rw [if_pos (by omega), if_pos (by omega)]
        by_cases h3 : bt s i < 48
        · rw [if_pos h3]
        · rw [if_neg h3, if_pos (by omega)]
      · simp only [spec_Digits.l0]
        rw [if_neg (by omega)]
      · have a : 1 ≤ s.size := by omega
        have b : s.size ≤ 15 := by omega
        simp only [a, b, true_and]
theorem impl_Digits_is (s : ByteArray) : impl_Digits.f s = some (numOk 10 15 digB s) := by
  unfold impl_Digits.f numOk
  by_cases h1 : (s.size : Int) < 1
  · rw [if_pos h1, if_neg (by omega)]
  · rw [if_neg h1]
    by_cases h2 : (s.size : Int) > 15
    · rw [if_pos h2, if_neg (by omega)]
    · rw [if_neg h2, all_dig s (by omega)]
      simp only [Option.bind_some]
      have a : 1 ≤ s.size := by omega
      have b : s.size ≤ 15 := by omega
      by_cases h3 : (bytesOf s).all digB = true
      · rw [if_pos h3, if_pos ⟨a, b, h3⟩]
        unfold strconv_ParseInt.f
        rw [if_pos ⟨rfl, by omega, by rw [← all_okB10]; exact h3, .inr ⟨rfl, b⟩⟩]
        rfl
      · rw [if_neg h3, if_neg (by intro h; exact h3 h.2.2)]
theorem spec_HexDigits_ev (s : ByteArray) : Ev (fun k => spec_HexDigits.f k s) (numOk 16 13 hexB s) := by
  have no : Ev (fun k => spec_HexDigits.j0 k s true) ((0 : Int), false) := Ev.step (f := fun _ => some (0, false)) (fun k => by simp only [spec_HexDigits.j0, if_true]) (Ev.now _)
  unfold spec_HexDigits.f numOk
  by_cases h1 : (s.size : Int) < 1
  · simp only [if_pos h1]
    rw [if_neg (by omega)]
    exact no
  · simp only [if_neg h1]
    by_cases h2 : (s.size : Int) > 13
    · rw [decide_eq_true h2, if_neg (by omega)]
      exact no
    · rw [decide_eq_false h2]
      refine Ev.step (f := fun k => spec_HexDigits.l0 k s 0 0) (fun k => by simp only [spec_HexDigits.j0, Bool.false_eq_true, if_false]) ?_
      refine ev_eq (num_loop 16 (.inr rfl) 13 (.inr ⟨rfl, Nat.le_refl _⟩) hexB (fun c h => by rw [hexB_is] at h; simpa using h) s (by omega) (fun k st i => spec_HexDigits.l0 k s st i) 2 (fun k st i hk hi hq w1 w2 => ?_) (fun k st i hk hi hq => ?_) (fun k st _ => ?_)) ?_
      · have hr := bt_range s i
        have hn := hexV_neg (bt s i)
        rw [hq] at hn
        rw [dgt_hex] at w2 ⊢
        simp only [spec_HexDigits.l0]
        rw [if_pos (by omega), if_pos (by omega), spec_l1Hex_is _ hr.1 hr.2 k hk, wrap_next hi (by omega)]
        simp only [Option.bind_some]
        rw [if_neg (by simpa using hn), w1, w2]
      · have hr := bt_range s i
        have hn := hexV_neg (bt s i)
        rw [hq] at hn
        simp only [spec_HexDigits.l0]
        rw [if_pos (by omega), if_pos (by omega), spec_l1Hex_is _ hr.1 hr.2 k hk]
        simp only [Option.bind_some]
        rw [if_pos (by simpa using hn)]
      · simp only [spec_HexDigits.l0]
        rw [if_neg (by omega)]
      · have a : 1 ≤ s.size := by omega
        have b : s.size ≤ 13 := by omega
        simp only [a, b, true_and]
theorem impl_HexDigits_is (s : ByteArray) : impl_HexDigits.f s = some (numOk 16 13 hexB s) := by
  unfold impl_HexDigits.f numOk
  by_cases h1 : (s.size : Int) < 1
  · rw [if_pos h1, if_neg (by omega)]
  · rw [if_neg h1]
    by_cases h2 : (s.size : Int) > 13
    · rw [if_pos h2, if_neg (by omega)]
    · rw [if_neg h2, all_hex s (by omega)]
      simp only [Option.bind_some]
      have a : 1 ≤ s.size := by omega
      have b : s.size ≤ 13 := by omega
      by_cases h3 : (bytesOf s).all hexB = true
      · rw [if_pos h3, if_pos ⟨a, b, h3⟩]
        unfold strconv_ParseInt.f
        rw [if_pos ⟨rfl, by omega, by rw [← all_okB16]; exact h3, .inl ⟨rfl, b⟩⟩]
        rfl
      · rw [if_neg h3, if_neg (by intro h; exact h3 h.2.2)]
end Go.Proofs.YtdcjobjhccepkaaDoor.Q
