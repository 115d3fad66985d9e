/-
  TokenOk of spec and impl come to one and the same. No condition but a text's greatest length.
-/
import Derived.Test.YtfckiehbpgbpcaaP0
import Derived.Test.YtfckiehbpgbpcaaPimplTokenOk
import Derived.Test.YtfckiehbpgbpcaaPspecTokenOk
import Derived.Test.YtfckiehbpgbpcaaQ0
import Derived.Test.YtfckiehbpgbpcaaQall
namespace Go.Proofs.Ytfckiehbpgbpcaa.Q
set_option linter.unusedVariables false
set_option linter.unusedSimpArgs false
open Go.RowKit Go.Proofs.Ytfckiehbpgbpcaa.P Go.Proofs.YtfckiehbpgbpcaaW.PrintWords Go.Proofs.YtfckiehbpgbpcaaW.PrintLast Go.Proofs.YtfckiehbpgbpcaaW.PrintMore

def tokOk (s : ByteArray) : Bool := decide (1 ≤ s.size) && decide (s.size ≤ 64) && (bytesOf s).all tokB
theorem spec_TokenOk_ev (s : ByteArray) (hs : s.size ≤ 4611686018427387904) : Ev (fun k => spec_TokenOk.f k s) (tokOk s) := by
  unfold spec_TokenOk.f tokOk
  by_cases h : (s.size : Int) < 1
  · simp only [if_pos h]
    rw [decide_eq_false (by omega : ¬ 1 ≤ s.size)]
    exact Ev.step (f := fun _ => some false) (fun k => by simp only [spec_TokenOk.j0, if_true]) (Ev.now _)
  · simp only [if_neg h]
    rw [decide_eq_true (by omega : 1 ≤ s.size)]
    by_cases h' : (s.size : Int) > 64
    · rw [decide_eq_true h', decide_eq_false (by omega : ¬ s.size ≤ 64)]
      exact Ev.step (f := fun _ => some false) (fun k => by simp only [spec_TokenOk.j0, if_true]) (Ev.now _)
    · rw [decide_eq_false h', decide_eq_true (by omega : s.size ≤ 64), Bool.true_and, Bool.true_and]
      refine Ev.step (f := fun k => spec_TokenOk.l0 k s 0) (fun k => by simp only [spec_TokenOk.j0, Bool.false_eq_true, if_false]) ?_
      refine ev_all s tokB (fun k i => spec_TokenOk.l0 k s i) 0 (fun k i _ hi hp => ?_) (fun k i _ hi hp => ?_) (fun k _ => ?_)
      · simp only [spec_TokenOk.l0]
        rw [if_pos (by omega), if_pos (by omega), spec_l1Token_is _ (bt_range s i).1 (bt_range s i).2, hp, wrap_next hi hs]
        rfl
      · simp only [spec_TokenOk.l0]
        rw [if_pos (by omega), if_pos (by omega), spec_l1Token_is _ (bt_range s i).1 (bt_range s i).2, hp]
        rfl
      · simp only [spec_TokenOk.l0]
        rw [if_neg (by omega)]
theorem impl_TokenOk_is (s : ByteArray) (hs : s.size ≤ 4611686018427387904) : impl_TokenOk.f s = some (tokOk s) := by
  unfold impl_TokenOk.f tokOk
  by_cases h : (s.size : Int) ≥ 1
  · rw [if_pos h]
    by_cases h' : (s.size : Int) ≤ 64
    · rw [if_pos h', all_tok s (by omega), decide_eq_true (by omega : 1 ≤ s.size), decide_eq_true (by omega : s.size ≤ 64), Bool.true_and, Bool.true_and]; rfl
    · rw [if_neg h', decide_eq_false (by omega : ¬ s.size ≤ 64), Bool.and_false]; rfl
  · rw [if_neg h, decide_eq_false (by omega : ¬ 1 ≤ s.size)]; rfl
end Go.Proofs.Ytfckiehbpgbpcaa.Q
