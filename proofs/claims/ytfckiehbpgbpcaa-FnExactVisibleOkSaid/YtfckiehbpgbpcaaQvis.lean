/-
  VisibleOk of spec and impl come to one and the same. No condition but a text's greatest length.
-/
import Derived.Test.YtfckiehbpgbpcaaP0
import Derived.Test.YtfckiehbpgbpcaaPimplVisibleOk
import Derived.Test.YtfckiehbpgbpcaaPspecVisibleOk
import Derived.Test.YtfckiehbpgbpcaaQ0
import Derived.Test.YtfckiehbpgbpcaaQall
namespace Go.Proofs.Ytfckiehbpgbpcaa.Q
set_option linter.unusedVariables false
set_option linter.unusedSimpArgs false
open Go.RowKit Go.Proofs.Ytfckiehbpgbpcaa.P Go.Proofs.YtfckiehbpgbpcaaW.PrintWords Go.Proofs.YtfckiehbpgbpcaaW.PrintLast Go.Proofs.YtfckiehbpgbpcaaW.PrintMore

def visOk (s : ByteArray) : Bool := decide (s.size ≤ 400) && (bytesOf s).all visB
theorem spec_VisibleOk_ev (s : ByteArray) (hs : s.size ≤ 4611686018427387904) : Ev (fun k => spec_VisibleOk.f k s) (visOk s) := by
  unfold spec_VisibleOk.f visOk
  by_cases h : (s.size : Int) > 400
  · simp only [if_pos h]
    exact ev_const (by rw [decide_eq_false (by omega), Bool.false_and])
  · simp only [if_neg h]
    rw [decide_eq_true (by omega), Bool.true_and]
    refine ev_all s visB (fun k i => spec_VisibleOk.l0 k s i) 0 (fun k i _ hi hp => ?_) (fun k i _ hi hp => ?_) (fun k _ => ?_)
    · simp only [spec_VisibleOk.l0]
      rw [if_pos (by omega), if_pos (by omega), wrap_next hi hs]
      unfold visB at hp
      by_cases h1 : bt s i < 32
      · have h9 : bt s i = 9 := by simp at hp; omega
        rw [if_pos h1, if_pos h9]
      · rw [if_neg h1]
        by_cases h2 : bt s i > 126
        · have h9 : bt s i = 9 := by simp at hp; omega
          rw [if_pos h2, if_pos h9]
        · rw [if_neg h2]
    · simp only [spec_VisibleOk.l0]
      rw [if_pos (by omega), if_pos (by omega)]
      unfold visB at hp
      simp at hp
      by_cases h1 : bt s i < 32
      · rw [if_pos h1, if_neg hp.2]
      · rw [if_neg h1, if_pos (by omega), if_neg hp.2]
    · simp only [spec_VisibleOk.l0]
      rw [if_neg (by omega)]
theorem impl_VisibleOk_is (s : ByteArray) (hs : s.size ≤ 4611686018427387904) : impl_VisibleOk.f s = some (visOk s) := by
  unfold impl_VisibleOk.f visOk
  by_cases h : (s.size : Int) ≤ 400
  · rw [if_pos h, all_vis s (by omega), decide_eq_true (by omega), Bool.true_and]; rfl
  · rw [if_neg h, decide_eq_false (by omega), Bool.false_and]
end Go.Proofs.Ytfckiehbpgbpcaa.Q
