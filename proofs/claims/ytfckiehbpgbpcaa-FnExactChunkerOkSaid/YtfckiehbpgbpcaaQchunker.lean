/-
  ChunkerOk of spec and impl come to one and the same. No condition but the texts' greatest lengths.
-/
import Derived.Test.YtfckiehbpgbpcaaP0
import Derived.Test.YtfckiehbpgbpcaaPimplChunkerOk
import Derived.Test.YtfckiehbpgbpcaaPspecChunkerOk
import Derived.Test.YtfckiehbpgbpcaaQ0
import Derived.Test.YtfckiehbpgbpcaaQall
import Derived.Test.YtfckiehbpgbpcaaQdate
namespace Go.Proofs.Ytfckiehbpgbpcaa.Q
set_option linter.unusedVariables false
set_option linter.unusedSimpArgs false
open Go.RowKit Go.Proofs.Ytfckiehbpgbpcaa.P Go.Proofs.YtfckiehbpgbpcaaW.PrintWords Go.Proofs.YtfckiehbpgbpcaaW.PrintLast Go.Proofs.YtfckiehbpgbpcaaW.PrintMore

/-- What a state asks of Left and Digits. -/
def chunkState (st left : Int) (dg : ByteArray) : Bool :=
  if st = 1 then left == 0 else if st = 2 then dg.toList == ([] : List UInt8) else if st = 3 then (dg.toList == ([] : List UInt8)) && decide (left > 0) else decide (left = 0) && (dg.toList == ([] : List UInt8))
def chunkerOk (st left : Int) (dg bd : ByteArray) : Bool :=
  inB st 1 9 && (inB left 0 4000 && (decide (dg.size ≤ 13) && (decide ((bd.size : Int) + left ≤ 4000) && ((bytesOf dg).all hexB && chunkState st left dg))))
theorem spec_ChunkerOk_ev (st left : Int) (dg bd : ByteArray) (hb : bd.size ≤ 4611686018427387904) : Ev (fun k => spec_ChunkerOk.f k st left dg bd) (chunkerOk st left dg bd) := by
  have no : Ev (fun k => spec_ChunkerOk.j0 k true st left dg bd) false := Ev.step (f := fun _ => some false) (fun k => by simp only [spec_ChunkerOk.j0, if_true]) (Ev.now _)
  unfold spec_ChunkerOk.f chunkerOk
  simp only [spec_l1In_is, Option.bind_some]
  cases h1 : inB st 1 9
  · simp only [Bool.false_eq_true, if_false, Bool.false_and]; exact no
  · simp only [if_true, Bool.true_and]
    cases h2 : inB left 0 4000
    · simp only [Bool.false_eq_true, if_false, Bool.false_and]; exact no
    · simp only [if_true, Bool.true_and]
      obtain ⟨l0, l1⟩ := inB_true h2
      by_cases h3 : (dg.size : Int) > 13
      · simp only [if_pos h3]
        rw [decide_eq_false (by omega : ¬ dg.size ≤ 13), Bool.false_and]; exact no
      · simp only [if_neg h3]
        rw [decide_eq_true (by omega : dg.size ≤ 13), Bool.true_and, wrap_in (by omega) (by omega)]
        by_cases h4 : (bd.size : Int) + left > 4000
        · rw [decide_eq_true h4, decide_eq_false (by omega : ¬ (bd.size : Int) + left ≤ 4000), Bool.false_and]; exact no
        · rw [decide_eq_false h4, decide_eq_true (by omega : (bd.size : Int) + left ≤ 4000), Bool.true_and]
          refine Ev.step (f := fun k => spec_ChunkerOk.l0 k 0 st left dg bd) (fun k => by simp only [spec_ChunkerOk.j0, Bool.false_eq_true, if_false]) ?_
          refine ev_eq (ev_allr dg hexB (chunkState st left dg) false (fun k i => spec_ChunkerOk.l0 k i st left dg bd) 2 (fun k i hk hi hp => ?_) (fun k i hk hi hp => ?_) (fun k _ => ?_)) (by cases (bytesOf dg).all hexB <;> simp)
          · have hr := bt_range dg i
            have hn := hexV_neg (bt dg i)
            rw [hp] at hn
            simp only [spec_ChunkerOk.l0]
            rw [if_pos (by omega), if_pos (by omega), spec_l1Hex_is _ hr.1 hr.2 k hk, wrap_next hi (by omega)]
            simp only [Option.bind_some]
            rw [if_neg (by simpa using hn)]
          · have hr := bt_range dg i
            have hn := hexV_neg (bt dg i)
            rw [hp] at hn
            simp only [spec_ChunkerOk.l0]
            rw [if_pos (by omega), if_pos (by omega), spec_l1Hex_is _ hr.1 hr.2 k hk]
            simp only [Option.bind_some]
            rw [if_pos (by simpa using hn)]
          · simp only [spec_ChunkerOk.l0]
            rw [if_neg (by omega)]
            unfold chunkState
            by_cases s1 : st = 1
            · simp [s1]
            · by_cases s2 : st = 2
              · simp [s2]
              · by_cases s3 : st = 3
                · by_cases e : dg.toList = [] <;> simp [s3, e]
                · by_cases e : left = 0 <;> simp [s1, s2, s3, e]
theorem impl_ChunkerOk_ev (st left : Int) (dg bd : ByteArray) (hb : bd.size ≤ 4611686018427387904) : Ev (fun k => impl_ChunkerOk.f k st left dg bd) (chunkerOk st left dg bd) := by
  have no : Ev (fun k => impl_ChunkerOk.j0 k true st left dg bd) false := Ev.step (f := fun _ => some false) (fun k => by simp only [impl_ChunkerOk.j0, if_true]) (Ev.now _)
  unfold impl_ChunkerOk.f chunkerOk
  simp only [impl_within_is, Option.bind_some]
  cases h1 : inB st 1 9
  · simp only [Bool.false_eq_true, if_false, Bool.false_and]; exact no
  · simp only [if_true, Bool.true_and]
    cases h2 : inB left 0 4000
    · simp only [Bool.false_eq_true, if_false, Bool.false_and]; exact no
    · simp only [if_true, Bool.true_and]
      obtain ⟨l0, l1⟩ := inB_true h2
      by_cases h3 : (dg.size : Int) > 13
      · simp only [if_pos h3]
        rw [decide_eq_false (by omega : ¬ dg.size ≤ 13), Bool.false_and]; exact no
      · simp only [if_neg h3]
        rw [decide_eq_true (by omega : dg.size ≤ 13), Bool.true_and, all_hex dg (by omega)]
        simp only [Option.bind_some]
        cases h5 : (bytesOf dg).all hexB
        · simp only [Bool.false_eq_true, if_false, Bool.false_and, Bool.and_false]; exact no
        · simp only [if_true, Bool.true_and]
          by_cases h6 : (bd.size : Int) > 4000
          · simp only [if_pos h6]
            rw [decide_eq_false (by omega : ¬ (bd.size : Int) + left ≤ 4000), Bool.false_and]; exact no
          · simp only [if_neg h6]
            rw [wrap_in (by omega) (by omega)]
            by_cases h4 : left + (bd.size : Int) > 4000
            · rw [decide_eq_true h4, decide_eq_false (by omega : ¬ (bd.size : Int) + left ≤ 4000), Bool.false_and]; exact no
            · rw [decide_eq_false h4, decide_eq_true (by omega : (bd.size : Int) + left ≤ 4000), Bool.true_and]
              refine Ev.step (f := fun _ => some (chunkState st left dg)) (fun k => ?_) (Ev.now _)
              simp only [impl_ChunkerOk.j0, Bool.false_eq_true, if_false]
              unfold chunkState
              by_cases p : left > 0
              · have p0 : ¬ left = 0 := by omega
                by_cases s2 : st = 2
                · by_cases e : dg.toList = [] <;> simp [p, p0, s2, e]
                · by_cases s3 : st = 3
                  · by_cases e : dg.toList = [] <;> simp [p, p0, s3, e]
                  · by_cases s1 : st = 1 <;> simp [p, p0, s1, s2, s3]
              · have p0 : left = 0 := by omega
                by_cases s3 : st = 3
                · by_cases e : dg.toList = [] <;> simp [p0, s3, e]
                · by_cases s1 : st = 1
                  · by_cases e : dg.toList = [] <;> simp [p0, s1, e]
                  · by_cases s2 : st = 2
                    · by_cases e : dg.toList = [] <;> simp [p0, s2, e]
                    · have sb : (st == 1) = false := by simpa using s1
                      by_cases e : dg.toList = []
                      · simp [p0, s1, s2, s3, e]
                      · have eb : dg.toList.isEmpty = false := by simpa using e
                        simp [p0, s1, s2, s3, e, sb, eb]
end Go.Proofs.Ytfckiehbpgbpcaa.Q
