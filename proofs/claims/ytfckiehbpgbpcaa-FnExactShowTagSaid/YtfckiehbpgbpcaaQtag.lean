/-
  TagOk of spec and impl come to one and the same. No condition but a text's greatest length.
-/
import Derived.Test.YtfckiehbpgbpcaaP0
import Derived.Test.YtfckiehbpgbpcaaPimplShowTag
import Derived.Test.YtfckiehbpgbpcaaPimplTagOk
import Derived.Test.YtfckiehbpgbpcaaPlawsszTag
import Derived.Test.YtfckiehbpgbpcaaPspecShowTag
import Derived.Test.YtfckiehbpgbpcaaPspecTagOk
import Derived.Test.YtfckiehbpgbpcaaPspecl7Show
import Derived.Test.YtfckiehbpgbpcaaQ0
import Derived.Test.YtfckiehbpgbpcaaQall
namespace Go.Proofs.Ytfckiehbpgbpcaa.Q
set_option linter.unusedVariables false
set_option linter.unusedSimpArgs false
open Go.RowKit Go.Proofs.Ytfckiehbpgbpcaa.P Go.Proofs.YtfckiehbpgbpcaaW.PrintWords Go.Proofs.YtfckiehbpgbpcaaW.PrintLast Go.Proofs.YtfckiehbpgbpcaaW.PrintMore

def tagOk (s : ByteArray) : Bool := decide (s.size ≤ 40) && (bytesOf s).all tagB
theorem spec_TagOk_ev (w : Bool) (s : ByteArray) (hs : s.size ≤ 4611686018427387904) : Ev (fun k => spec_TagOk.f k w s) (tagOk s) := by
  unfold spec_TagOk.f tagOk
  by_cases h : (s.size : Int) > 40
  · simp only [if_pos h]
    exact ev_const (by rw [decide_eq_false (by omega), Bool.false_and])
  · simp only [if_neg h]
    rw [decide_eq_true (by omega), Bool.true_and]
    refine ev_all s tagB (fun k i => spec_TagOk.l0 k i w s) 0 (fun k i _ hi hp => ?_) (fun k i _ hi hp => ?_) (fun k _ => ?_)
    · simp only [spec_TagOk.l0]
      unfold tagB at hp
      simp at hp
      rw [if_pos (by omega), if_pos (by omega), wrap_next hi hs, if_neg (by omega), if_neg (by omega), if_neg hp.2]
    · simp only [spec_TagOk.l0]
      rw [if_pos (by omega), if_pos (by omega)]
      unfold tagB at hp
      simp at hp
      by_cases h1 : bt s i < 33
      · rw [if_pos h1]
      · rw [if_neg h1]
        by_cases h2 : bt s i > 126
        · rw [if_pos h2]
        · rw [if_neg h2, if_pos (hp (by omega) (by omega))]
    · simp only [spec_TagOk.l0]
      rw [if_neg (by omega)]
theorem impl_TagOk_is (w : Bool) (s : ByteArray) (hs : s.size ≤ 4611686018427387904) : impl_TagOk.f w s = some (tagOk s) := by
  unfold impl_TagOk.f tagOk
  by_cases h : (s.size : Int) ≤ 40
  · rw [if_pos h, all_tag s (by omega), decide_eq_true (by omega), Bool.true_and]; rfl
  · rw [if_neg h, decide_eq_false (by omega), Bool.false_and]
theorem szTag_is (w : Bool) (s : ByteArray) (left : Int) (hs : s.size ≤ 9223372036854775807) (h0 : 0 ≤ left) (h1 : left ≤ 1048576) :
    ∃ r, laws_szTag.f w s left = some r ∧ (0 ≤ r → (s.size : Int) ≤ left) ∧ r ≤ left := by
  unfold laws_szTag.f
  have e : wrap64 (left - (s.size : Int)) = left - (s.size : Int) := wrap_in (by omega) (by omega)
  rw [e]
  split
  · exact ⟨_, rfl, fun h => absurd h (by omega), by omega⟩
  · exact ⟨_, rfl, fun _ => by omega, by omega⟩
def showTag (w : Bool) (s : ByteArray) : ByteArray := if tagOk s = true then (if w = true then (⟨#[87, 47]⟩ : ByteArray) ++ (((⟨#[34]⟩ : ByteArray) ++ s) ++ (⟨#[34]⟩ : ByteArray)) else ((⟨#[34]⟩ : ByteArray) ++ s) ++ (⟨#[34]⟩ : ByteArray)) else (⟨#[]⟩ : ByteArray)
theorem size_app (a b : ByteArray) : (a ++ b).size = a.size + b.size := by simp [ByteArray.size_append]
theorem size_lit (l : List UInt8) : (⟨l.toArray⟩ : ByteArray).size = l.length := rfl
theorem spec_ShowTag_ev (w : Bool) (s : ByteArray) (hs : s.size ≤ 4611686018427387904) : Ev (fun k => spec_ShowTag.f k w s) (showTag w s) := by
  unfold spec_ShowTag.f showTag
  refine Ev.bind (spec_TagOk_ev w s hs) ?_
  by_cases t : tagOk s = true
  · simp only [t, if_true]
    refine ev_const ?_
    unfold spec_l7Show.f
    rw [if_pos (by omega), if_pos (by rw [size_app, size_lit]; simp; omega)]
    cases w
    · simp
    · rw [if_pos rfl, if_pos (by rw [size_app, size_app, size_lit]; simp; omega)]
      simp
  · simp only [t]; exact Ev.now _
theorem impl_ShowTag_is (w : Bool) (s : ByteArray) (hs : s.size ≤ 4611686018427387904) : impl_ShowTag.f w s = some (showTag w s) := by
  unfold impl_ShowTag.f showTag
  rw [impl_TagOk_is w s hs]
  simp only [Option.bind_some]
  by_cases t : tagOk s = true
  · simp only [t, if_true]
    cases w
    · simp only [Bool.false_eq_true, if_false]
      rw [if_pos (by omega), if_pos (by rw [size_app, size_lit]; simp; omega)]
    · simp only [if_true]
      rw [if_pos (by omega), if_pos (by rw [size_app, size_lit]; simp; omega)]
      refine congrArg some (bytes_inj ?_)
      simp only [bytes_append]
      rfl
  · simp only [t]; rfl
end Go.Proofs.Ytfckiehbpgbpcaa.Q
