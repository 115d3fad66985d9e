/-
  What the byte predicates of impl and spec come to, and 'all' over each. No condition but a text's greatest length.
-/
import Derived.Lib.Bytealg
import Derived.Test.YtdcjobjhccepkaaDoorP0
import Derived.Test.YtdcjobjhccepkaaDoorGall
import Derived.Test.YtdcjobjhccepkaaDoorPimplisDigit
import Derived.Test.YtdcjobjhccepkaaDoorPimplisHex
import Derived.Test.YtdcjobjhccepkaaDoorPspecl1Hex
import Derived.Test.YtdcjobjhccepkaaDoorQ0
namespace Go.Proofs.YtdcjobjhccepkaaDoor.Q
set_option linter.unusedVariables false
set_option linter.unusedSimpArgs false
open Go.RowKit Go.Proofs.YtdcjobjhccepkaaDoor.P Go.Proofs.YtdcjobjhccepkaaDoorW.PrintWords Go.Proofs.YtdcjobjhccepkaaDoorW.PrintLast Go.Proofs.YtdcjobjhccepkaaDoorW.PrintMore

def visB (c : Int) : Bool := decide (32 ≤ c) && decide (c ≤ 126) || decide (c = 9)
def digB (c : Int) : Bool := decide (48 ≤ c) && decide (c ≤ 57)
def letB (c : Int) : Bool := decide (97 ≤ c) && decide (c ≤ 122) || decide (65 ≤ c) && decide (c ≤ 90)
def hexB (c : Int) : Bool := digB c || decide (97 ≤ c) && decide (c ≤ 102) || decide (65 ≤ c) && decide (c ≤ 70)
def tagB (c : Int) : Bool := decide (33 ≤ c) && decide (c ≤ 126) && decide (c ≠ 34)
def tokB (c : Int) : Bool := letB c || digB c || decide (c ∈ [33, 35, 36, 37, 38, 39, 42, 43, 45, 46, 94, 95, 124, 126, 96])
def plaB (c : Int) : Bool := letB c || digB c || decide (c ∈ [45, 46, 95, 126, 47, 58, 64, 33, 36, 38, 39, 40, 41, 42, 43, 44, 59, 61])

theorem impl_isDigit_is (c : Int) : impl_isDigit.f c = some (digB c) := by
  unfold impl_isDigit.f digB
  by_cases h1 : c ≥ 48 <;> simp [h1] <;> omega
theorem impl_isHex_is (c : Int) : impl_isHex.f c = some (hexB c) := by
  unfold impl_isHex.f hexB
  rw [impl_isDigit_is]
  cases h0 : digB c <;> by_cases h1 : c ≥ 97 <;> by_cases h2 : c ≤ 102 <;> by_cases h3 : c ≥ 65 <;> by_cases h4 : c ≤ 70 <;> simp [h1, h2, h3, h4] <;> omega

/-- A law on bytes, tried at each. -/
theorem byte_cases {p : Int → Prop} (h : ∀ n : Fin 256, p (n.val : Int)) (c : Int) (h0 : 0 ≤ c) (h1 : c ≤ 255) : p c := by
  have := h ⟨c.toNat, by omega⟩
  rwa [show ((⟨c.toNat, by omega⟩ : Fin 256).val : Int) = c from by show (c.toNat : Int) = c; omega] at this
/-- A hexadecimal digit's value, or -1. -/
def hexV (c : Int) : Int := if digB c = true then c - 48 else if 97 ≤ c ∧ c ≤ 102 then c - 87 else if 65 ≤ c ∧ c ≤ 70 then c - 55 else -1
theorem hexV_neg (c : Int) : decide (hexV c < 0) = !hexB c := by
  unfold hexV hexB
  cases h0 : digB c
  · by_cases h1 : 97 ≤ c ∧ c ≤ 102
    · simp [h1]; omega
    · by_cases h2 : 65 ≤ c ∧ c ≤ 70
      · have h1' : (decide (97 ≤ c) && decide (c ≤ 102)) = false := by simp; omega
        simp [h1, h1', h2]; omega
      · have h1' : (decide (97 ≤ c) && decide (c ≤ 102)) = false := by simp; omega
        have h2' : (decide (65 ≤ c) && decide (c ≤ 70)) = false := by simp; omega
        simp [h1, h1', h2, h2']
  · unfold digB at h0
    simp at h0
    simp
    omega
theorem spec_l1Hex_is (c : Int) (h0 : 0 ≤ c) (h1 : c ≤ 255) (k : Nat) (hk : 2 ≤ k) : spec_l1Hex.f k c = some (hexV c) :=
  at_rounds (fun k => spec_l1Hex.mono c k) hk (byte_cases (p := fun c => spec_l1Hex.f 2 c = some (hexV c)) (by decide +kernel) c h0 h1)
/-- 'all' over a predicate. -/
theorem all_hex (s : ByteArray) (hs : s.size ≤ 9223372036854775807) : impl_all.f s 54 = some ((bytesOf s).all hexB) := by
  unfold impl_all.f
  rw [if_pos hs]
  simp only [Nat.reduceEqDiff, if_true, if_false, reduceIte]
  rw [all_congr' fun c hc => (by rw [impl_isHex_is]; cases hexB c <;> rfl : (impl_isHex.f c == some true) = hexB c)]
theorem all_dig (s : ByteArray) (hs : s.size ≤ 9223372036854775807) : impl_all.f s 49 = some ((bytesOf s).all digB) := by
  unfold impl_all.f
  rw [if_pos hs]
  simp only [Nat.reduceEqDiff, if_true, if_false, reduceIte]
  rw [all_congr' fun c hc => (by rw [impl_isDigit_is]; cases digB c <;> rfl : (impl_isDigit.f c == some true) = digB c)]
end Go.Proofs.YtdcjobjhccepkaaDoor.Q
