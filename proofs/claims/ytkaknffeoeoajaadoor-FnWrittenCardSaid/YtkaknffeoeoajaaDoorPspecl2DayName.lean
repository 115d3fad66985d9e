/- Functions of the Go program as Lean functions, and proofs that each Go function comes to its Lean function's answers; conditions: those that each theorem states. Written by this session's program hprint.py, which drives the kit's printer. -/
import Derived.Test.YtkaknffeoeoajaaDoorP0
namespace Go.Proofs.YtkaknffeoeoajaaDoor.P
open Go.RowKit Go.Proofs.YtkaknffeoeoajaaDoorW.PrintWords Go.Proofs.YtkaknffeoeoajaaDoorW.PrintLast Go.Proofs.YtkaknffeoeoajaaDoorW.PrintMore
attribute [local go_sem] max2_int min2_int max_two min_two max_three min_three max_four min_four   -- for this text's walks alone
set_option linter.unusedVariables false
set_option linter.unusedSimpArgs false

/-! ### spec_l2DayName: function 43 -/
def spec_l2DayName.f (a0 : Int) : Option (ByteArray) := if 0 ≤ (wrap64 (3 * a0)) then (if (wrap64 (3 * a0)) ≤ (wrap64 ((wrap64 (3 * a0)) + 3)) then (if (wrap64 ((wrap64 (3 * a0)) + 3)) ≤ 21 then (some ((⟨#[83, 117, 110, 77, 111, 110, 84, 117, 101, 87, 101, 100, 84, 104, 117, 70, 114, 105, 83, 97, 116]⟩ : ByteArray).extract ((wrap64 (3 * a0)) : Int).toNat ((wrap64 ((wrap64 (3 * a0)) + 3)) : Int).toNat)) else (none)) else (none)) else (none)
set_option maxHeartbeats 8000000 in
set_option maxRecDepth 100000 in
theorem spec_l2DayName.calls (a0 : Int) (r : ByteArray) (w : World) (h : spec_l2DayName.f a0 = some r) :
  Calls Tryd.prog 43 #[.int .i64 a0] w fun e w' => e = .returned (.string r) ∧ Drawn0 w w' := by
 have H := h
 unfold spec_l2DayName.f at H
 clear h
 obtain ⟨ji2, hji2⟩ : ∃ j_ : Int, (wrap64 (3 * a0)) = j_ := ⟨_, rfl⟩
 first | (rw [hji2] at H) | (simp only [hji2] at H)
 have hji2w : (IntKind.i64.wrap (3 * a0)) = ji2 := (i64_w _).trans hji2
 by_cases c3 : 0 ≤ (ji2)
 ·
  rw [if_pos c3] at H
  have c3b0 := eq_true c3
  have c3b1 : decide (0 ≤ (ji2)) = true := decide_eq_true c3
  clear c3
  by_cases c4 : (ji2) ≤ (wrap64 ((ji2) + 3))
  ·
   rw [if_pos c4] at H
   have c4b0 := eq_true c4
   have c4b1 : decide ((ji2) ≤ (wrap64 ((ji2) + 3))) = true := decide_eq_true c4
   by_cases c5 : (wrap64 ((ji2) + 3)) ≤ 21
   ·
    rw [if_pos c5] at H
    have c5b0 := eq_true c5
    have c5b1 : decide ((wrap64 ((ji2) + 3)) ≤ 21) = true := decide_eq_true c5
    obtain rfl := Option.some.inj H
    go_enter Tryd.func43, Tryd.ntmps43
    go_wp2
    go_ret
    exact ⟨by first | rfl | (simp; done) | (simp only [← hji2] <;> (first | rfl | simp)) | (simp [*]; done), by repeat (first | exact Drawn0.refl _ | apply Drawn0.step)⟩
   ·
    rw [if_neg c5] at H
    exact absurd H (by simp)
  ·
   rw [if_neg c4] at H
   exact absurd H (by simp)
 ·
  rw [if_neg c3] at H
  exact absurd H (by simp)

end Go.Proofs.YtkaknffeoeoajaaDoor.P
