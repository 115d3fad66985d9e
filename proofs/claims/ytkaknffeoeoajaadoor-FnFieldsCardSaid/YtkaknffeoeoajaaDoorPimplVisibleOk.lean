/- Functions of the Go program as Lean functions, and proofs that each Go function comes to its Lean function's answers; conditions: those that each theorem states. Written by this session's program hprint.py, which drives the kit's printer. -/
import Derived.Test.YtkaknffeoeoajaaDoorP0
import Derived.Test.YtkaknffeoeoajaaDoorGall
import Derived.Test.YtkaknffeoeoajaaDoorXA
namespace Go.Proofs.YtkaknffeoeoajaaDoor.P
open Go.RowKit Go.Proofs.YtkaknffeoeoajaaDoorW.PrintWords Go.Proofs.YtkaknffeoeoajaaDoorW.PrintLast Go.Proofs.YtkaknffeoeoajaaDoorW.PrintMore
attribute [local go_sem] max2_int min2_int max_two min_two max_three min_three max_four min_four   -- for this text's walks alone
set_option linter.unusedVariables false
set_option linter.unusedSimpArgs false

/-! ### impl_VisibleOk: function 59 -/
def impl_VisibleOk.f (a0 : ByteArray) : Option (Bool) := if (a0.size : Int) ≤ 400 then ((impl_all.f a0 84).bind fun t101 => (some t101)) else (some false)
set_option maxHeartbeats 8000000 in
set_option maxRecDepth 100000 in
theorem impl_VisibleOk.calls (a0 : ByteArray) (r : Bool) (w : World) (h : impl_VisibleOk.f a0 = some r) :
  Calls Tryd.prog 59 #[.string a0] w fun e w' => e = .returned (.bool r) ∧ Below w.heap.size w w' := by
 have HB := Aside0.mk (Below.refl w.heap.size w)
 have H : (if (a0.size : Int) ≤ 400 then ((impl_all.f a0 84).bind fun t101 => (some t101)) else (some false)) = some r := h
 clear h
 by_cases c2 : (a0.size : Int) ≤ 400
 ·
  rw [if_pos c2] at H
  have c2b0 : decide ((a0.size : Int) ≤ 400) = true := decide_eq_true c2
  have c2b1 : decide (a0.size ≤ 400) = true := decide_eq_true (by omega)
  clear c2
  replace H := Option.bind_eq_some_iff.mp H
  obtain ⟨t101, A30, H⟩ := H
  replace H : (some t101) = some r := H
  have A3 := Aside0.mk A30
  clear A30
  obtain rfl := Option.some.inj H
  go_enter Tryd.func59, Tryd.ntmps59
  go_wp2_with (first | (go_at_call 74; (with_reducible refine (impl_all.calls a0 84 t101 _ A3.out).mono ?_); rintro e w4 ⟨rfl, hb⟩; replace HB := Aside0.mk (below_step bh hb); (try clear hb); (try clear hb2); (try clear hk); (try clear hi)))
  go_ret
  exact ⟨er, bh⟩
 ·
  rw [if_neg c2] at H
  have c2b0 : decide ((a0.size : Int) ≤ 400) = false := decide_eq_false c2
  have c2b1 : decide (a0.size ≤ 400) = false := decide_eq_false (by omega)
  clear c2
  obtain rfl := Option.some.inj H
  go_enter Tryd.func59, Tryd.ntmps59
  go_wp2
  go_ret
  exact ⟨er, bh⟩

end Go.Proofs.YtkaknffeoeoajaaDoor.P
