/- Functions of the Go program as Lean functions, and proofs that each Go function comes to its Lean function's answers; conditions: those that each theorem states. Written by this session's program hprint.py, which drives the kit's printer. -/
import Derived.Test.YtalbfkhkfhnmjaaDoorP0
namespace Go.Proofs.YtalbfkhkfhnmjaaDoor.P
open Go.RowKit Go.Proofs.YtalbfkhkfhnmjaaDoorW.PrintWords Go.Proofs.YtalbfkhkfhnmjaaDoorW.PrintLast Go.Proofs.YtalbfkhkfhnmjaaDoorW.PrintMore
attribute [local go_sem] max2_int min2_int max_two min_two max_three min_three max_four min_four   -- for this text's walks alone
set_option linter.unusedVariables false
set_option linter.unusedSimpArgs false

/-! ### laws_big: function 12 -/
def laws_big.f (l0 : List Int) : Option (Bool) := some (decide ((l0.length : Int) > 4096))
set_option maxHeartbeats 8000000 in
set_option maxRecDepth 100000 in
theorem laws_big.calls (A0 : Option Addr) (c0 : Nat) (l0 : List Int) (r : Bool) (w : World) (hr0 : Kd.C (Kd.int .u8) w A0 l0.length l0) (hc0 : l0.length ≤ c0) (h : laws_big.f l0 = some r) :
    Calls Tryd.prog 12 #[.slice A0 l0.length c0] w fun e w' => e = .returned (.bool r) ∧ Drawn0 w w' := by
  have HR0 := Aside0.mk hr0
  have HC0 := Aside0.mk hc0
  clear hr0 hc0
  have H : (some (decide ((l0.length : Int) > 4096))) = some r := h
  clear h
  obtain rfl := Option.some.inj H
  go_enter Tryd.func12, Tryd.ntmps12
  go_wp2
  go_ret
  exact ⟨by first | rfl | (simp; done) | (simp [*]; done), by repeat (first | exact Drawn0.refl _ | apply Drawn0.step)⟩

end Go.Proofs.YtalbfkhkfhnmjaaDoor.P
