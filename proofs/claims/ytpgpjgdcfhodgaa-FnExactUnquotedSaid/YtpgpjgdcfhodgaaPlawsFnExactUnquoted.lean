/- Functions of the Go program as Lean functions, and proofs that each Go function comes to its Lean function's answers; conditions: those that each theorem states. Written by this session's program hprint.py, which drives the kit's printer. -/
import Derived.Test.YtpgpjgdcfhodgaaP0
import Derived.Test.YtpgpjgdcfhodgaaPimplUnquoted
import Derived.Test.YtpgpjgdcfhodgaaPspecUnquoted
import Derived.Test.YtpgpjgdcfhodgaaXA
namespace Go.Proofs.Ytpgpjgdcfhodgaa.P
open Go.RowKit Go.Proofs.YtpgpjgdcfhodgaaW.PrintWords Go.Proofs.YtpgpjgdcfhodgaaW.PrintLast Go.Proofs.YtpgpjgdcfhodgaaW.PrintMore
attribute [local go_sem] max2_int min2_int max_two min_two max_three min_three max_four min_four   -- for this text's walks alone
set_option linter.unusedVariables false
set_option linter.unusedSimpArgs false

/-! ### laws_FnExactUnquoted: function 4 -/
def laws_FnExactUnquoted.f (k : Nat) (a0 : ByteArray) : Option (Bool) := if (a0.size : Int) > 1048576 then (some true) else ((spec_Unquoted.f k a0).bind fun bt101 => ((impl_Unquoted.f k a0).bind fun bt103 => (if bt103.1.toList = bt101.1.toList then (if (bt103.2 != bt101.2) = true then (some false) else (some true)) else (some false))))
theorem laws_FnExactUnquoted.mono : ∀ a0 k, LeO (laws_FnExactUnquoted.f k a0) (laws_FnExactUnquoted.f (k + 1) a0) := by
 intro a0 k
 unfold laws_FnExactUnquoted.f
 repeat' first
   | (with_reducible exact impl_Unquoted.mono _ _)
   | (with_reducible exact spec_Unquoted.mono _ _)
   | (with_reducible exact LeO.refl _)
   | (with_reducible exact LeO.none _)
   | (with_reducible refine LeO.ite ?_ ?_)
   | (with_reducible refine LeO.bind ?_ (fun _ => ?_))
   | exact impl_Unquoted.mono _ _
   | exact spec_Unquoted.mono _ _
   | exact LeO.none _
   | refine LeO.ite ?_ ?_
   | refine LeO.bind ?_ (fun _ => ?_)
set_option maxHeartbeats 8000000 in
set_option maxRecDepth 100000 in
theorem laws_FnExactUnquoted.calls (k : Nat) (a0 : ByteArray) (r : Bool) (w : World) (h : laws_FnExactUnquoted.f k a0 = some r) :
  Calls Try.prog 4 #[.string a0] w fun e w' => e = .returned (.bool r) ∧ Below w.heap.size w w' := by
 have HB := Aside0.mk (Below.refl w.heap.size w)
 have H := h
 unfold laws_FnExactUnquoted.f at H
 clear h
 by_cases c2 : (a0.size : Int) > 1048576
 ·
  rw [if_pos c2] at H
  have c2b0 : decide (1048576 < (a0.size : Int)) = true := decide_eq_true c2
  have c2b1 : decide (1048576 < a0.size) = true := decide_eq_true (by omega)
  clear c2
  obtain rfl := Option.some.inj H
  go_enter Try.func4, Try.ntmps4
  go_wp2
  go_ret
  exact ⟨er, bh⟩
 ·
  rw [if_neg c2] at H
  have c2b0 : decide (1048576 < (a0.size : Int)) = false := decide_eq_false c2
  have c2b1 : decide (1048576 < a0.size) = false := decide_eq_false (by omega)
  clear c2
  obtain ⟨⟨t101, t102⟩, A30, H⟩ := Option.bind_eq_some_iff.mp H
  try dsimp only at H
  have A3 := Aside0.mk A30
  clear A30
  obtain ⟨⟨t103, t104⟩, A40, H⟩ := Option.bind_eq_some_iff.mp H
  try dsimp only at H
  have A4 := Aside0.mk A40
  clear A40
  by_cases c5 : t103.toList = t101.toList
  ·
   rw [if_pos c5] at H
   have c5b0 : (t103.toList == t101.toList) = true := beq_iff_eq.mpr c5
   have c5b1 : (t103.toList != t101.toList) = false := bne_eq_false_iff_eq.mpr c5
   clear c5
   by_cases c6 : (t104 != t102) = true
   ·
    rw [if_pos c6] at H
    have c6b0 : (t104 != t102) = true := c6
    (try (have c6b1 : decide (t104 = t102) = false := by simpa using c6))
    (try (have c6b2 : (t104 == t102) = false := by simpa using c6))
    (try (have c6b3 : ¬ (t104 = t102) := by simpa using c6))
    clear c6
    obtain rfl := Option.some.inj H
    go_enter Try.func4, Try.ntmps4
    go_wp2_with (first | ((with_reducible refine gate_callee (f := 7) rfl ?_); refine goesL_ (some 12) rfl rfl Try.func7 (by kernel_rfl) rfl #[.string a0] rfl mc ?_; (with_reducible refine (spec_Unquoted.calls k a0 t101 t102 _ A3.out).mono ?_); rintro e w7 ⟨rfl, hb⟩; refine ⟨_, rfl, ?_⟩; replace HB := Aside0.mk (below_step bh hb); (try clear hb); (try clear hb2); (try clear hk); (try clear hi)) | ((with_reducible refine gate_callee (f := 8) rfl ?_); refine goesL_ (some 17) rfl rfl Try.func8 (by kernel_rfl) rfl #[.string a0] rfl mc ?_; (with_reducible refine (impl_Unquoted.calls k a0 t103 t104 _ A4.out).mono ?_); rintro e w8 ⟨rfl, hb⟩; refine ⟨_, rfl, ?_⟩; replace HB := Aside0.mk (below_step bh hb); (try clear hb); (try clear hb2); (try clear hk); (try clear hi)))
    go_ret
    exact ⟨er, bh⟩
   ·
    rw [if_neg c6] at H
    have c6b0 : (t104 != t102) = false := by simpa using c6
    (try (have c6b1 : decide (t104 = t102) = true := by simpa using c6))
    (try (have c6b2 : (t104 == t102) = true := by simpa using c6))
    clear c6
    obtain rfl := Option.some.inj H
    go_enter Try.func4, Try.ntmps4
    go_wp2_with (first | ((with_reducible refine gate_callee (f := 7) rfl ?_); refine goesL_ (some 12) rfl rfl Try.func7 (by kernel_rfl) rfl #[.string a0] rfl mc ?_; (with_reducible refine (spec_Unquoted.calls k a0 t101 t102 _ A3.out).mono ?_); rintro e w9 ⟨rfl, hb⟩; refine ⟨_, rfl, ?_⟩; replace HB := Aside0.mk (below_step bh hb); (try clear hb); (try clear hb2); (try clear hk); (try clear hi)) | ((with_reducible refine gate_callee (f := 8) rfl ?_); refine goesL_ (some 17) rfl rfl Try.func8 (by kernel_rfl) rfl #[.string a0] rfl mc ?_; (with_reducible refine (impl_Unquoted.calls k a0 t103 t104 _ A4.out).mono ?_); rintro e w10 ⟨rfl, hb⟩; refine ⟨_, rfl, ?_⟩; replace HB := Aside0.mk (below_step bh hb); (try clear hb); (try clear hb2); (try clear hk); (try clear hi)))
    go_ret
    exact ⟨er, bh⟩
  ·
   rw [if_neg c5] at H
   have c5b0 : (t103.toList == t101.toList) = false := beq_eq_false_iff_ne.mpr c5
   have c5b1 : (t103.toList != t101.toList) = true := bne_iff_ne.mpr c5
   obtain rfl := Option.some.inj H
   go_enter Try.func4, Try.ntmps4
   go_wp2_with (first | ((with_reducible refine gate_callee (f := 7) rfl ?_); refine goesL_ (some 12) rfl rfl Try.func7 (by kernel_rfl) rfl #[.string a0] rfl mc ?_; (with_reducible refine (spec_Unquoted.calls k a0 t101 t102 _ A3.out).mono ?_); rintro e w11 ⟨rfl, hb⟩; refine ⟨_, rfl, ?_⟩; replace HB := Aside0.mk (below_step bh hb); (try clear hb); (try clear hb2); (try clear hk); (try clear hi)) | ((with_reducible refine gate_callee (f := 8) rfl ?_); refine goesL_ (some 17) rfl rfl Try.func8 (by kernel_rfl) rfl #[.string a0] rfl mc ?_; (with_reducible refine (impl_Unquoted.calls k a0 t103 t104 _ A4.out).mono ?_); rintro e w12 ⟨rfl, hb⟩; refine ⟨_, rfl, ?_⟩; replace HB := Aside0.mk (below_step bh hb); (try clear hb); (try clear hb2); (try clear hk); (try clear hi)))
   go_ret
   exact ⟨er, bh⟩

/-- THE ONE PURE STATEMENT of laws_FnExactUnquoted: yours. -/
def laws_FnExactUnquoted.Pure : Prop := ∀ (a0 : ByteArray), a0.size ≤ 140737488351232 → ∃ k, laws_FnExactUnquoted.f k a0 = some true
theorem laws_FnExactUnquoted.walk (P : laws_FnExactUnquoted.Pure) (a0 : ByteArray) (w : World) (w0 : a0.size ≤ 140737488351232) :
  Calls Try.prog 4 #[.string a0] w fun e w' => e = .returned (.bool true) ∧ Below w.heap.size w w' := by
 obtain ⟨k, h⟩ := P a0 w0
 refine (laws_FnExactUnquoted.calls k a0 true w h).mono ?_
 rintro e w' ⟨rfl, hd⟩
 exact ⟨rfl, hd⟩

end Go.Proofs.Ytpgpjgdcfhodgaa.P
