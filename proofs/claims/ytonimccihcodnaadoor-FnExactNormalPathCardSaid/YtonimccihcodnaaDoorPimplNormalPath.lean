/- Functions of the Go program as Lean functions, and proofs that each Go function comes to its Lean function's answers; conditions: those that each theorem states. Written by this session's program hprint.py, which drives the kit's printer. -/
import Derived.Test.YtonimccihcodnaaDoorP0
import Derived.Test.YtonimccihcodnaaDoorPimplCoded
import Derived.Test.YtonimccihcodnaaDoorPimplDotless
import Derived.Test.YtonimccihcodnaaDoorPimplUncoded
import Derived.Test.YtonimccihcodnaaDoorPimplisPath
import Derived.Test.YtonimccihcodnaaDoorXA
import Derived.Test.YtonimccihcodnaaDoorXW
namespace Go.Proofs.YtonimccihcodnaaDoor.P
open Go.RowKit Go.Proofs.YtonimccihcodnaaDoorW.PrintWords Go.Proofs.YtonimccihcodnaaDoorW.PrintLast Go.Proofs.YtonimccihcodnaaDoorW.PrintMore
attribute [local go_sem] max2_int min2_int max_two min_two max_three min_three max_four min_four   -- for this text's walks alone
set_option linter.unusedVariables false
set_option linter.unusedSimpArgs false

/-! ### impl_NormalPath: function 11 -/
def impl_NormalPath.j0 : Nat → ByteArray → Bool → Option (ByteArray × Bool)
  | 0, _, _ => none
  | k + 1, x4, x23 => if x23 = true then (some ((⟨#[]⟩ : ByteArray), false)) else ((impl_Coded.f k x4).bind fun t106 => ((impl_Dotless.f k t106).bind fun t107 => (some (t107, true))))
def impl_NormalPath.f (k : Nat) (a0 : ByteArray) : Option (ByteArray × Bool) := (impl_Uncoded.f k a0).bind fun bt101 => (if bt101.2 = true then ((impl_isPath.f a0).bind fun t103 => (if t103 = true then ((impl_Coded.f k bt101.1).bind fun t104 => ((impl_isPath.f t104).bind fun t105 => (impl_NormalPath.j0 k bt101.1 (!t105)))) else (impl_NormalPath.j0 k bt101.1 true))) else (impl_NormalPath.j0 k bt101.1 true))
theorem impl_NormalPath.mono_l : ∀ k, (∀ y0 y1, LeO (impl_NormalPath.j0 k y0 y1) (impl_NormalPath.j0 (k + 1) y0 y1))
  | 0 => fun _ _ r h => by simp [impl_NormalPath.j0] at h
  | k + 1 => by
    have ih0 := impl_NormalPath.mono_l k
    · intro y0 y1
      unfold impl_NormalPath.j0
      repeat' first
      | (with_reducible exact ih0 _ _)
      | (with_reducible exact impl_Coded.mono _ _)
      | (with_reducible exact impl_Dotless.mono _ _)
      | (with_reducible exact impl_Uncoded.mono _ _)
      | (with_reducible exact LeO.refl _)
      | (with_reducible exact LeO.none _)
      | (with_reducible refine LeO.ite ?_ ?_)
      | (with_reducible refine LeO.bind ?_ (fun _ => ?_))
      | exact ih0 _ _
      | exact impl_Coded.mono _ _
      | exact impl_Dotless.mono _ _
      | exact impl_Uncoded.mono _ _
      | exact LeO.none _
      | refine LeO.ite ?_ ?_
      | refine LeO.bind ?_ (fun _ => ?_)
theorem impl_NormalPath.mono : ∀ a0 k, LeO (impl_NormalPath.f k a0) (impl_NormalPath.f (k + 1) a0) := by
  intro a0 k
  have ih0 := impl_NormalPath.mono_l k
  unfold impl_NormalPath.f
  repeat' first
      | (with_reducible exact ih0 _ _)
      | (with_reducible exact impl_Coded.mono _ _)
      | (with_reducible exact impl_Dotless.mono _ _)
      | (with_reducible exact impl_Uncoded.mono _ _)
      | (with_reducible exact LeO.refl _)
      | (with_reducible exact LeO.none _)
      | (with_reducible refine LeO.ite ?_ ?_)
      | (with_reducible refine LeO.bind ?_ (fun _ => ?_))
      | exact ih0 _ _
      | exact impl_Coded.mono _ _
      | exact impl_Dotless.mono _ _
      | exact impl_Uncoded.mono _ _
      | exact LeO.none _
      | refine LeO.ite ?_ ?_
      | refine LeO.bind ?_ (fun _ => ?_)
set_option maxHeartbeats 8000000 in
set_option maxRecDepth 100000 in
theorem impl_NormalPath.calls (k : Nat) (a0 : ByteArray) (r1 : ByteArray) (r2 : Bool) (w : World) (hX : XW 1 w) (h : impl_NormalPath.f k a0 = some (r1, r2)) :
    Calls Tryd.prog 11 #[.string a0] w fun e w' => e = .returned (.tuple #[.string r1, .bool r2]) ∧ Below w.heap.size w w' := by
  have HB := Aside0.mk (Below.refl w.heap.size w)
  have H : ((impl_Uncoded.f k a0).bind fun bt101 => (if bt101.2 = true then ((impl_isPath.f a0).bind fun t103 => (if t103 = true then ((impl_Coded.f k bt101.1).bind fun t104 => ((impl_isPath.f t104).bind fun t105 => (impl_NormalPath.j0 k bt101.1 (!t105)))) else (impl_NormalPath.j0 k bt101.1 true))) else (impl_NormalPath.j0 k bt101.1 true))) = some (r1, r2) := h
  clear h
  obtain ⟨⟨t101, t102⟩, A20, H⟩ := Option.bind_eq_some_iff.mp H
  try dsimp only at H
  have A2 := Aside0.mk A20
  clear A20
  have HC3 := Aside0.mk H
  clear H
  go_enter Tryd.func11, Tryd.ntmps11
  go_upto_region 2 with (first | ((with_reducible refine gate_callee (f := 18) rfl ?_); refine goesL_ (some 8) rfl rfl Tryd.func18 (by kernel_rfl) rfl #[.string a0] rfl mc ?_; (with_reducible refine (impl_Uncoded.calls k a0 t101 t102 _ A2.out).mono ?_); rintro e w4 ⟨rfl, hb⟩; refine ⟨_, rfl, ?_⟩; replace HB := Aside0.mk (below_step bh hb); (try clear hb); (try clear hb2); (try clear hk); (try clear hi)))
  (try simp only [Act.put, List.setIfInBounds_toArray, List.set_cons_zero, List.set_cons_succ])
  go_cut [23] (fun v23 wc => ∃ (kq : Nat) (x23_2 : Bool), v23 = .bool x23_2 ∧ Aside0 (impl_NormalPath.j0 kq t101 x23_2 = some (r1, r2)) ∧ Aside0 (kq ≤ k) ∧ Aside0 (Below w.heap.size w wc))
  case first =>
    have H := HC3.out
    clear HC3
    by_cases c5 : t102 = true
    · subst c5
      rw [if_pos rfl] at H
      obtain ⟨t103, A60, H⟩ := Option.bind_eq_some_iff.mp H
      try dsimp only at H
      have A6 := Aside0.mk A60
      clear A60
      by_cases c7 : t103 = true
      · subst c7
        rw [if_pos rfl] at H
        obtain ⟨t104, A80, H⟩ := Option.bind_eq_some_iff.mp H
        try dsimp only at H
        have A8 := Aside0.mk A80
        clear A80
        replace H := Option.bind_eq_some_iff.mp H
        obtain ⟨t105, A90, H⟩ := H
        replace H : (impl_NormalPath.j0 k t101 (!t105)) = some (r1, r2) := H
        have A9 := Aside0.mk A90
        clear A90
        have H' := Aside0.mk H
        clear H
        go_wp2_with (first | (go_at_call 32; (with_reducible refine (impl_isPath.calls a0 true _ A6.out).mono ?_); rintro e w' ⟨rfl, ⟨nd, rfl⟩⟩) | (go_at_call 16; (with_reducible refine (impl_Coded.calls k t101 t104 _ A8.out).mono ?_); rintro e w10 ⟨rfl, hb⟩; replace HB := Aside0.mk (below_step bh hb); (try clear hb); (try clear hb2); (try clear hk); (try clear hi)) | (go_at_call 32; (with_reducible refine (impl_isPath.calls t104 t105 _ A9.out).mono ?_); rintro e w' ⟨rfl, ⟨nd, rfl⟩⟩))
        go_meet
        case rel => exact ⟨_, (!t105), (by first | rfl | (simp; done) | (simp [*]; done)), H', ⟨by first | omega | exact Nat.le_refl _⟩, ⟨bh⟩⟩
      · replace c7 := Bool.eq_false_iff.mpr c7
        subst c7
        have H1 : (impl_NormalPath.j0 k t101 true) = some (r1, r2) := by rw [if_neg (show ¬ (false = true) by decide)] at H; exact H
        clear H
        have H := H1
        clear H1
        have H' := Aside0.mk H
        clear H
        go_wp2_with (first | (go_at_call 32; (with_reducible refine (impl_isPath.calls a0 false _ A6.out).mono ?_); rintro e w' ⟨rfl, ⟨nd, rfl⟩⟩))
        go_meet
        case rel => exact ⟨_, (true), (by first | rfl | (simp; done) | (simp [*]; done)), H', ⟨by first | omega | exact Nat.le_refl _⟩, ⟨bh⟩⟩
    · replace c5 := Bool.eq_false_iff.mpr c5
      subst c5
      have H1 : (impl_NormalPath.j0 k t101 true) = some (r1, r2) := by rw [if_neg (show ¬ (false = true) by decide)] at H; exact H
      clear H
      have H := H1
      clear H1
      have H' := Aside0.mk H
      clear H
      go_wp2
      go_meet
      case rel => exact ⟨_, (true), (by first | rfl | (simp; done) | (simp [*]; done)), H', ⟨by first | omega | exact Nat.le_refl _⟩, ⟨bh⟩⟩
  case rest =>
    clear HC3
    try clear c1
    try clear p2
    try clear c5
    try clear c7
    obtain ⟨kq, x23_2, rfl, HA, HJ2, HB⟩ := hcut
    cases kq with
    | zero => exact absurd HA.out (by simp [impl_NormalPath.j0])
    | succ kj2 =>
      have H := HA.out
      clear HA
      simp only [impl_NormalPath.j0] at H
      by_cases c11 : x23_2 = true
      · subst c11
        have H1 : (some ((⟨#[]⟩ : ByteArray), false)) = some (r1, r2) := by rw [if_pos rfl] at H; exact H
        clear H
        have H := H1
        clear H1
        simp only [Option.some.injEq, Prod.mk.injEq] at H
        obtain ⟨rfl, rfl⟩ := H
        go_wp2
        go_ret2
        exact ⟨er, bh⟩
      · replace c11 := Bool.eq_false_iff.mpr c11
        subst c11
        rw [if_neg (show ¬ (false = true) by decide)] at H
        obtain ⟨t106, A120, H⟩ := Option.bind_eq_some_iff.mp H
        try dsimp only at H
        have A12 := Aside0.mk A120
        clear A120
        replace H := Option.bind_eq_some_iff.mp H
        obtain ⟨t107, A130, H⟩ := H
        replace H : (some (t107, true)) = some (r1, r2) := H
        have A13 := Aside0.mk A130
        clear A130
        simp only [Option.some.injEq, Prod.mk.injEq] at H
        obtain ⟨rfl, rfl⟩ := H
        go_wp2_with (first | ((with_reducible refine gate_callee (f := 16) rfl ?_); refine goesL_ (some 25) rfl rfl Tryd.func16 (by kernel_rfl) rfl #[.string t101] rfl mc ?_; (with_reducible refine (impl_Coded.calls kj2 t101 t106 _ A12.out).mono ?_); rintro e w14 ⟨rfl, hb⟩; refine ⟨_, rfl, ?_⟩; replace HB := Aside0.mk (below_step bh hb); (try clear hb); (try clear hb2); (try clear hk); (try clear hi)) | ((with_reducible refine gate_callee (f := 9) rfl ?_); refine goesL_ (some 26) rfl rfl Tryd.func9 (by kernel_rfl) rfl #[.string t106] rfl mc ?_; (with_reducible refine (impl_Dotless.calls kj2 t106 t107 _ ?side1 A13.out).mono ?_); (case side1 => exact XW.to (XW.stays hX bh) (by decide)); rintro e w15 ⟨rfl, hb⟩; refine ⟨_, rfl, ?_⟩; replace HB := Aside0.mk (below_step bh hb); (try clear hb); (try clear hb2); (try clear hk); (try clear hi)))
        go_ret2
        exact ⟨er, bh⟩

end Go.Proofs.YtonimccihcodnaaDoor.P
