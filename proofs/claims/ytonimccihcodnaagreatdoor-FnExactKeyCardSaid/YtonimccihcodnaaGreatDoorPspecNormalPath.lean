/- Functions of the Go program as Lean functions, and proofs that each Go function comes to its Lean function's answers; conditions: those that each theorem states. Written by this session's program hprint.py, which drives the kit's printer. -/
import Derived.Test.YtonimccihcodnaaGreatDoorP0
import Derived.Test.YtonimccihcodnaaGreatDoorPspecDotless
import Derived.Test.YtonimccihcodnaaGreatDoorPspecUncoded
import Derived.Test.YtonimccihcodnaaGreatDoorPspecl3Coded
import Derived.Test.YtonimccihcodnaaGreatDoorPspecl3Path
import Derived.Test.YtonimccihcodnaaGreatDoorXA
namespace Go.Proofs.YtonimccihcodnaaGreatDoor.P
open Go.RowKit Go.Proofs.YtonimccihcodnaaGreatDoorW.PrintWords Go.Proofs.YtonimccihcodnaaGreatDoorW.PrintLast Go.Proofs.YtonimccihcodnaaGreatDoorW.PrintMore
attribute [local go_sem] max2_int min2_int max_two min_two max_three min_three max_four min_four   -- for this text's walks alone
set_option linter.unusedVariables false
set_option linter.unusedSimpArgs false

/-! ### spec_NormalPath: function 13 -/
def spec_NormalPath.j0 : Nat → ByteArray → Bool → Option (ByteArray × Bool)
  | 0, _, _ => none
  | k + 1, x4, x18 => if x18 = true then (some ((⟨#[]⟩ : ByteArray), false)) else ((spec_l3Coded.f k x4).bind fun t104 => ((spec_l3Path.f t104).bind fun t105 => (if t105 = true then ((spec_Dotless.f k t104).bind fun t106 => (some (t106, true))) else (some ((⟨#[]⟩ : ByteArray), false)))))
def spec_NormalPath.f (k : Nat) (a0 : ByteArray) : Option (ByteArray × Bool) := (spec_Uncoded.f k a0).bind fun bt101 => (if bt101.2 = true then ((spec_l3Path.f a0).bind fun t103 => (spec_NormalPath.j0 k bt101.1 (!t103))) else (spec_NormalPath.j0 k bt101.1 true))
theorem spec_NormalPath.mono_l : ∀ k, (∀ y0 y1, LeO (spec_NormalPath.j0 k y0 y1) (spec_NormalPath.j0 (k + 1) y0 y1))
  | 0 => fun _ _ r h => by simp [spec_NormalPath.j0] at h
  | k + 1 => by
    have ih0 := spec_NormalPath.mono_l k
    · intro y0 y1
      unfold spec_NormalPath.j0
      repeat' first
      | (with_reducible exact ih0 _ _)
      | (with_reducible exact spec_Dotless.mono _ _)
      | (with_reducible exact spec_Uncoded.mono _ _)
      | (with_reducible exact spec_l3Coded.mono _ _)
      | (with_reducible exact LeO.refl _)
      | (with_reducible exact LeO.none _)
      | (with_reducible refine LeO.ite ?_ ?_)
      | (with_reducible refine LeO.bind ?_ (fun _ => ?_))
      | exact ih0 _ _
      | exact spec_Dotless.mono _ _
      | exact spec_Uncoded.mono _ _
      | exact spec_l3Coded.mono _ _
      | exact LeO.none _
      | refine LeO.ite ?_ ?_
      | refine LeO.bind ?_ (fun _ => ?_)
theorem spec_NormalPath.mono : ∀ a0 k, LeO (spec_NormalPath.f k a0) (spec_NormalPath.f (k + 1) a0) := by
  intro a0 k
  have ih0 := spec_NormalPath.mono_l k
  unfold spec_NormalPath.f
  repeat' first
      | (with_reducible exact ih0 _ _)
      | (with_reducible exact spec_Dotless.mono _ _)
      | (with_reducible exact spec_Uncoded.mono _ _)
      | (with_reducible exact spec_l3Coded.mono _ _)
      | (with_reducible exact LeO.refl _)
      | (with_reducible exact LeO.none _)
      | (with_reducible refine LeO.ite ?_ ?_)
      | (with_reducible refine LeO.bind ?_ (fun _ => ?_))
      | exact ih0 _ _
      | exact spec_Dotless.mono _ _
      | exact spec_Uncoded.mono _ _
      | exact spec_l3Coded.mono _ _
      | exact LeO.none _
      | refine LeO.ite ?_ ?_
      | refine LeO.bind ?_ (fun _ => ?_)
set_option maxHeartbeats 8000000 in
set_option maxRecDepth 100000 in
theorem spec_NormalPath.calls (k : Nat) (a0 : ByteArray) (r1 : ByteArray) (r2 : Bool) (w : World) (h : spec_NormalPath.f k a0 = some (r1, r2)) :
    Calls Tryz.prog 13 #[.string a0] w fun e w' => e = .returned (.tuple #[.string r1, .bool r2]) ∧ Below w.heap.size w w' := by
  have HB := Aside0.mk (Below.refl w.heap.size w)
  have H : ((spec_Uncoded.f k a0).bind fun bt101 => (if bt101.2 = true then ((spec_l3Path.f a0).bind fun t103 => (spec_NormalPath.j0 k bt101.1 (!t103))) else (spec_NormalPath.j0 k bt101.1 true))) = some (r1, r2) := h
  clear h
  obtain ⟨⟨t101, t102⟩, A20, H⟩ := Option.bind_eq_some_iff.mp H
  try dsimp only at H
  have A2 := Aside0.mk A20
  clear A20
  have HC3 := Aside0.mk H
  clear H
  go_enter Tryz.func13, Tryz.ntmps13
  go_upto_region 2 with (first | ((with_reducible refine gate_callee (f := 32) rfl ?_); refine goesL_ (some 9) rfl rfl Tryz.func32 (by kernel_rfl) rfl #[.string a0] rfl mc ?_; (with_reducible refine (spec_Uncoded.calls k a0 t101 t102 _ A2.out).mono ?_); rintro e w4 ⟨rfl, hb⟩; refine ⟨_, rfl, ?_⟩; replace HB := Aside0.mk (below_step bh hb); (try clear hb); (try clear hb2); (try clear hk); (try clear hi)))
  (try simp only [Act.put, List.setIfInBounds_toArray, List.set_cons_zero, List.set_cons_succ])
  go_cut [18] (fun v18 wc => ∃ (kq : Nat) (x18_2 : Bool), v18 = .bool x18_2 ∧ Aside0 (spec_NormalPath.j0 kq t101 x18_2 = some (r1, r2)) ∧ Aside0 (kq ≤ k) ∧ Aside0 (Below w.heap.size w wc))
  case first =>
    have H := HC3.out
    clear HC3
    by_cases c5 : t102 = true
    · subst c5
      rw [if_pos rfl] at H
      replace H := Option.bind_eq_some_iff.mp H
      obtain ⟨t103, A60, H⟩ := H
      replace H : (spec_NormalPath.j0 k t101 (!t103)) = some (r1, r2) := H
      have A6 := Aside0.mk A60
      clear A60
      have H' := Aside0.mk H
      clear H
      go_wp2_with (first | (go_at_call 33; (with_reducible refine (spec_l3Path.calls a0 t103 _ A6.out).mono ?_); rintro e w' ⟨rfl, ⟨nd, rfl⟩⟩))
      go_meet
      case rel => exact ⟨_, (!t103), (by first | rfl | (simp; done) | (simp [*]; done)), H', ⟨by first | omega | exact Nat.le_refl _⟩, ⟨bh⟩⟩
    · replace c5 := Bool.eq_false_iff.mpr c5
      subst c5
      have H1 : (spec_NormalPath.j0 k t101 true) = some (r1, r2) := by rw [if_neg (show ¬ (false = true) by decide)] at H; exact H
      clear H
      have H := H1
      clear H1
      have H' := Aside0.mk H
      clear H
      go_wp2
      go_meet
      case rel => exact ⟨_, (true), (by first | rfl | (simp; done) | (simp [*]; done)), H', ⟨by first | omega | exact Nat.le_refl _⟩, ⟨bh⟩⟩
  case rest =>
    clear HC3
    try clear c1
    try clear p2
    try clear c3
    try clear c5
    obtain ⟨kq, x18_2, rfl, HA, HJ2, HB⟩ := hcut
    cases kq with
    | zero => exact absurd HA.out (by simp [spec_NormalPath.j0])
    | succ kj2 =>
      have H := HA.out
      clear HA
      simp only [spec_NormalPath.j0] at H
      by_cases c7 : x18_2 = true
      · subst c7
        have H1 : (some ((⟨#[]⟩ : ByteArray), false)) = some (r1, r2) := by rw [if_pos rfl] at H; exact H
        clear H
        have H := H1
        clear H1
        simp only [Option.some.injEq, Prod.mk.injEq] at H
        obtain ⟨rfl, rfl⟩ := H
        go_wp2
        go_ret2
        exact ⟨er, bh⟩
      · replace c7 := Bool.eq_false_iff.mpr c7
        subst c7
        rw [if_neg (show ¬ (false = true) by decide)] at H
        obtain ⟨t104, A80, H⟩ := Option.bind_eq_some_iff.mp H
        try dsimp only at H
        have A8 := Aside0.mk A80
        clear A80
        obtain ⟨t105, A90, H⟩ := Option.bind_eq_some_iff.mp H
        try dsimp only at H
        have A9 := Aside0.mk A90
        clear A90
        by_cases c10 : t105 = true
        · subst c10
          rw [if_pos rfl] at H
          replace H := Option.bind_eq_some_iff.mp H
          obtain ⟨t106, A110, H⟩ := H
          replace H : (some (t106, true)) = some (r1, r2) := H
          have A11 := Aside0.mk A110
          clear A110
          simp only [Option.some.injEq, Prod.mk.injEq] at H
          obtain ⟨rfl, rfl⟩ := H
          go_wp2_with (first | ((with_reducible refine gate_callee (f := 34) rfl ?_); refine goesL_ (some 20) rfl rfl Tryz.func34 (by kernel_rfl) rfl #[.string t101] rfl mc ?_; (with_reducible refine (spec_l3Coded.calls kj2 t101 t104 _ A8.out).mono ?_); rintro e w12 ⟨rfl, hb⟩; refine ⟨_, rfl, ?_⟩; replace HB := Aside0.mk (below_step bh hb); (try clear hb); (try clear hb2); (try clear hk); (try clear hi)) | ((with_reducible refine gate_callee (f := 33) rfl ?_); refine goesL_ (some 22) rfl rfl Tryz.func33 (by kernel_rfl) rfl #[.string t104] rfl mc ?_; (with_reducible refine (spec_l3Path.calls t104 true _ A9.out).mono ?_); rintro e w' ⟨rfl, ⟨nd, rfl⟩⟩; refine ⟨_, rfl, ?_⟩) | ((with_reducible refine gate_callee (f := 35) rfl ?_); refine goesL_ (some 25) rfl rfl Tryz.func35 (by kernel_rfl) rfl #[.string t104] rfl mc ?_; (with_reducible refine (spec_Dotless.calls kj2 t104 t106 _ A11.out).mono ?_); rintro e w13 ⟨rfl, hb⟩; refine ⟨_, rfl, ?_⟩; replace HB := Aside0.mk (below_step bh hb); (try clear hb); (try clear hb2); (try clear hk); (try clear hi)))
          go_ret2
          exact ⟨er, bh⟩
        · replace c10 := Bool.eq_false_iff.mpr c10
          subst c10
          have H1 : (some ((⟨#[]⟩ : ByteArray), false)) = some (r1, r2) := by rw [if_neg (show ¬ (false = true) by decide)] at H; exact H
          clear H
          have H := H1
          clear H1
          simp only [Option.some.injEq, Prod.mk.injEq] at H
          obtain ⟨rfl, rfl⟩ := H
          go_wp2_with (first | ((with_reducible refine gate_callee (f := 34) rfl ?_); refine goesL_ (some 20) rfl rfl Tryz.func34 (by kernel_rfl) rfl #[.string t101] rfl mc ?_; (with_reducible refine (spec_l3Coded.calls kj2 t101 t104 _ A8.out).mono ?_); rintro e w14 ⟨rfl, hb⟩; refine ⟨_, rfl, ?_⟩; replace HB := Aside0.mk (below_step bh hb); (try clear hb); (try clear hb2); (try clear hk); (try clear hi)) | ((with_reducible refine gate_callee (f := 33) rfl ?_); refine goesL_ (some 22) rfl rfl Tryz.func33 (by kernel_rfl) rfl #[.string t104] rfl mc ?_; (with_reducible refine (spec_l3Path.calls t104 false _ A9.out).mono ?_); rintro e w' ⟨rfl, ⟨nd, rfl⟩⟩; refine ⟨_, rfl, ?_⟩))
          go_ret2
          exact ⟨er, bh⟩

end Go.Proofs.YtonimccihcodnaaGreatDoor.P
