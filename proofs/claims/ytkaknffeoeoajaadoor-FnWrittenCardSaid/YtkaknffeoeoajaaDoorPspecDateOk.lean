/- Functions of the Go program as Lean functions, and proofs that each Go function comes to its Lean function's answers; conditions: those that each theorem states. Written by this session's program hprint.py, which drives the kit's printer. -/
import Derived.Test.YtkaknffeoeoajaaDoorP0
import Derived.Test.YtkaknffeoeoajaaDoorPspecl1In
import Derived.Test.YtkaknffeoeoajaaDoorPspecl2Month
import Derived.Test.YtkaknffeoeoajaaDoorXA
namespace Go.Proofs.YtkaknffeoeoajaaDoor.P
open Go.RowKit Go.Proofs.YtkaknffeoeoajaaDoorW.PrintWords Go.Proofs.YtkaknffeoeoajaaDoorW.PrintLast Go.Proofs.YtkaknffeoeoajaaDoorW.PrintMore
attribute [local go_sem] max2_int min2_int max_two min_two max_three min_three max_four min_four   -- for this text's walks alone
set_option linter.unusedVariables false
set_option linter.unusedSimpArgs false

/-! ### spec_DateOk: function 19 -/
abbrev spec_DateOk.d0 : Array Bool := #[false, false, false, false, false, false, false, false, false, false, false, false, false, false, false, false, false, false, false, false, false, false, false, false, false, false, false, false, false, false, false, false, false, false]
abbrev spec_DateOk.d1 : Array Bool := #[true, false, false, false, false, false, false, false, false, false, false, false, false, false, false, false, false, false, false, false, false, false, false, false, false, false, false, false, false, false, false, false, false, false]
abbrev spec_DateOk.d2 : Array Bool := #[true, true, false, false, false, false, false, false, false, false, false, false, false, false, false, false, false, false, false, false, false, false, false, false, false, false, false, false, false, false, false, false, false, false]
abbrev spec_DateOk.d3 : Array Bool := #[true, true, true, false, false, false, false, false, false, false, false, false, false, false, false, false, false, false, false, false, false, false, false, false, false, false, false, false, false, false, false, false, false, false]
abbrev spec_DateOk.d4 : Array Bool := #[true, true, true, true, false, false, false, false, false, false, false, false, false, false, false, false, false, false, false, false, false, false, false, false, false, false, false, false, false, false, false, false, false, false]
abbrev spec_DateOk.d5 : Array Bool := #[true, true, true, true, true, false, false, false, false, false, false, false, false, false, false, false, false, false, false, false, false, false, false, false, false, false, false, false, false, false, false, false, false, false]
abbrev spec_DateOk.d6 : Array Bool := #[true, true, true, true, true, true, false, false, false, false, false, false, false, false, false, false, false, false, false, false, false, false, false, false, false, false, false, false, false, false, false, false, false, false]
abbrev spec_DateOk.d7 : Array Bool := #[true, true, true, true, true, true, true, false, false, false, false, false, false, false, false, false, false, false, false, false, false, false, false, false, false, false, false, false, false, false, false, false, false, false]
abbrev spec_DateOk.d8 : Array Bool := #[true, true, true, true, true, true, true, true, false, false, false, false, false, false, false, false, false, false, false, false, false, false, false, false, false, false, false, false, false, false, false, false, false, false]
abbrev spec_DateOk.d9 : Array Bool := #[true, true, true, true, true, true, true, true, true, false, false, false, false, false, false, false, false, false, false, false, false, false, false, false, false, false, false, false, false, false, false, false, false, false]
abbrev spec_DateOk.d10 : Array Bool := #[true, true, true, true, true, true, true, true, true, true, false, false, false, false, false, false, false, false, false, false, false, false, false, false, false, false, false, false, false, false, false, false, false, false]
abbrev spec_DateOk.d11 : Array Bool := #[true, true, true, true, true, true, true, true, true, true, false, true, false, false, false, false, false, false, false, false, false, false, false, false, false, false, false, false, false, false, false, false, false, false]
abbrev spec_DateOk.d12 : Array Bool := #[true, true, true, true, true, true, true, true, true, true, false, true, false, true, false, false, false, false, false, false, false, false, false, false, false, false, false, false, false, false, false, false, false, false]
abbrev spec_DateOk.d13 : Array Bool := #[true, true, true, true, true, true, true, true, true, true, true, true, false, true, false, false, false, false, false, false, false, false, false, false, false, false, false, false, false, false, false, false, false, false]
abbrev spec_DateOk.d14 : Array Bool := #[true, true, true, true, true, true, true, true, true, true, true, true, true, true, false, false, false, false, false, false, false, false, false, false, false, false, false, false, false, false, false, false, false, false]
abbrev spec_DateOk.d15 : Array Bool := #[true, true, true, true, true, true, true, true, true, true, true, true, true, true, true, false, false, false, false, false, false, false, false, false, false, false, false, false, false, false, false, false, false, false]
abbrev spec_DateOk.d16 : Array Bool := #[true, true, true, true, true, true, true, true, true, true, true, true, true, true, true, true, false, false, false, false, false, false, false, false, false, false, false, false, false, false, false, false, false, false]
abbrev spec_DateOk.d17 : Array Bool := #[true, true, true, true, true, true, true, true, true, true, true, true, true, true, true, true, true, false, false, false, false, false, false, false, false, false, false, false, false, false, false, false, false, false]
abbrev spec_DateOk.d18 : Array Bool := #[true, true, true, true, true, true, true, true, true, true, true, true, true, true, true, true, true, true, false, false, false, false, false, false, false, false, false, false, false, false, false, false, false, false]
abbrev spec_DateOk.d19 : Array Bool := #[true, true, true, true, true, true, true, true, true, true, true, true, true, true, true, true, true, true, true, false, false, false, false, false, false, false, false, false, false, false, false, false, false, false]
abbrev spec_DateOk.d20 : Array Bool := #[true, true, true, true, true, true, true, true, true, true, true, true, true, true, true, true, true, true, true, true, false, false, false, false, false, false, false, false, false, false, false, false, false, false]
abbrev spec_DateOk.d21 : Array Bool := #[true, true, true, true, true, true, true, true, true, true, true, true, true, true, true, true, true, true, true, true, true, false, false, false, false, false, false, false, false, false, false, false, false, false]
abbrev spec_DateOk.d22 : Array Bool := #[true, true, true, true, true, true, true, true, true, true, true, true, true, true, true, true, true, true, true, true, true, true, false, false, false, false, false, false, false, false, false, false, false, false]
abbrev spec_DateOk.d23 : Array Bool := #[true, true, true, true, true, true, true, true, true, true, true, true, true, true, true, true, true, true, true, true, true, true, true, false, false, false, false, false, false, false, false, false, false, false]
abbrev spec_DateOk.d24 : Array Bool := #[true, true, true, true, true, true, true, true, true, true, true, true, true, true, true, true, true, true, true, true, true, true, true, true, false, false, false, false, false, false, false, false, false, false]
abbrev spec_DateOk.d25 : Array Bool := #[true, true, true, true, true, true, true, true, true, true, true, true, true, true, true, true, true, true, true, true, true, true, true, true, true, false, false, false, false, false, false, false, false, false]
abbrev spec_DateOk.d26 : Array Bool := #[true, true, true, true, true, true, true, true, true, true, true, true, true, true, true, true, true, true, true, true, true, true, true, true, true, true, false, false, false, false, false, false, false, false]
abbrev spec_DateOk.d27 : Array Bool := #[true, true, true, true, true, true, true, true, true, true, true, true, true, true, true, true, true, true, true, true, true, true, true, true, true, true, true, false, false, false, false, false, false, false]
abbrev spec_DateOk.d28 : Array Bool := #[true, true, true, true, true, true, true, true, true, true, true, true, true, true, true, true, true, true, true, true, true, true, true, true, true, true, true, true, false, false, false, false, false, false]
abbrev spec_DateOk.d29 : Array Bool := #[true, true, true, true, true, true, true, true, true, true, true, true, true, true, true, true, true, true, true, true, true, true, true, true, true, true, true, true, true, false, false, false, false, false]
abbrev spec_DateOk.d30 : Array Bool := #[true, true, true, true, true, true, true, true, true, true, true, true, true, true, true, true, true, true, true, true, true, true, true, true, true, true, true, true, true, true, false, false, false, false]
abbrev spec_DateOk.d31 : Array Bool := #[true, true, true, true, true, true, true, true, true, true, true, true, true, true, true, true, true, true, true, true, true, true, true, true, true, true, true, true, true, true, true, false, false, false]
abbrev spec_DateOk.d32 : Array Bool := #[true, true, true, true, true, true, true, true, true, true, true, true, true, true, true, true, true, true, true, true, true, true, true, true, true, true, true, true, true, true, true, true, false, false]
abbrev spec_DateOk.d33 : Array Bool := #[true, true, true, true, true, true, true, true, true, true, true, true, true, true, true, true, true, true, true, true, true, true, true, true, true, true, true, true, true, true, true, true, true, false]
abbrev spec_DateOk.d34 : Array Bool := #[true, true, true, true, true, true, true, true, true, true, true, true, true, true, true, true, true, true, true, true, true, true, true, true, true, true, true, true, true, true, true, true, true, true]
abbrev spec_DateOk.d35 : Array Bool := #[true, true, true, true, true, true, true, true, true, true, true, false, false, false, false, false, false, false, false, false, false, false, false, false, false, false, false, false, false, false, false, false, false, false]
abbrev spec_DateOk.d36 : Array Bool := #[true, true, true, true, true, true, true, true, true, true, true, true, false, false, false, false, false, false, false, false, false, false, false, false, false, false, false, false, false, false, false, false, false, false]
abbrev spec_DateOk.d37 : Array Bool := #[true, true, true, true, true, true, true, true, true, true, true, true, true, false, false, false, false, false, false, false, false, false, false, false, false, false, false, false, false, false, false, false, false, false]
def spec_DateOk.f (a0_0 : Int) (a0_1 : Int) (a0_2 : Int) (a0_3 : Int) (a0_4 : Int) (a0_5 : Int) : Option (Bool) := (spec_l1In.f a0_0 1970 9999).bind fun t102 => (if t102 = true then ((spec_l1In.f a0_1 1 12).bind fun t103 => (if t103 = true then ((spec_l2Month.f a0_0 a0_1).bind fun t104 => ((spec_l1In.f a0_2 1 t104).bind fun t105 => (if t105 = true then ((spec_l1In.f a0_3 0 23).bind fun t106 => (if t106 = true then ((spec_l1In.f a0_4 0 59).bind fun t107 => (if t107 = true then ((spec_l1In.f a0_5 0 59).bind fun t108 => (some t108)) else (some false))) else (some false))) else (some false)))) else (some false))) else (some false))
def spec_DateOk.T1 : Bool × List (List Nat × List Nat) := (true, [([], []), ([0], [0]), ([1], [1]), ([2, 2], [2]), ([3], [3]), ([4, 3], [3, 4]), ([5, 3, 3], [3, 5]), ([3, 6], [3, 6]), ([7, 6], [7]), ([8], [8]), ([9, 8], [8, 9]), ([8], [8]), ([11, 8], [8, 11]), ([8], [8]), ([13, 8], [8, 13]), ([12, 14, 8, 8], [8, 12, 14]), ([10, 15, 15, 8], [8, 10, 15]), ([8, 16], [8, 16]), ([17, 16], [17]), ([18], [18]), ([19, 18], [18, 19]), ([20, 18, 18], [18, 20]), ([18, 21], [18, 21]), ([22, 21], [22]), ([23], [23]), ([24, 23], [23, 24]), ([25, 23, 23], [23, 25]), ([23, 26], [23, 26]), ([27, 26], [27]), ([28], [28]), ([29, 28], [28, 29]), ([30, 28, 28], [28, 30]), ([28, 31], [28, 31]), ([32, 31, 0, 1, 2, 3, 4, 5, 6, 7, 8, 9, 10, 11, 12, 13, 14, 15, 16, 17, 18, 19, 20, 21, 22, 23, 24, 25, 26, 27, 28, 29, 30, 31, 32], [32])])
def spec_DateOk.B1 : List Nat := [0, 1, 3, 7, 15, 31, 63, 127, 255, 511, 1023, 511, 2559, 511, 8703, 31231, 65535, 131071, 262143, 524287, 1048575, 2097151, 4194303, 8388607, 16777215, 33554431, 67108863, 134217727, 268435455, 536870911, 1073741823, 2147483647, 4294967295, 8589934591]
theorem spec_DateOk.tab1 : rtab .any (opsOf Tryd.f19 1) = spec_DateOk.T1 := by kernel_rfl
theorem spec_DateOk.bits1 : waitsOk spec_DateOk.T1.2 spec_DateOk.B1 = true := by kernel_rfl
set_option maxHeartbeats 8000000 in
set_option maxRecDepth 100000 in
theorem spec_DateOk.calls (a0_0 : Int) (a0_1 : Int) (a0_2 : Int) (a0_3 : Int) (a0_4 : Int) (a0_5 : Int) (r : Bool) (w : World) (h : spec_DateOk.f a0_0 a0_1 a0_2 a0_3 a0_4 a0_5 = some r) :
  Calls Tryd.prog 19 #[.agg #[.int .i64 a0_0, .int .i64 a0_1, .int .i64 a0_2, .int .i64 a0_3, .int .i64 a0_4, .int .i64 a0_5]] w fun e w' => e = .returned (.bool r) ∧ Below w.heap.size w w' := by
 have hu34 := Tryd.underlying34
 have HB := Aside0.mk (Below.refl w.heap.size w)
 have H := h
 unfold spec_DateOk.f at H
 clear h
 obtain ⟨t102, A20, H⟩ := Option.bind_eq_some_iff.mp H
 try dsimp only at H
 have A2 := Aside0.mk A20
 clear A20
 by_cases c3 : t102 = true
 ·
  subst c3
  rw [if_pos rfl] at H
  obtain ⟨t103, A40, H⟩ := Option.bind_eq_some_iff.mp H
  try dsimp only at H
  have A4 := Aside0.mk A40
  clear A40
  by_cases c5 : t103 = true
  ·
   subst c5
   rw [if_pos rfl] at H
   obtain ⟨t104, A60, H⟩ := Option.bind_eq_some_iff.mp H
   try dsimp only at H
   have A6 := Aside0.mk A60
   clear A60
   obtain ⟨t105, A70, H⟩ := Option.bind_eq_some_iff.mp H
   try dsimp only at H
   have A7 := Aside0.mk A70
   clear A70
   by_cases c8 : t105 = true
   ·
    subst c8
    rw [if_pos rfl] at H
    obtain ⟨t106, A90, H⟩ := Option.bind_eq_some_iff.mp H
    try dsimp only at H
    have A9 := Aside0.mk A90
    clear A90
    by_cases c10 : t106 = true
    ·
     subst c10
     rw [if_pos rfl] at H
     obtain ⟨t107, A110, H⟩ := Option.bind_eq_some_iff.mp H
     try dsimp only at H
     have A11 := Aside0.mk A110
     clear A110
     by_cases c12 : t107 = true
     ·
      subst c12
      rw [if_pos rfl] at H
      replace H := Option.bind_eq_some_iff.mp H
      obtain ⟨t108, A130, H⟩ := H
      replace H : (some t108) = some r := H
      have A13 := Aside0.mk A130
      clear A130
      obtain rfl := Option.some.inj H
      go_enter Tryd.func19, Tryd.ntmps19
      try go_wp2_with (first | ((with_reducible refine gate_dst (N := 1) rfl ?_); refine bx 1 #[.int .i64 a0_0, .int .i64 a0_1, .int .i64 a0_2, .int .i64 a0_3, .int .i64 a0_4, .int .i64 a0_5] 34 ?_; intro gb101 hg w14 hbox hb; have BK101 := Aside0.mk (hbox); have GW101 := Aside0.mk (bz hg); have GE101 := Aside0.mk (bz hg); replace HB := Aside0.mk (below_step bh hb); clear hb hbox hg))
      replace BK101 := Aside0.mk (blk_drew BK101.out)
      replace HB := Aside0.mk (below_drew1 HB.out)
      refine start_ (n := 34) (S := fun w' => w'.cell? ⟨gb101, 0, none⟩ = some (.int .i64 a0_0) ∧ w'.cell? ⟨gb101, 1, none⟩ = some (.int .i64 a0_1) ∧ w'.cell? ⟨gb101, 2, none⟩ = some (.int .i64 a0_2) ∧ w'.cell? ⟨gb101, 3, none⟩ = some (.int .i64 a0_3) ∧ w'.cell? ⟨gb101, 4, none⟩ = some (.int .i64 a0_4) ∧ w'.cell? ⟨gb101, 5, none⟩ = some (.int .i64 a0_5)) (ds := []) spec_DateOk.d0 (by kernel_rfl) rfl rfl ⟨bc BK101 0, bc BK101 1, bc BK101 2, bc BK101 3, bc BK101 4, bc BK101 5⟩ (fun hHeld => ?_); refine with_tabW spec_DateOk.tab1 spec_DateOk.bits1 (fun HT_ HW_ => ?_)
      generalize w14.drew = w15 at BK101 HB hHeld ⊢
      refine pu 0 3 spec_DateOk.d1 HT_ ?_
      refine tk 1 4 spec_DateOk.d2 HT_ HW_ hHeld ?_
      refine onx 2 5 spec_DateOk.d3 HT_ (fun K hK => ?_)
      refine gs Tryd.func47 #[.int .i64 a0_0, .int .i64 1970, .int .i64 9999] ?_
      with_reducible refine (spec_l1In.calls a0_0 1970 9999 true _ A2.out).mono ?_
      rintro e w' ⟨rfl, ⟨nd, rfl⟩⟩
      refine ⟨_, rfl, ?_⟩
      refine hK.out _ _ ⟨bc BK101 0, bc BK101 1, bc BK101 2, bc BK101 3, bc BK101 4, bc BK101 5⟩ (fun hHeld => ?_)
      clear hK K
      refine nm 5 ?_
      refine pu 3 6 spec_DateOk.d4 HT_ ?_
      refine pu 4 7 spec_DateOk.d5 HT_ ?_
      refine tk 5 8 spec_DateOk.d6 HT_ HW_ hHeld ?_
      refine onx 6 9 spec_DateOk.d7 HT_ (fun K hK => ?_)
      refine gs Tryd.func47 #[.int .i64 a0_1, .int .i64 1, .int .i64 12] ?_
      with_reducible refine (spec_l1In.calls a0_1 1 12 true _ A4.out).mono ?_
      rintro e w' ⟨rfl, ⟨nd, rfl⟩⟩
      refine ⟨_, rfl, ?_⟩
      refine hK.out _ _ ⟨bc BK101 0, bc BK101 1, bc BK101 2, bc BK101 3, bc BK101 4, bc BK101 5⟩ (fun hHeld => ?_)
      clear hK K
      refine nm 9 ?_
      refine pu 7 10 spec_DateOk.d8 HT_ ?_
      refine pu 8 11 spec_DateOk.d9 HT_ ?_
      refine pu 9 12 spec_DateOk.d10 HT_ ?_
      refine pu 11 14 spec_DateOk.d11 HT_ ?_
      refine pu 13 16 spec_DateOk.d12 HT_ ?_
      refine tk 10 13 spec_DateOk.d13 HT_ HW_ hHeld ?_
      refine tk 12 15 spec_DateOk.d14 HT_ HW_ hHeld ?_
      refine tk 14 17 spec_DateOk.d15 HT_ HW_ hHeld ?_
      refine onx 15 18 spec_DateOk.d16 HT_ (fun K hK => ?_)
      refine gs Tryd.func48 #[.int .i64 a0_0, .int .i64 a0_1] ?_
      with_reducible refine (spec_l2Month.calls a0_0 a0_1 t104 _ A6.out).mono ?_
      rintro e w16 ⟨rfl, hb⟩
      refine ⟨_, rfl, ?_⟩
      replace BK101 := bkb_ BK101 hb
      replace HB := Aside0.mk (below_step bh hb)
      (try clear hb)
      (try clear hb2)
      (try clear hk)
      (try clear hi)
      refine hK.out _ _ ⟨bc BK101 0, bc BK101 1, bc BK101 2, bc BK101 3, bc BK101 4, bc BK101 5⟩ (fun hHeld => ?_)
      clear hK K
      refine nm 18 ?_
      refine onx 16 19 spec_DateOk.d17 HT_ (fun K hK => ?_)
      refine gs Tryd.func47 #[.int .i64 a0_2, .int .i64 1, .int .i64 t104] ?_
      with_reducible refine (spec_l1In.calls a0_2 1 t104 true _ A7.out).mono ?_
      rintro e w' ⟨rfl, ⟨nd, rfl⟩⟩
      refine ⟨_, rfl, ?_⟩
      refine hK.out _ _ ⟨bc BK101 0, bc BK101 1, bc BK101 2, bc BK101 3, bc BK101 4, bc BK101 5⟩ (fun hHeld => ?_)
      clear hK K
      refine nm 19 ?_
      refine pu 17 20 spec_DateOk.d18 HT_ ?_
      refine pu 18 21 spec_DateOk.d19 HT_ ?_
      refine pu 19 22 spec_DateOk.d20 HT_ ?_
      refine tk 20 23 spec_DateOk.d21 HT_ HW_ hHeld ?_
      refine onx 21 24 spec_DateOk.d22 HT_ (fun K hK => ?_)
      refine gs Tryd.func47 #[.int .i64 a0_3, .int .i64 0, .int .i64 23] ?_
      with_reducible refine (spec_l1In.calls a0_3 0 23 true _ A9.out).mono ?_
      rintro e w' ⟨rfl, ⟨nd, rfl⟩⟩
      refine ⟨_, rfl, ?_⟩
      refine hK.out _ _ ⟨bc BK101 0, bc BK101 1, bc BK101 2, bc BK101 3, bc BK101 4, bc BK101 5⟩ (fun hHeld => ?_)
      clear hK K
      refine nm 24 ?_
      refine pu 22 25 spec_DateOk.d23 HT_ ?_
      refine pu 23 26 spec_DateOk.d24 HT_ ?_
      refine pu 24 27 spec_DateOk.d25 HT_ ?_
      refine tk 25 28 spec_DateOk.d26 HT_ HW_ hHeld ?_
      refine onx 26 29 spec_DateOk.d27 HT_ (fun K hK => ?_)
      refine gs Tryd.func47 #[.int .i64 a0_4, .int .i64 0, .int .i64 59] ?_
      with_reducible refine (spec_l1In.calls a0_4 0 59 true _ A11.out).mono ?_
      rintro e w' ⟨rfl, ⟨nd, rfl⟩⟩
      refine ⟨_, rfl, ?_⟩
      refine hK.out _ _ ⟨bc BK101 0, bc BK101 1, bc BK101 2, bc BK101 3, bc BK101 4, bc BK101 5⟩ (fun hHeld => ?_)
      clear hK K
      refine nm 29 ?_
      refine pu 27 30 spec_DateOk.d28 HT_ ?_
      refine pu 28 31 spec_DateOk.d29 HT_ ?_
      refine pu 29 32 spec_DateOk.d30 HT_ ?_
      refine tk 30 33 spec_DateOk.d31 HT_ HW_ hHeld ?_
      refine onx 31 34 spec_DateOk.d32 HT_ (fun K hK => ?_)
      refine gs Tryd.func47 #[.int .i64 a0_5, .int .i64 0, .int .i64 59] ?_
      with_reducible refine (spec_l1In.calls a0_5 0 59 t108 _ A13.out).mono ?_
      rintro e w' ⟨rfl, ⟨nd, rfl⟩⟩
      refine ⟨_, rfl, ?_⟩
      refine hK.out _ _ ⟨bc BK101 0, bc BK101 1, bc BK101 2, bc BK101 3, bc BK101 4, bc BK101 5⟩ (fun hHeld => ?_)
      clear hK K
      refine nm 34 ?_
      refine pu 32 35 spec_DateOk.d33 HT_ ?_
      refine pu 33 2 spec_DateOk.d34 HT_ ?_
      refine dn HT_ ?_
      try go_wp2
      go_ret
      exact ⟨er, bh⟩
     ·
      replace c12 := Bool.eq_false_iff.mpr c12
      subst c12
      have H1 : (some false) = some r := by rw [if_neg (show ¬ (false = true) by decide)] at H; exact H
      clear H
      have H := H1
      clear H1
      obtain rfl := Option.some.inj H
      go_enter Tryd.func19, Tryd.ntmps19
      try go_wp2_with (first | ((with_reducible refine gate_dst (N := 1) rfl ?_); refine bx 1 #[.int .i64 a0_0, .int .i64 a0_1, .int .i64 a0_2, .int .i64 a0_3, .int .i64 a0_4, .int .i64 a0_5] 34 ?_; intro gb101 hg w17 hbox hb; have BK101 := Aside0.mk (hbox); have GW101 := Aside0.mk (bz hg); have GE101 := Aside0.mk (bz hg); replace HB := Aside0.mk (below_step bh hb); clear hb hbox hg))
      replace BK101 := Aside0.mk (blk_drew BK101.out)
      replace HB := Aside0.mk (below_drew1 HB.out)
      refine start_ (n := 34) (S := fun w' => w'.cell? ⟨gb101, 0, none⟩ = some (.int .i64 a0_0) ∧ w'.cell? ⟨gb101, 1, none⟩ = some (.int .i64 a0_1) ∧ w'.cell? ⟨gb101, 2, none⟩ = some (.int .i64 a0_2) ∧ w'.cell? ⟨gb101, 3, none⟩ = some (.int .i64 a0_3) ∧ w'.cell? ⟨gb101, 4, none⟩ = some (.int .i64 a0_4) ∧ w'.cell? ⟨gb101, 5, none⟩ = some (.int .i64 a0_5)) (ds := []) spec_DateOk.d0 (by kernel_rfl) rfl rfl ⟨bc BK101 0, bc BK101 1, bc BK101 2, bc BK101 3, bc BK101 4, bc BK101 5⟩ (fun hHeld => ?_); refine with_tabW spec_DateOk.tab1 spec_DateOk.bits1 (fun HT_ HW_ => ?_)
      generalize w17.drew = w18 at BK101 HB hHeld ⊢
      refine pu 0 3 spec_DateOk.d1 HT_ ?_
      refine tk 1 4 spec_DateOk.d2 HT_ HW_ hHeld ?_
      refine onx 2 5 spec_DateOk.d3 HT_ (fun K hK => ?_)
      refine gs Tryd.func47 #[.int .i64 a0_0, .int .i64 1970, .int .i64 9999] ?_
      with_reducible refine (spec_l1In.calls a0_0 1970 9999 true _ A2.out).mono ?_
      rintro e w' ⟨rfl, ⟨nd, rfl⟩⟩
      refine ⟨_, rfl, ?_⟩
      refine hK.out _ _ ⟨bc BK101 0, bc BK101 1, bc BK101 2, bc BK101 3, bc BK101 4, bc BK101 5⟩ (fun hHeld => ?_)
      clear hK K
      refine nm 5 ?_
      refine pu 3 6 spec_DateOk.d4 HT_ ?_
      refine pu 4 7 spec_DateOk.d5 HT_ ?_
      refine tk 5 8 spec_DateOk.d6 HT_ HW_ hHeld ?_
      refine onx 6 9 spec_DateOk.d7 HT_ (fun K hK => ?_)
      refine gs Tryd.func47 #[.int .i64 a0_1, .int .i64 1, .int .i64 12] ?_
      with_reducible refine (spec_l1In.calls a0_1 1 12 true _ A4.out).mono ?_
      rintro e w' ⟨rfl, ⟨nd, rfl⟩⟩
      refine ⟨_, rfl, ?_⟩
      refine hK.out _ _ ⟨bc BK101 0, bc BK101 1, bc BK101 2, bc BK101 3, bc BK101 4, bc BK101 5⟩ (fun hHeld => ?_)
      clear hK K
      refine nm 9 ?_
      refine pu 7 10 spec_DateOk.d8 HT_ ?_
      refine pu 8 11 spec_DateOk.d9 HT_ ?_
      refine pu 9 12 spec_DateOk.d10 HT_ ?_
      refine pu 11 14 spec_DateOk.d11 HT_ ?_
      refine pu 13 16 spec_DateOk.d12 HT_ ?_
      refine tk 10 13 spec_DateOk.d13 HT_ HW_ hHeld ?_
      refine tk 12 15 spec_DateOk.d14 HT_ HW_ hHeld ?_
      refine tk 14 17 spec_DateOk.d15 HT_ HW_ hHeld ?_
      refine onx 15 18 spec_DateOk.d16 HT_ (fun K hK => ?_)
      refine gs Tryd.func48 #[.int .i64 a0_0, .int .i64 a0_1] ?_
      with_reducible refine (spec_l2Month.calls a0_0 a0_1 t104 _ A6.out).mono ?_
      rintro e w19 ⟨rfl, hb⟩
      refine ⟨_, rfl, ?_⟩
      replace BK101 := bkb_ BK101 hb
      replace HB := Aside0.mk (below_step bh hb)
      (try clear hb)
      (try clear hb2)
      (try clear hk)
      (try clear hi)
      refine hK.out _ _ ⟨bc BK101 0, bc BK101 1, bc BK101 2, bc BK101 3, bc BK101 4, bc BK101 5⟩ (fun hHeld => ?_)
      clear hK K
      refine nm 18 ?_
      refine onx 16 19 spec_DateOk.d17 HT_ (fun K hK => ?_)
      refine gs Tryd.func47 #[.int .i64 a0_2, .int .i64 1, .int .i64 t104] ?_
      with_reducible refine (spec_l1In.calls a0_2 1 t104 true _ A7.out).mono ?_
      rintro e w' ⟨rfl, ⟨nd, rfl⟩⟩
      refine ⟨_, rfl, ?_⟩
      refine hK.out _ _ ⟨bc BK101 0, bc BK101 1, bc BK101 2, bc BK101 3, bc BK101 4, bc BK101 5⟩ (fun hHeld => ?_)
      clear hK K
      refine nm 19 ?_
      refine pu 17 20 spec_DateOk.d18 HT_ ?_
      refine pu 18 21 spec_DateOk.d19 HT_ ?_
      refine pu 19 22 spec_DateOk.d20 HT_ ?_
      refine tk 20 23 spec_DateOk.d21 HT_ HW_ hHeld ?_
      refine onx 21 24 spec_DateOk.d22 HT_ (fun K hK => ?_)
      refine gs Tryd.func47 #[.int .i64 a0_3, .int .i64 0, .int .i64 23] ?_
      with_reducible refine (spec_l1In.calls a0_3 0 23 true _ A9.out).mono ?_
      rintro e w' ⟨rfl, ⟨nd, rfl⟩⟩
      refine ⟨_, rfl, ?_⟩
      refine hK.out _ _ ⟨bc BK101 0, bc BK101 1, bc BK101 2, bc BK101 3, bc BK101 4, bc BK101 5⟩ (fun hHeld => ?_)
      clear hK K
      refine nm 24 ?_
      refine pu 22 25 spec_DateOk.d23 HT_ ?_
      refine pu 23 26 spec_DateOk.d24 HT_ ?_
      refine pu 24 27 spec_DateOk.d25 HT_ ?_
      refine tk 25 28 spec_DateOk.d26 HT_ HW_ hHeld ?_
      refine onx 26 29 spec_DateOk.d27 HT_ (fun K hK => ?_)
      refine gs Tryd.func47 #[.int .i64 a0_4, .int .i64 0, .int .i64 59] ?_
      with_reducible refine (spec_l1In.calls a0_4 0 59 false _ A11.out).mono ?_
      rintro e w' ⟨rfl, ⟨nd, rfl⟩⟩
      refine ⟨_, rfl, ?_⟩
      refine hK.out _ _ ⟨bc BK101 0, bc BK101 1, bc BK101 2, bc BK101 3, bc BK101 4, bc BK101 5⟩ (fun hHeld => ?_)
      clear hK K
      refine nm 29 ?_
      refine pu 27 30 spec_DateOk.d28 HT_ ?_
      refine pu 28 31 spec_DateOk.d29 HT_ ?_
      refine un 29 32 spec_DateOk.d30 HT_ ?_
      refine un 30 33 spec_DateOk.d31 HT_ ?_
      refine un 31 34 spec_DateOk.d32 HT_ ?_
      refine pu 32 35 spec_DateOk.d33 HT_ ?_
      refine pu 33 2 spec_DateOk.d34 HT_ ?_
      refine dn HT_ ?_
      try go_wp2
      go_ret
      exact ⟨er, bh⟩
    ·
     replace c10 := Bool.eq_false_iff.mpr c10
     subst c10
     have H1 : (some false) = some r := by rw [if_neg (show ¬ (false = true) by decide)] at H; exact H
     clear H
     have H := H1
     clear H1
     obtain rfl := Option.some.inj H
     go_enter Tryd.func19, Tryd.ntmps19
     try go_wp2_with (first | ((with_reducible refine gate_dst (N := 1) rfl ?_); refine bx 1 #[.int .i64 a0_0, .int .i64 a0_1, .int .i64 a0_2, .int .i64 a0_3, .int .i64 a0_4, .int .i64 a0_5] 34 ?_; intro gb101 hg w20 hbox hb; have BK101 := Aside0.mk (hbox); have GW101 := Aside0.mk (bz hg); have GE101 := Aside0.mk (bz hg); replace HB := Aside0.mk (below_step bh hb); clear hb hbox hg))
     replace BK101 := Aside0.mk (blk_drew BK101.out)
     replace HB := Aside0.mk (below_drew1 HB.out)
     refine start_ (n := 34) (S := fun w' => w'.cell? ⟨gb101, 0, none⟩ = some (.int .i64 a0_0) ∧ w'.cell? ⟨gb101, 1, none⟩ = some (.int .i64 a0_1) ∧ w'.cell? ⟨gb101, 2, none⟩ = some (.int .i64 a0_2) ∧ w'.cell? ⟨gb101, 3, none⟩ = some (.int .i64 a0_3) ∧ w'.cell? ⟨gb101, 4, none⟩ = some (.int .i64 a0_4) ∧ w'.cell? ⟨gb101, 5, none⟩ = some (.int .i64 a0_5)) (ds := []) spec_DateOk.d0 (by kernel_rfl) rfl rfl ⟨bc BK101 0, bc BK101 1, bc BK101 2, bc BK101 3, bc BK101 4, bc BK101 5⟩ (fun hHeld => ?_); refine with_tabW spec_DateOk.tab1 spec_DateOk.bits1 (fun HT_ HW_ => ?_)
     generalize w20.drew = w21 at BK101 HB hHeld ⊢
     refine pu 0 3 spec_DateOk.d1 HT_ ?_
     refine tk 1 4 spec_DateOk.d2 HT_ HW_ hHeld ?_
     refine onx 2 5 spec_DateOk.d3 HT_ (fun K hK => ?_)
     refine gs Tryd.func47 #[.int .i64 a0_0, .int .i64 1970, .int .i64 9999] ?_
     with_reducible refine (spec_l1In.calls a0_0 1970 9999 true _ A2.out).mono ?_
     rintro e w' ⟨rfl, ⟨nd, rfl⟩⟩
     refine ⟨_, rfl, ?_⟩
     refine hK.out _ _ ⟨bc BK101 0, bc BK101 1, bc BK101 2, bc BK101 3, bc BK101 4, bc BK101 5⟩ (fun hHeld => ?_)
     clear hK K
     refine nm 5 ?_
     refine pu 3 6 spec_DateOk.d4 HT_ ?_
     refine pu 4 7 spec_DateOk.d5 HT_ ?_
     refine tk 5 8 spec_DateOk.d6 HT_ HW_ hHeld ?_
     refine onx 6 9 spec_DateOk.d7 HT_ (fun K hK => ?_)
     refine gs Tryd.func47 #[.int .i64 a0_1, .int .i64 1, .int .i64 12] ?_
     with_reducible refine (spec_l1In.calls a0_1 1 12 true _ A4.out).mono ?_
     rintro e w' ⟨rfl, ⟨nd, rfl⟩⟩
     refine ⟨_, rfl, ?_⟩
     refine hK.out _ _ ⟨bc BK101 0, bc BK101 1, bc BK101 2, bc BK101 3, bc BK101 4, bc BK101 5⟩ (fun hHeld => ?_)
     clear hK K
     refine nm 9 ?_
     refine pu 7 10 spec_DateOk.d8 HT_ ?_
     refine pu 8 11 spec_DateOk.d9 HT_ ?_
     refine pu 9 12 spec_DateOk.d10 HT_ ?_
     refine pu 11 14 spec_DateOk.d11 HT_ ?_
     refine pu 13 16 spec_DateOk.d12 HT_ ?_
     refine tk 10 13 spec_DateOk.d13 HT_ HW_ hHeld ?_
     refine tk 12 15 spec_DateOk.d14 HT_ HW_ hHeld ?_
     refine tk 14 17 spec_DateOk.d15 HT_ HW_ hHeld ?_
     refine onx 15 18 spec_DateOk.d16 HT_ (fun K hK => ?_)
     refine gs Tryd.func48 #[.int .i64 a0_0, .int .i64 a0_1] ?_
     with_reducible refine (spec_l2Month.calls a0_0 a0_1 t104 _ A6.out).mono ?_
     rintro e w22 ⟨rfl, hb⟩
     refine ⟨_, rfl, ?_⟩
     replace BK101 := bkb_ BK101 hb
     replace HB := Aside0.mk (below_step bh hb)
     (try clear hb)
     (try clear hb2)
     (try clear hk)
     (try clear hi)
     refine hK.out _ _ ⟨bc BK101 0, bc BK101 1, bc BK101 2, bc BK101 3, bc BK101 4, bc BK101 5⟩ (fun hHeld => ?_)
     clear hK K
     refine nm 18 ?_
     refine onx 16 19 spec_DateOk.d17 HT_ (fun K hK => ?_)
     refine gs Tryd.func47 #[.int .i64 a0_2, .int .i64 1, .int .i64 t104] ?_
     with_reducible refine (spec_l1In.calls a0_2 1 t104 true _ A7.out).mono ?_
     rintro e w' ⟨rfl, ⟨nd, rfl⟩⟩
     refine ⟨_, rfl, ?_⟩
     refine hK.out _ _ ⟨bc BK101 0, bc BK101 1, bc BK101 2, bc BK101 3, bc BK101 4, bc BK101 5⟩ (fun hHeld => ?_)
     clear hK K
     refine nm 19 ?_
     refine pu 17 20 spec_DateOk.d18 HT_ ?_
     refine pu 18 21 spec_DateOk.d19 HT_ ?_
     refine pu 19 22 spec_DateOk.d20 HT_ ?_
     refine tk 20 23 spec_DateOk.d21 HT_ HW_ hHeld ?_
     refine onx 21 24 spec_DateOk.d22 HT_ (fun K hK => ?_)
     refine gs Tryd.func47 #[.int .i64 a0_3, .int .i64 0, .int .i64 23] ?_
     with_reducible refine (spec_l1In.calls a0_3 0 23 false _ A9.out).mono ?_
     rintro e w' ⟨rfl, ⟨nd, rfl⟩⟩
     refine ⟨_, rfl, ?_⟩
     refine hK.out _ _ ⟨bc BK101 0, bc BK101 1, bc BK101 2, bc BK101 3, bc BK101 4, bc BK101 5⟩ (fun hHeld => ?_)
     clear hK K
     refine nm 24 ?_
     refine pu 22 25 spec_DateOk.d23 HT_ ?_
     refine pu 23 26 spec_DateOk.d24 HT_ ?_
     refine un 24 27 spec_DateOk.d25 HT_ ?_
     refine un 25 28 spec_DateOk.d26 HT_ ?_
     refine un 26 29 spec_DateOk.d27 HT_ ?_
     refine pu 27 30 spec_DateOk.d28 HT_ ?_
     refine pu 28 31 spec_DateOk.d29 HT_ ?_
     refine un 29 32 spec_DateOk.d30 HT_ ?_
     refine un 30 33 spec_DateOk.d31 HT_ ?_
     refine un 31 34 spec_DateOk.d32 HT_ ?_
     refine pu 32 35 spec_DateOk.d33 HT_ ?_
     refine pu 33 2 spec_DateOk.d34 HT_ ?_
     refine dn HT_ ?_
     try go_wp2
     go_ret
     exact ⟨er, bh⟩
   ·
    replace c8 := Bool.eq_false_iff.mpr c8
    subst c8
    have H1 : (some false) = some r := by rw [if_neg (show ¬ (false = true) by decide)] at H; exact H
    clear H
    have H := H1
    clear H1
    obtain rfl := Option.some.inj H
    go_enter Tryd.func19, Tryd.ntmps19
    try go_wp2_with (first | ((with_reducible refine gate_dst (N := 1) rfl ?_); refine bx 1 #[.int .i64 a0_0, .int .i64 a0_1, .int .i64 a0_2, .int .i64 a0_3, .int .i64 a0_4, .int .i64 a0_5] 34 ?_; intro gb101 hg w23 hbox hb; have BK101 := Aside0.mk (hbox); have GW101 := Aside0.mk (bz hg); have GE101 := Aside0.mk (bz hg); replace HB := Aside0.mk (below_step bh hb); clear hb hbox hg))
    replace BK101 := Aside0.mk (blk_drew BK101.out)
    replace HB := Aside0.mk (below_drew1 HB.out)
    refine start_ (n := 34) (S := fun w' => w'.cell? ⟨gb101, 0, none⟩ = some (.int .i64 a0_0) ∧ w'.cell? ⟨gb101, 1, none⟩ = some (.int .i64 a0_1) ∧ w'.cell? ⟨gb101, 2, none⟩ = some (.int .i64 a0_2) ∧ w'.cell? ⟨gb101, 3, none⟩ = some (.int .i64 a0_3) ∧ w'.cell? ⟨gb101, 4, none⟩ = some (.int .i64 a0_4) ∧ w'.cell? ⟨gb101, 5, none⟩ = some (.int .i64 a0_5)) (ds := []) spec_DateOk.d0 (by kernel_rfl) rfl rfl ⟨bc BK101 0, bc BK101 1, bc BK101 2, bc BK101 3, bc BK101 4, bc BK101 5⟩ (fun hHeld => ?_); refine with_tabW spec_DateOk.tab1 spec_DateOk.bits1 (fun HT_ HW_ => ?_)
    generalize w23.drew = w24 at BK101 HB hHeld ⊢
    refine pu 0 3 spec_DateOk.d1 HT_ ?_
    refine tk 1 4 spec_DateOk.d2 HT_ HW_ hHeld ?_
    refine onx 2 5 spec_DateOk.d3 HT_ (fun K hK => ?_)
    refine gs Tryd.func47 #[.int .i64 a0_0, .int .i64 1970, .int .i64 9999] ?_
    with_reducible refine (spec_l1In.calls a0_0 1970 9999 true _ A2.out).mono ?_
    rintro e w' ⟨rfl, ⟨nd, rfl⟩⟩
    refine ⟨_, rfl, ?_⟩
    refine hK.out _ _ ⟨bc BK101 0, bc BK101 1, bc BK101 2, bc BK101 3, bc BK101 4, bc BK101 5⟩ (fun hHeld => ?_)
    clear hK K
    refine nm 5 ?_
    refine pu 3 6 spec_DateOk.d4 HT_ ?_
    refine pu 4 7 spec_DateOk.d5 HT_ ?_
    refine tk 5 8 spec_DateOk.d6 HT_ HW_ hHeld ?_
    refine onx 6 9 spec_DateOk.d7 HT_ (fun K hK => ?_)
    refine gs Tryd.func47 #[.int .i64 a0_1, .int .i64 1, .int .i64 12] ?_
    with_reducible refine (spec_l1In.calls a0_1 1 12 true _ A4.out).mono ?_
    rintro e w' ⟨rfl, ⟨nd, rfl⟩⟩
    refine ⟨_, rfl, ?_⟩
    refine hK.out _ _ ⟨bc BK101 0, bc BK101 1, bc BK101 2, bc BK101 3, bc BK101 4, bc BK101 5⟩ (fun hHeld => ?_)
    clear hK K
    refine nm 9 ?_
    refine pu 7 10 spec_DateOk.d8 HT_ ?_
    refine pu 8 11 spec_DateOk.d9 HT_ ?_
    refine pu 9 12 spec_DateOk.d10 HT_ ?_
    refine pu 11 14 spec_DateOk.d11 HT_ ?_
    refine pu 13 16 spec_DateOk.d12 HT_ ?_
    refine tk 10 13 spec_DateOk.d13 HT_ HW_ hHeld ?_
    refine tk 12 15 spec_DateOk.d14 HT_ HW_ hHeld ?_
    refine tk 14 17 spec_DateOk.d15 HT_ HW_ hHeld ?_
    refine onx 15 18 spec_DateOk.d16 HT_ (fun K hK => ?_)
    refine gs Tryd.func48 #[.int .i64 a0_0, .int .i64 a0_1] ?_
    with_reducible refine (spec_l2Month.calls a0_0 a0_1 t104 _ A6.out).mono ?_
    rintro e w25 ⟨rfl, hb⟩
    refine ⟨_, rfl, ?_⟩
    replace BK101 := bkb_ BK101 hb
    replace HB := Aside0.mk (below_step bh hb)
    (try clear hb)
    (try clear hb2)
    (try clear hk)
    (try clear hi)
    refine hK.out _ _ ⟨bc BK101 0, bc BK101 1, bc BK101 2, bc BK101 3, bc BK101 4, bc BK101 5⟩ (fun hHeld => ?_)
    clear hK K
    refine nm 18 ?_
    refine onx 16 19 spec_DateOk.d17 HT_ (fun K hK => ?_)
    refine gs Tryd.func47 #[.int .i64 a0_2, .int .i64 1, .int .i64 t104] ?_
    with_reducible refine (spec_l1In.calls a0_2 1 t104 false _ A7.out).mono ?_
    rintro e w' ⟨rfl, ⟨nd, rfl⟩⟩
    refine ⟨_, rfl, ?_⟩
    refine hK.out _ _ ⟨bc BK101 0, bc BK101 1, bc BK101 2, bc BK101 3, bc BK101 4, bc BK101 5⟩ (fun hHeld => ?_)
    clear hK K
    refine nm 19 ?_
    refine pu 17 20 spec_DateOk.d18 HT_ ?_
    refine pu 18 21 spec_DateOk.d19 HT_ ?_
    refine un 19 22 spec_DateOk.d20 HT_ ?_
    refine un 20 23 spec_DateOk.d21 HT_ ?_
    refine un 21 24 spec_DateOk.d22 HT_ ?_
    refine pu 22 25 spec_DateOk.d23 HT_ ?_
    refine pu 23 26 spec_DateOk.d24 HT_ ?_
    refine un 24 27 spec_DateOk.d25 HT_ ?_
    refine un 25 28 spec_DateOk.d26 HT_ ?_
    refine un 26 29 spec_DateOk.d27 HT_ ?_
    refine pu 27 30 spec_DateOk.d28 HT_ ?_
    refine pu 28 31 spec_DateOk.d29 HT_ ?_
    refine un 29 32 spec_DateOk.d30 HT_ ?_
    refine un 30 33 spec_DateOk.d31 HT_ ?_
    refine un 31 34 spec_DateOk.d32 HT_ ?_
    refine pu 32 35 spec_DateOk.d33 HT_ ?_
    refine pu 33 2 spec_DateOk.d34 HT_ ?_
    refine dn HT_ ?_
    try go_wp2
    go_ret
    exact ⟨er, bh⟩
  ·
   replace c5 := Bool.eq_false_iff.mpr c5
   subst c5
   have H1 : (some false) = some r := by rw [if_neg (show ¬ (false = true) by decide)] at H; exact H
   clear H
   have H := H1
   clear H1
   obtain rfl := Option.some.inj H
   go_enter Tryd.func19, Tryd.ntmps19
   try go_wp2_with (first | ((with_reducible refine gate_dst (N := 1) rfl ?_); refine bx 1 #[.int .i64 a0_0, .int .i64 a0_1, .int .i64 a0_2, .int .i64 a0_3, .int .i64 a0_4, .int .i64 a0_5] 34 ?_; intro gb101 hg w26 hbox hb; have BK101 := Aside0.mk (hbox); have GW101 := Aside0.mk (bz hg); have GE101 := Aside0.mk (bz hg); replace HB := Aside0.mk (below_step bh hb); clear hb hbox hg))
   replace BK101 := Aside0.mk (blk_drew BK101.out)
   replace HB := Aside0.mk (below_drew1 HB.out)
   refine start_ (n := 34) (S := fun w' => w'.cell? ⟨gb101, 0, none⟩ = some (.int .i64 a0_0) ∧ w'.cell? ⟨gb101, 1, none⟩ = some (.int .i64 a0_1) ∧ w'.cell? ⟨gb101, 2, none⟩ = some (.int .i64 a0_2) ∧ w'.cell? ⟨gb101, 3, none⟩ = some (.int .i64 a0_3) ∧ w'.cell? ⟨gb101, 4, none⟩ = some (.int .i64 a0_4) ∧ w'.cell? ⟨gb101, 5, none⟩ = some (.int .i64 a0_5)) (ds := []) spec_DateOk.d0 (by kernel_rfl) rfl rfl ⟨bc BK101 0, bc BK101 1, bc BK101 2, bc BK101 3, bc BK101 4, bc BK101 5⟩ (fun hHeld => ?_); refine with_tabW spec_DateOk.tab1 spec_DateOk.bits1 (fun HT_ HW_ => ?_)
   generalize w26.drew = w27 at BK101 HB hHeld ⊢
   refine pu 0 3 spec_DateOk.d1 HT_ ?_
   refine tk 1 4 spec_DateOk.d2 HT_ HW_ hHeld ?_
   refine onx 2 5 spec_DateOk.d3 HT_ (fun K hK => ?_)
   refine gs Tryd.func47 #[.int .i64 a0_0, .int .i64 1970, .int .i64 9999] ?_
   with_reducible refine (spec_l1In.calls a0_0 1970 9999 true _ A2.out).mono ?_
   rintro e w' ⟨rfl, ⟨nd, rfl⟩⟩
   refine ⟨_, rfl, ?_⟩
   refine hK.out _ _ ⟨bc BK101 0, bc BK101 1, bc BK101 2, bc BK101 3, bc BK101 4, bc BK101 5⟩ (fun hHeld => ?_)
   clear hK K
   refine nm 5 ?_
   refine pu 3 6 spec_DateOk.d4 HT_ ?_
   refine pu 4 7 spec_DateOk.d5 HT_ ?_
   refine tk 5 8 spec_DateOk.d6 HT_ HW_ hHeld ?_
   refine onx 6 9 spec_DateOk.d7 HT_ (fun K hK => ?_)
   refine gs Tryd.func47 #[.int .i64 a0_1, .int .i64 1, .int .i64 12] ?_
   with_reducible refine (spec_l1In.calls a0_1 1 12 false _ A4.out).mono ?_
   rintro e w' ⟨rfl, ⟨nd, rfl⟩⟩
   refine ⟨_, rfl, ?_⟩
   refine hK.out _ _ ⟨bc BK101 0, bc BK101 1, bc BK101 2, bc BK101 3, bc BK101 4, bc BK101 5⟩ (fun hHeld => ?_)
   clear hK K
   refine nm 9 ?_
   refine pu 7 10 spec_DateOk.d8 HT_ ?_
   refine pu 8 11 spec_DateOk.d9 HT_ ?_
   refine un 9 12 spec_DateOk.d10 HT_ ?_
   refine un 10 13 spec_DateOk.d35 HT_ ?_
   refine un 11 14 spec_DateOk.d36 HT_ ?_
   refine un 12 15 spec_DateOk.d37 HT_ ?_
   refine un 13 16 spec_DateOk.d14 HT_ ?_
   refine un 14 17 spec_DateOk.d15 HT_ ?_
   refine un 15 18 spec_DateOk.d16 HT_ ?_
   refine un 16 19 spec_DateOk.d17 HT_ ?_
   refine pu 17 20 spec_DateOk.d18 HT_ ?_
   refine pu 18 21 spec_DateOk.d19 HT_ ?_
   refine un 19 22 spec_DateOk.d20 HT_ ?_
   refine un 20 23 spec_DateOk.d21 HT_ ?_
   refine un 21 24 spec_DateOk.d22 HT_ ?_
   refine pu 22 25 spec_DateOk.d23 HT_ ?_
   refine pu 23 26 spec_DateOk.d24 HT_ ?_
   refine un 24 27 spec_DateOk.d25 HT_ ?_
   refine un 25 28 spec_DateOk.d26 HT_ ?_
   refine un 26 29 spec_DateOk.d27 HT_ ?_
   refine pu 27 30 spec_DateOk.d28 HT_ ?_
   refine pu 28 31 spec_DateOk.d29 HT_ ?_
   refine un 29 32 spec_DateOk.d30 HT_ ?_
   refine un 30 33 spec_DateOk.d31 HT_ ?_
   refine un 31 34 spec_DateOk.d32 HT_ ?_
   refine pu 32 35 spec_DateOk.d33 HT_ ?_
   refine pu 33 2 spec_DateOk.d34 HT_ ?_
   refine dn HT_ ?_
   try go_wp2
   go_ret
   exact ⟨er, bh⟩
 ·
  replace c3 := Bool.eq_false_iff.mpr c3
  subst c3
  have H1 : (some false) = some r := by rw [if_neg (show ¬ (false = true) by decide)] at H; exact H
  clear H
  have H := H1
  clear H1
  obtain rfl := Option.some.inj H
  go_enter Tryd.func19, Tryd.ntmps19
  try go_wp2_with (first | ((with_reducible refine gate_dst (N := 1) rfl ?_); refine bx 1 #[.int .i64 a0_0, .int .i64 a0_1, .int .i64 a0_2, .int .i64 a0_3, .int .i64 a0_4, .int .i64 a0_5] 34 ?_; intro gb101 hg w28 hbox hb; have BK101 := Aside0.mk (hbox); have GW101 := Aside0.mk (bz hg); have GE101 := Aside0.mk (bz hg); replace HB := Aside0.mk (below_step bh hb); clear hb hbox hg))
  replace BK101 := Aside0.mk (blk_drew BK101.out)
  replace HB := Aside0.mk (below_drew1 HB.out)
  refine start_ (n := 34) (S := fun w' => w'.cell? ⟨gb101, 0, none⟩ = some (.int .i64 a0_0) ∧ w'.cell? ⟨gb101, 1, none⟩ = some (.int .i64 a0_1) ∧ w'.cell? ⟨gb101, 2, none⟩ = some (.int .i64 a0_2) ∧ w'.cell? ⟨gb101, 3, none⟩ = some (.int .i64 a0_3) ∧ w'.cell? ⟨gb101, 4, none⟩ = some (.int .i64 a0_4) ∧ w'.cell? ⟨gb101, 5, none⟩ = some (.int .i64 a0_5)) (ds := []) spec_DateOk.d0 (by kernel_rfl) rfl rfl ⟨bc BK101 0, bc BK101 1, bc BK101 2, bc BK101 3, bc BK101 4, bc BK101 5⟩ (fun hHeld => ?_); refine with_tabW spec_DateOk.tab1 spec_DateOk.bits1 (fun HT_ HW_ => ?_)
  generalize w28.drew = w29 at BK101 HB hHeld ⊢
  refine pu 0 3 spec_DateOk.d1 HT_ ?_
  refine tk 1 4 spec_DateOk.d2 HT_ HW_ hHeld ?_
  refine onx 2 5 spec_DateOk.d3 HT_ (fun K hK => ?_)
  refine gs Tryd.func47 #[.int .i64 a0_0, .int .i64 1970, .int .i64 9999] ?_
  with_reducible refine (spec_l1In.calls a0_0 1970 9999 false _ A2.out).mono ?_
  rintro e w' ⟨rfl, ⟨nd, rfl⟩⟩
  refine ⟨_, rfl, ?_⟩
  refine hK.out _ _ ⟨bc BK101 0, bc BK101 1, bc BK101 2, bc BK101 3, bc BK101 4, bc BK101 5⟩ (fun hHeld => ?_)
  clear hK K
  refine nm 5 ?_
  refine pu 3 6 spec_DateOk.d4 HT_ ?_
  refine un 4 7 spec_DateOk.d5 HT_ ?_
  refine un 5 8 spec_DateOk.d6 HT_ ?_
  refine un 6 9 spec_DateOk.d7 HT_ ?_
  refine pu 7 10 spec_DateOk.d8 HT_ ?_
  refine pu 8 11 spec_DateOk.d9 HT_ ?_
  refine un 9 12 spec_DateOk.d10 HT_ ?_
  refine un 10 13 spec_DateOk.d35 HT_ ?_
  refine un 11 14 spec_DateOk.d36 HT_ ?_
  refine un 12 15 spec_DateOk.d37 HT_ ?_
  refine un 13 16 spec_DateOk.d14 HT_ ?_
  refine un 14 17 spec_DateOk.d15 HT_ ?_
  refine un 15 18 spec_DateOk.d16 HT_ ?_
  refine un 16 19 spec_DateOk.d17 HT_ ?_
  refine pu 17 20 spec_DateOk.d18 HT_ ?_
  refine pu 18 21 spec_DateOk.d19 HT_ ?_
  refine un 19 22 spec_DateOk.d20 HT_ ?_
  refine un 20 23 spec_DateOk.d21 HT_ ?_
  refine un 21 24 spec_DateOk.d22 HT_ ?_
  refine pu 22 25 spec_DateOk.d23 HT_ ?_
  refine pu 23 26 spec_DateOk.d24 HT_ ?_
  refine un 24 27 spec_DateOk.d25 HT_ ?_
  refine un 25 28 spec_DateOk.d26 HT_ ?_
  refine un 26 29 spec_DateOk.d27 HT_ ?_
  refine pu 27 30 spec_DateOk.d28 HT_ ?_
  refine pu 28 31 spec_DateOk.d29 HT_ ?_
  refine un 29 32 spec_DateOk.d30 HT_ ?_
  refine un 30 33 spec_DateOk.d31 HT_ ?_
  refine un 31 34 spec_DateOk.d32 HT_ ?_
  refine pu 32 35 spec_DateOk.d33 HT_ ?_
  refine pu 33 2 spec_DateOk.d34 HT_ ?_
  refine dn HT_ ?_
  try go_wp2
  go_ret
  exact ⟨er, bh⟩

end Go.Proofs.YtkaknffeoeoajaaDoor.P
