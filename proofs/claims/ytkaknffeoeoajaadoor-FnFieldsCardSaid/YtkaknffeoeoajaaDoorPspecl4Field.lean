/- Functions of the Go program as Lean functions, and proofs that each Go function comes to its Lean function's answers; conditions: those that each theorem states. Written by this session's program hprint.py, which drives the kit's printer. -/
import Derived.Test.YtkaknffeoeoajaaDoorP0
import Derived.Test.YtkaknffeoeoajaaDoorPspecTokenOk
import Derived.Test.YtkaknffeoeoajaaDoorPspecTrimmed
import Derived.Test.YtkaknffeoeoajaaDoorPspecVisibleOk
import Derived.Test.YtkaknffeoeoajaaDoorXA
namespace Go.Proofs.YtkaknffeoeoajaaDoor.P
open Go.RowKit Go.Proofs.YtkaknffeoeoajaaDoorW.PrintWords Go.Proofs.YtkaknffeoeoajaaDoorW.PrintLast Go.Proofs.YtkaknffeoeoajaaDoorW.PrintMore
attribute [local go_sem] max2_int min2_int max_two min_two max_three min_three max_four min_four   -- for this text's walks alone
set_option linter.unusedVariables false
set_option linter.unusedSimpArgs false

/-! ### spec_l4Field: function 30 -/
abbrev spec_l4Field.d0 : Array Bool := #[false, false, false, false, false, false, false, false, false, false, false, false, false, false, false, false, false]
abbrev spec_l4Field.d1 : Array Bool := #[true, false, false, false, false, false, false, false, false, false, false, false, false, false, false, false, false]
abbrev spec_l4Field.d2 : Array Bool := #[true, true, false, false, false, false, false, false, false, false, false, false, false, false, false, false, false]
abbrev spec_l4Field.d3 : Array Bool := #[true, true, true, false, false, false, false, false, false, false, false, false, false, false, false, false, false]
abbrev spec_l4Field.d4 : Array Bool := #[true, true, true, true, false, false, false, false, false, false, false, false, false, false, false, false, false]
abbrev spec_l4Field.d5 : Array Bool := #[true, true, true, true, true, false, false, false, false, false, false, false, false, false, false, false, false]
abbrev spec_l4Field.d6 : Array Bool := #[true, true, true, true, true, true, false, false, false, false, false, false, false, false, false, false, false]
abbrev spec_l4Field.d7 : Array Bool := #[true, true, true, true, true, true, true, false, false, false, false, false, false, false, false, false, false]
abbrev spec_l4Field.d8 : Array Bool := #[true, true, true, true, true, true, true, true, false, false, false, false, false, false, false, false, false]
abbrev spec_l4Field.d9 : Array Bool := #[true, true, true, true, true, true, true, true, true, false, false, false, false, false, false, false, false]
abbrev spec_l4Field.d10 : Array Bool := #[true, true, true, true, true, true, true, true, true, true, false, false, false, false, false, false, false]
abbrev spec_l4Field.d11 : Array Bool := #[true, true, true, true, true, true, true, true, true, true, true, true, true, true, false, false, false]
abbrev spec_l4Field.d12 : Array Bool := #[true, true, true, true, true, true, true, true, true, true, true, true, true, true, true, false, false]
abbrev spec_l4Field.d13 : Array Bool := #[true, true, true, true, true, true, true, true, true, true, true, true, true, true, true, true, false]
abbrev spec_l4Field.d14 : Array Bool := #[true, true, true, true, true, true, true, true, true, true, true, true, true, true, true, true, true]
abbrev spec_l4Field.d15 : Array Bool := #[true, true, true, true, true, true, true, true, true, true, true, false, false, false, false, false, false]
abbrev spec_l4Field.d16 : Array Bool := #[true, true, true, true, true, true, true, true, true, true, true, true, false, false, false, false, false]
abbrev spec_l4Field.d17 : Array Bool := #[true, true, true, true, true, true, true, true, true, true, true, true, true, false, false, false, false]
def spec_l4Field.f (k : Nat) (a0_0 : ByteArray) (a0_1 : ByteArray) : Option (Bool) := (spec_TokenOk.f k a0_0).bind fun t102 => (if t102 = true then ((spec_VisibleOk.f k a0_1).bind fun t103 => (if t103 = true then ((spec_Trimmed.f k a0_1).bind fun t104 => (some (t104.toList == a0_1.toList))) else (some false))) else (some false))
theorem spec_l4Field.mono : ∀ a0 a1 k, LeO (spec_l4Field.f k a0 a1) (spec_l4Field.f (k + 1) a0 a1) := by
 intro a0 a1 k
 unfold spec_l4Field.f
 repeat' first
   | (with_reducible exact spec_TokenOk.mono _ _)
   | (with_reducible exact spec_Trimmed.mono _ _)
   | (with_reducible exact spec_VisibleOk.mono _ _)
   | (with_reducible exact LeO.refl _)
   | (with_reducible exact LeO.none _)
   | (with_reducible refine LeO.ite ?_ ?_)
   | (with_reducible refine LeO.bind ?_ (fun _ => ?_))
   | exact spec_TokenOk.mono _ _
   | exact spec_Trimmed.mono _ _
   | exact spec_VisibleOk.mono _ _
   | exact LeO.none _
   | refine LeO.ite ?_ ?_
   | refine LeO.bind ?_ (fun _ => ?_)
def spec_l4Field.T1 : Bool × List (List Nat × List Nat) := (true, [([], []), ([0], [0]), ([1], [1]), ([2, 2], [2]), ([3], [3]), ([4, 3], [3, 4]), ([5, 3, 3], [3, 5]), ([3, 6], [3, 6]), ([7, 6], [7]), ([8], [8]), ([9, 8], [8, 9]), ([10, 8, 8], [8, 10]), ([8], [8]), ([12, 8], [8, 12]), ([11, 13, 8], [8, 11, 13]), ([8, 14], [8, 14]), ([15, 11, 0, 1, 2, 3, 4, 5, 6, 7, 8, 9, 10, 11, 12, 13, 14, 15], [15])])
def spec_l4Field.B1 : List Nat := [0, 1, 3, 7, 15, 31, 63, 127, 255, 511, 1023, 2047, 511, 4607, 16383, 32767, 65535]
theorem spec_l4Field.tab1 : rtab .any (opsOf Tryd.f30 1) = spec_l4Field.T1 := by kernel_rfl
theorem spec_l4Field.bits1 : waitsOk spec_l4Field.T1.2 spec_l4Field.B1 = true := by kernel_rfl
set_option maxHeartbeats 8000000 in
set_option maxRecDepth 100000 in
theorem spec_l4Field.calls (k : Nat) (a0_0 : ByteArray) (a0_1 : ByteArray) (r : Bool) (w : World) (h : spec_l4Field.f k a0_0 a0_1 = some r) :
  Calls Tryd.prog 30 #[.agg #[.string a0_0, .string a0_1]] w fun e w' => e = .returned (.bool r) ∧ Below w.heap.size w w' := by
 have hu43 := Tryd.underlying43
 have HB := Aside0.mk (Below.refl w.heap.size w)
 have H := h
 unfold spec_l4Field.f at H
 clear h
 obtain ⟨t102, A20, H⟩ := Option.bind_eq_some_iff.mp H
 try dsimp only at H
 have A2 := Aside0.mk A20
 clear A20
 by_cases c3 : t102 = true
 ·
  subst c3
  rw [if_pos rfl] at H
  obtain ⟨t103, A40, H⟩ := Option.bind_eq_some_iff.mp H
  try dsimp only at H
  have A4 := Aside0.mk A40
  clear A40
  by_cases c5 : t103 = true
  ·
   subst c5
   rw [if_pos rfl] at H
   replace H := Option.bind_eq_some_iff.mp H
   obtain ⟨t104, A60, H⟩ := H
   replace H : (some (t104.toList == a0_1.toList)) = some r := H
   have A6 := Aside0.mk A60
   clear A60
   obtain rfl := Option.some.inj H
   go_enter Tryd.func30, Tryd.ntmps30
   try go_wp2_with (first | ((with_reducible refine gate_dst (N := 1) rfl ?_); refine bx 1 #[.string a0_0, .string a0_1] 43 ?_; intro gb101 hg w7 hbox hb; have BK101 := Aside0.mk (hbox); have GW101 := Aside0.mk (bz hg); have GE101 := Aside0.mk (bz hg); replace HB := Aside0.mk (below_step bh hb); clear hb hbox hg))
   replace BK101 := Aside0.mk (blk_drew BK101.out)
   replace HB := Aside0.mk (below_drew1 HB.out)
   refine start_ (n := 17) (S := fun w' => w'.cell? ⟨gb101, 0, none⟩ = some (.string a0_0) ∧ w'.cell? ⟨gb101, 1, none⟩ = some (.string a0_1)) (ds := []) spec_l4Field.d0 (by kernel_rfl) rfl rfl ⟨bc BK101 0, bc BK101 1⟩ (fun hHeld => ?_); refine with_tabW spec_l4Field.tab1 spec_l4Field.bits1 (fun HT_ HW_ => ?_)
   generalize w7.drew = w8 at BK101 HB hHeld ⊢
   refine pu 0 3 spec_l4Field.d1 HT_ ?_
   refine tk 1 4 spec_l4Field.d2 HT_ HW_ hHeld ?_
   refine onx 2 5 spec_l4Field.d3 HT_ (fun K hK => ?_)
   refine gs Tryd.func60 #[.string a0_0] ?_
   with_reducible refine (spec_TokenOk.calls k a0_0 true _ A2.out).mono ?_
   rintro e w9 ⟨rfl, hb⟩
   refine ⟨_, rfl, ?_⟩
   replace BK101 := bkb_ BK101 hb
   replace HB := Aside0.mk (below_step bh hb)
   (try clear hb)
   (try clear hb2)
   (try clear hk)
   (try clear hi)
   refine hK.out _ _ ⟨bc BK101 0, bc BK101 1⟩ (fun hHeld => ?_)
   clear hK K
   refine nm 5 ?_
   refine pu 3 6 spec_l4Field.d4 HT_ ?_
   refine pu 4 7 spec_l4Field.d5 HT_ ?_
   refine tk 5 8 spec_l4Field.d6 HT_ HW_ hHeld ?_
   refine onx 6 9 spec_l4Field.d7 HT_ (fun K hK => ?_)
   refine gs Tryd.func61 #[.string a0_1] ?_
   with_reducible refine (spec_VisibleOk.calls k a0_1 true _ A4.out).mono ?_
   rintro e w' ⟨rfl, ⟨nd, rfl⟩⟩
   refine ⟨_, rfl, ?_⟩
   refine hK.out _ _ ⟨bc BK101 0, bc BK101 1⟩ (fun hHeld => ?_)
   clear hK K
   refine nm 9 ?_
   refine pu 7 10 spec_l4Field.d8 HT_ ?_
   refine pu 8 11 spec_l4Field.d9 HT_ ?_
   refine pu 9 12 spec_l4Field.d10 HT_ ?_
   refine pu 12 15 #[true, true, true, true, true, true, true, true, true, true, false, false, true, false, false, false, false] HT_ ?_
   refine tk 10 13 #[true, true, true, true, true, true, true, true, true, true, true, false, true, false, false, false, false] HT_ HW_ hHeld ?_
   refine tk 13 16 #[true, true, true, true, true, true, true, true, true, true, true, false, true, true, false, false, false] HT_ HW_ hHeld ?_
   refine onx 11 14 spec_l4Field.d11 HT_ (fun K hK => ?_)
   refine gs Tryd.func39 #[.string a0_1] ?_
   with_reducible refine (spec_Trimmed.calls k a0_1 t104 _ A6.out).mono ?_
   rintro e w' ⟨rfl, ⟨nd, rfl⟩⟩
   refine ⟨_, rfl, ?_⟩
   refine hK.out _ _ ⟨bc BK101 0, bc BK101 1⟩ (fun hHeld => ?_)
   clear hK K
   refine nm 14 ?_
   refine pu 14 17 spec_l4Field.d12 HT_ ?_
   refine pu 15 18 spec_l4Field.d13 HT_ ?_
   refine pu 16 2 spec_l4Field.d14 HT_ ?_
   refine dn HT_ ?_
   try go_wp2
   go_ret
   exact ⟨er, bh⟩
  ·
   replace c5 := Bool.eq_false_iff.mpr c5
   subst c5
   have H1 : (some false) = some r := by rw [if_neg (show ¬ (false = true) by decide)] at H; exact H
   clear H
   have H := H1
   clear H1
   obtain rfl := Option.some.inj H
   go_enter Tryd.func30, Tryd.ntmps30
   try go_wp2_with (first | ((with_reducible refine gate_dst (N := 1) rfl ?_); refine bx 1 #[.string a0_0, .string a0_1] 43 ?_; intro gb101 hg w10 hbox hb; have BK101 := Aside0.mk (hbox); have GW101 := Aside0.mk (bz hg); have GE101 := Aside0.mk (bz hg); replace HB := Aside0.mk (below_step bh hb); clear hb hbox hg))
   replace BK101 := Aside0.mk (blk_drew BK101.out)
   replace HB := Aside0.mk (below_drew1 HB.out)
   refine start_ (n := 17) (S := fun w' => w'.cell? ⟨gb101, 0, none⟩ = some (.string a0_0) ∧ w'.cell? ⟨gb101, 1, none⟩ = some (.string a0_1)) (ds := []) spec_l4Field.d0 (by kernel_rfl) rfl rfl ⟨bc BK101 0, bc BK101 1⟩ (fun hHeld => ?_); refine with_tabW spec_l4Field.tab1 spec_l4Field.bits1 (fun HT_ HW_ => ?_)
   generalize w10.drew = w11 at BK101 HB hHeld ⊢
   refine pu 0 3 spec_l4Field.d1 HT_ ?_
   refine tk 1 4 spec_l4Field.d2 HT_ HW_ hHeld ?_
   refine onx 2 5 spec_l4Field.d3 HT_ (fun K hK => ?_)
   refine gs Tryd.func60 #[.string a0_0] ?_
   with_reducible refine (spec_TokenOk.calls k a0_0 true _ A2.out).mono ?_
   rintro e w12 ⟨rfl, hb⟩
   refine ⟨_, rfl, ?_⟩
   replace BK101 := bkb_ BK101 hb
   replace HB := Aside0.mk (below_step bh hb)
   (try clear hb)
   (try clear hb2)
   (try clear hk)
   (try clear hi)
   refine hK.out _ _ ⟨bc BK101 0, bc BK101 1⟩ (fun hHeld => ?_)
   clear hK K
   refine nm 5 ?_
   refine pu 3 6 spec_l4Field.d4 HT_ ?_
   refine pu 4 7 spec_l4Field.d5 HT_ ?_
   refine tk 5 8 spec_l4Field.d6 HT_ HW_ hHeld ?_
   refine onx 6 9 spec_l4Field.d7 HT_ (fun K hK => ?_)
   refine gs Tryd.func61 #[.string a0_1] ?_
   with_reducible refine (spec_VisibleOk.calls k a0_1 false _ A4.out).mono ?_
   rintro e w' ⟨rfl, ⟨nd, rfl⟩⟩
   refine ⟨_, rfl, ?_⟩
   refine hK.out _ _ ⟨bc BK101 0, bc BK101 1⟩ (fun hHeld => ?_)
   clear hK K
   refine nm 9 ?_
   refine pu 7 10 spec_l4Field.d8 HT_ ?_
   refine pu 8 11 spec_l4Field.d9 HT_ ?_
   refine un 9 12 spec_l4Field.d10 HT_ ?_
   refine un 10 13 spec_l4Field.d15 HT_ ?_
   refine un 11 14 spec_l4Field.d16 HT_ ?_
   refine un 12 15 spec_l4Field.d17 HT_ ?_
   refine un 13 16 spec_l4Field.d11 HT_ ?_
   refine un 14 17 spec_l4Field.d12 HT_ ?_
   refine pu 15 18 spec_l4Field.d13 HT_ ?_
   refine pu 16 2 spec_l4Field.d14 HT_ ?_
   refine dn HT_ ?_
   try go_wp2
   go_ret
   exact ⟨er, bh⟩
 ·
  replace c3 := Bool.eq_false_iff.mpr c3
  subst c3
  have H1 : (some false) = some r := by rw [if_neg (show ¬ (false = true) by decide)] at H; exact H
  clear H
  have H := H1
  clear H1
  obtain rfl := Option.some.inj H
  go_enter Tryd.func30, Tryd.ntmps30
  try go_wp2_with (first | ((with_reducible refine gate_dst (N := 1) rfl ?_); refine bx 1 #[.string a0_0, .string a0_1] 43 ?_; intro gb101 hg w13 hbox hb; have BK101 := Aside0.mk (hbox); have GW101 := Aside0.mk (bz hg); have GE101 := Aside0.mk (bz hg); replace HB := Aside0.mk (below_step bh hb); clear hb hbox hg))
  replace BK101 := Aside0.mk (blk_drew BK101.out)
  replace HB := Aside0.mk (below_drew1 HB.out)
  refine start_ (n := 17) (S := fun w' => w'.cell? ⟨gb101, 0, none⟩ = some (.string a0_0) ∧ w'.cell? ⟨gb101, 1, none⟩ = some (.string a0_1)) (ds := []) spec_l4Field.d0 (by kernel_rfl) rfl rfl ⟨bc BK101 0, bc BK101 1⟩ (fun hHeld => ?_); refine with_tabW spec_l4Field.tab1 spec_l4Field.bits1 (fun HT_ HW_ => ?_)
  generalize w13.drew = w14 at BK101 HB hHeld ⊢
  refine pu 0 3 spec_l4Field.d1 HT_ ?_
  refine tk 1 4 spec_l4Field.d2 HT_ HW_ hHeld ?_
  refine onx 2 5 spec_l4Field.d3 HT_ (fun K hK => ?_)
  refine gs Tryd.func60 #[.string a0_0] ?_
  with_reducible refine (spec_TokenOk.calls k a0_0 false _ A2.out).mono ?_
  rintro e w15 ⟨rfl, hb⟩
  refine ⟨_, rfl, ?_⟩
  replace BK101 := bkb_ BK101 hb
  replace HB := Aside0.mk (below_step bh hb)
  (try clear hb)
  (try clear hb2)
  (try clear hk)
  (try clear hi)
  refine hK.out _ _ ⟨bc BK101 0, bc BK101 1⟩ (fun hHeld => ?_)
  clear hK K
  refine nm 5 ?_
  refine pu 3 6 spec_l4Field.d4 HT_ ?_
  refine un 4 7 spec_l4Field.d5 HT_ ?_
  refine un 5 8 spec_l4Field.d6 HT_ ?_
  refine un 6 9 spec_l4Field.d7 HT_ ?_
  refine pu 7 10 spec_l4Field.d8 HT_ ?_
  refine pu 8 11 spec_l4Field.d9 HT_ ?_
  refine un 9 12 spec_l4Field.d10 HT_ ?_
  refine un 10 13 spec_l4Field.d15 HT_ ?_
  refine un 11 14 spec_l4Field.d16 HT_ ?_
  refine un 12 15 spec_l4Field.d17 HT_ ?_
  refine un 13 16 spec_l4Field.d11 HT_ ?_
  refine un 14 17 spec_l4Field.d12 HT_ ?_
  refine pu 15 18 spec_l4Field.d13 HT_ ?_
  refine pu 16 2 spec_l4Field.d14 HT_ ?_
  refine dn HT_ ?_
  try go_wp2
  go_ret
  exact ⟨er, bh⟩

end Go.Proofs.YtkaknffeoeoajaaDoor.P
