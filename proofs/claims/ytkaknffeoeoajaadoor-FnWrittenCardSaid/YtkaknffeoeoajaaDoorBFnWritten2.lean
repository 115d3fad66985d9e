/- Functions of the Go program as Lean functions, and proofs about them, merged out of this session's texts by its program bundle.py; conditions: those that each theorem states. -/
import Derived.Laws.BitsLemmas
import Derived.Lib.Bytealg
import Derived.Lib.Hide
import Derived.Lib.ItoaNum
import Derived.Lib.SlBytesConst
import Derived.Lib.Strings
import Derived.Test.YtkaknffeoeoajaaDoorBFnWritten1
import Derived.Test.YtkaknffeoeoajaaDoorP0
import Derived.Test.YtkaknffeoeoajaaDoorPimplDateOk
import Derived.Test.YtkaknffeoeoajaaDoorPimplLeap
import Derived.Test.YtkaknffeoeoajaaDoorPimpldaysIn
import Derived.Test.YtkaknffeoeoajaaDoorPimplwithin
import Derived.Test.YtkaknffeoeoajaaDoorPimplyearDays
import Derived.Test.YtkaknffeoeoajaaDoorProg
import Derived.Test.YtkaknffeoeoajaaDoorPspecDateAt
import Derived.Test.YtkaknffeoeoajaaDoorPspecDateOk
import Derived.Test.YtkaknffeoeoajaaDoorPspecDigits
import Derived.Test.YtkaknffeoeoajaaDoorPspecLeap
import Derived.Test.YtkaknffeoeoajaaDoorPspecReadDate
import Derived.Test.YtkaknffeoeoajaaDoorPspecShowDate
import Derived.Test.YtkaknffeoeoajaaDoorPspecWeekday
import Derived.Test.YtkaknffeoeoajaaDoorPspecl1Below
import Derived.Test.YtkaknffeoeoajaaDoorPspecl1Byte
import Derived.Test.YtkaknffeoeoajaaDoorPspecl1In
import Derived.Test.YtkaknffeoeoajaaDoorPspecl1New
import Derived.Test.YtkaknffeoeoajaaDoorPspecl1Once
import Derived.Test.YtkaknffeoeoajaaDoorPspecl2DayName
import Derived.Test.YtkaknffeoeoajaaDoorPspecl2Days
import Derived.Test.YtkaknffeoeoajaaDoorPspecl2Draw
import Derived.Test.YtkaknffeoeoajaaDoorPspecl2DrawAny
import Derived.Test.YtkaknffeoeoajaaDoorPspecl2Month
import Derived.Test.YtkaknffeoeoajaaDoorPspecl2MonthName
import Derived.Test.YtkaknffeoeoajaaDoorPspecl2Two
import Derived.Test.YtkaknffeoeoajaaDoorPspecl2Year
import Derived.Test.YtkaknffeoeoajaaDoorXA
import Derived.Test.YtkaknffeoeoajaaDoorXB
namespace Go.Proofs.YtkaknffeoeoajaaDoor.P
open Go.RowKit Go.Proofs.YtkaknffeoeoajaaDoorW.PrintWords Go.Proofs.YtkaknffeoeoajaaDoorW.PrintLast Go.Proofs.YtkaknffeoeoajaaDoorW.PrintMore
attribute [local go_sem] max2_int min2_int max_two min_two max_three min_three max_four min_four   -- for this text's walks alone
set_option linter.unusedVariables false
set_option linter.unusedSimpArgs false

attribute [local go_sem high] eqA34
/-! ### laws_FnWritten: function 4 -/
abbrev laws_FnWritten.d0 : Array Bool := #[false, false, false, false, false, false, false, false, false, false, false, false, false, false, false, false, false, false, false, false, false, false, false, false]
abbrev laws_FnWritten.d1 : Array Bool := #[true, false, false, false, false, false, false, false, false, false, false, false, false, false, false, false, false, false, false, false, false, false, false, false]
abbrev laws_FnWritten.d2 : Array Bool := #[true, true, false, false, false, false, false, false, false, false, false, false, false, false, false, false, false, false, false, false, false, false, false, false]
abbrev laws_FnWritten.d3 : Array Bool := #[true, true, true, false, false, false, false, false, false, false, false, false, false, false, false, false, false, false, false, false, false, false, false, false]
abbrev laws_FnWritten.d4 : Array Bool := #[true, true, true, true, false, false, false, false, false, false, false, false, false, false, false, false, false, false, false, false, false, false, false, false]
abbrev laws_FnWritten.d5 : Array Bool := #[true, true, true, true, true, false, false, false, false, false, false, false, false, false, false, false, false, false, false, false, false, false, false, false]
abbrev laws_FnWritten.d6 : Array Bool := #[true, true, true, true, true, true, false, false, false, false, false, false, false, false, false, false, false, false, false, false, false, false, false, false]
abbrev laws_FnWritten.d7 : Array Bool := #[true, true, true, true, true, true, true, false, false, false, false, false, false, false, false, false, false, false, false, false, false, false, false, false]
abbrev laws_FnWritten.d8 : Array Bool := #[true, true, true, true, true, true, true, true, false, false, false, false, false, false, false, false, false, false, false, false, false, false, false, false]
abbrev laws_FnWritten.d9 : Array Bool := #[true, true, true, true, true, true, true, true, true, false, false, false, false, false, false, false, false, false, false, false, false, false, false, false]
abbrev laws_FnWritten.d10 : Array Bool := #[true, true, true, true, true, true, true, true, true, true, false, false, false, false, false, false, false, false, false, false, false, false, false, false]
abbrev laws_FnWritten.d11 : Array Bool := #[true, true, true, true, true, true, true, true, true, true, true, false, false, false, false, false, false, false, false, false, false, false, false, false]
abbrev laws_FnWritten.d12 : Array Bool := #[true, true, true, true, true, true, true, true, true, true, true, true, false, false, false, false, false, false, false, false, false, false, false, false]
abbrev laws_FnWritten.d13 : Array Bool := #[true, true, true, true, true, true, true, true, true, true, true, true, true, false, false, false, false, false, false, false, false, false, false, false]
abbrev laws_FnWritten.d14 : Array Bool := #[true, true, true, true, true, true, true, true, true, true, true, true, true, true, false, false, false, false, false, false, false, false, false, false]
abbrev laws_FnWritten.d15 : Array Bool := #[true, true, true, true, true, true, true, true, true, true, true, true, true, true, true, false, false, false, false, false, false, false, false, false]
abbrev laws_FnWritten.d16 : Array Bool := #[true, true, true, true, true, true, true, true, true, true, true, true, true, true, true, true, false, false, false, false, false, false, false, false]
abbrev laws_FnWritten.d17 : Array Bool := #[true, true, true, true, true, true, true, true, true, true, true, true, true, true, true, true, true, false, false, false, false, false, false, false]
abbrev laws_FnWritten.d18 : Array Bool := #[true, true, true, true, true, true, true, true, true, true, true, true, true, true, true, true, true, true, false, false, false, false, false, false]
abbrev laws_FnWritten.d19 : Array Bool := #[true, true, true, true, true, true, true, true, true, true, true, true, true, true, true, true, true, true, true, false, false, false, false, false]
abbrev laws_FnWritten.d20 : Array Bool := #[true, true, true, true, true, true, true, true, true, true, true, true, true, true, true, true, true, true, true, true, false, false, false, false]
abbrev laws_FnWritten.d21 : Array Bool := #[true, true, true, true, true, true, true, true, true, true, true, true, true, true, true, true, true, true, true, true, true, false, false, false]
abbrev laws_FnWritten.d22 : Array Bool := #[true, true, true, true, true, true, true, true, true, true, true, true, true, true, true, true, true, true, true, true, true, true, false, false]
abbrev laws_FnWritten.d23 : Array Bool := #[true, true, true, true, true, true, true, true, true, true, true, true, true, true, true, true, true, true, true, true, true, true, true, false]
abbrev laws_FnWritten.d24 : Array Bool := #[true, true, true, true, true, true, true, true, true, true, true, true, true, true, true, true, true, true, true, true, true, true, true, true]
abbrev laws_FnWritten.d25 : Array Bool := #[true, true, true, true, true, true, true, true, true, true, true, true, true, true, true, true, true, true, false, true, false, false, false, false]
mutual
def laws_FnWritten.j0 : Nat → List Int → ByteArray → Bool → Int → Int → Int → Int → Int → Int → Option (Bool)
 | 0, _, _, _, _, _, _, _, _, _ => none
 | k + 1, x0, x4, x29, x109000, x109001, x109002, x109003, x109004, x109005 => if x29 = true then (some false) else (if x4.toList = ([] : List UInt8) then (laws_FnWritten.j1 k x0) else ((impl_ReadDate.f x4).bind fun bt112 => (if bt112.2.2.2.2.2.2 = true then (if (!(bt112.1 == x109000) || (!(bt112.2.1 == x109001) || (!(bt112.2.2.1 == x109002) || (!(bt112.2.2.2.1 == x109003) || (!(bt112.2.2.2.2.1 == x109004) || (!(bt112.2.2.2.2.2.1 == x109005))))))) = true then (some false) else (if (x4.size : Int) = 29 then (if (wrap64 (x109000 + 400)) < 10000 then ((impl_Weekday.f k (wrap64 (x109000 + 400)) x109001 x109002 x109003 x109004 x109005).bind fun t121 => ((impl_Weekday.f k x109000 x109001 x109002 x109003 x109004 x109005).bind fun t122 => (if t121 = t122 then (laws_FnWritten.j1 k x0) else (some false)))) else (laws_FnWritten.j1 k x0)) else (some false))) else (some false))))
def laws_FnWritten.j1 : Nat → List Int → Option (Bool)
 | 0, _ => none
 | k + 1, x0 => (spec_DrawReadDate.f k x0).bind fun t123 => ((impl_ReadDate.f t123).bind fun bt124 => ((spec_ReadDate.f k t123).bind fun bt132 => (if (bt124.2.2.2.2.2.2 != bt132.2.2.2.2.2.2) = true then (some false) else (if (!(bt124.1 == bt132.1) || (!(bt124.2.1 == bt132.2.1) || (!(bt124.2.2.1 == bt132.2.2.1) || (!(bt124.2.2.2.1 == bt132.2.2.2.1) || (!(bt124.2.2.2.2.1 == bt132.2.2.2.2.1) || (!(bt124.2.2.2.2.2.1 == bt132.2.2.2.2.2.1))))))) = true then (some false) else (if bt124.2.2.2.2.2.2 = true then ((impl_ShowDate.f k bt124.1 bt124.2.1 bt124.2.2.1 bt124.2.2.2.1 bt124.2.2.2.2.1 bt124.2.2.2.2.2.1).bind fun t140 => (some (t140.toList == t123.toList))) else (if (bt124.1 == 0 && (bt124.2.1 == 0 && (bt124.2.2.1 == 0 && (bt124.2.2.2.1 == 0 && (bt124.2.2.2.2.1 == 0 && (bt124.2.2.2.2.2.1 == 0)))))) = true then (some true) else (some false)))))))
end
def laws_FnWritten.f (k : Nat) (l0 : List Int) : Option (Bool) := (laws_big.f l0).bind fun t101 => (if t101 = true then (some true) else ((spec_DrawShowDate.f k l0).bind fun bt102 => ((impl_ShowDate.f k bt102.1 bt102.2.1 bt102.2.2.1 bt102.2.2.2.1 bt102.2.2.2.2.1 bt102.2.2.2.2.2).bind fun t109 => ((spec_ShowDate.f k bt102.1 bt102.2.1 bt102.2.2.1 bt102.2.2.2.1 bt102.2.2.2.2.1 bt102.2.2.2.2.2).bind fun t110 => (if t109.toList = t110.toList then ((spec_DateOk.f bt102.1 bt102.2.1 bt102.2.2.1 bt102.2.2.2.1 bt102.2.2.2.2.1 bt102.2.2.2.2.2).bind fun t111 => (laws_FnWritten.j0 k l0 t109 ((t109.toList != ([] : List UInt8)) != t111) bt102.1 bt102.2.1 bt102.2.2.1 bt102.2.2.2.1 bt102.2.2.2.2.1 bt102.2.2.2.2.2)) else (laws_FnWritten.j0 k l0 t109 true bt102.1 bt102.2.1 bt102.2.2.1 bt102.2.2.2.1 bt102.2.2.2.2.1 bt102.2.2.2.2.2))))))
theorem laws_FnWritten.mono_l : ∀ k, (∀ y0 y1 y2 y3 y4 y5 y6 y7 y8, LeO (laws_FnWritten.j0 k y0 y1 y2 y3 y4 y5 y6 y7 y8) (laws_FnWritten.j0 (k + 1) y0 y1 y2 y3 y4 y5 y6 y7 y8)) ∧ (∀ y0, LeO (laws_FnWritten.j1 k y0) (laws_FnWritten.j1 (k + 1) y0))
 | 0 => ⟨fun _ _ _ _ _ _ _ _ _ r h => by simp [laws_FnWritten.j0] at h, fun _ r h => by simp [laws_FnWritten.j1] at h⟩
 | k + 1 => by
  obtain ⟨ih0, ih1⟩ := laws_FnWritten.mono_l k
  refine ⟨?_, ?_⟩
  ·
   intro y0 y1 y2 y3 y4 y5 y6 y7 y8
   unfold laws_FnWritten.j0
   repeat' first
   | (with_reducible exact ih0 _ _ _ _ _ _ _ _ _)
   | (with_reducible exact ih1 _)
   | (with_reducible exact impl_ShowDate.mono _ _ _ _ _ _ _)
   | (with_reducible exact impl_Weekday.mono _ _ _ _ _ _ _)
   | (with_reducible exact spec_DrawReadDate.mono _ _)
   | (with_reducible exact spec_DrawShowDate.mono _ _)
   | (with_reducible exact spec_ReadDate.mono _ _)
   | (with_reducible exact spec_ShowDate.mono _ _ _ _ _ _ _)
   | (with_reducible exact LeO.refl _)
   | (with_reducible exact LeO.none _)
   | (with_reducible refine LeO.ite ?_ ?_)
   | (with_reducible refine LeO.bind ?_ (fun _ => ?_))
   | exact ih0 _ _ _ _ _ _ _ _ _
   | exact ih1 _
   | exact impl_ShowDate.mono _ _ _ _ _ _ _
   | exact impl_Weekday.mono _ _ _ _ _ _ _
   | exact spec_DrawReadDate.mono _ _
   | exact spec_DrawShowDate.mono _ _
   | exact spec_ReadDate.mono _ _
   | exact spec_ShowDate.mono _ _ _ _ _ _ _
   | exact LeO.none _
   | refine LeO.ite ?_ ?_
   | refine LeO.bind ?_ (fun _ => ?_)
  ·
   intro y0
   unfold laws_FnWritten.j1
   repeat' first
   | (with_reducible exact ih0 _ _ _ _ _ _ _ _ _)
   | (with_reducible exact ih1 _)
   | (with_reducible exact impl_ShowDate.mono _ _ _ _ _ _ _)
   | (with_reducible exact impl_Weekday.mono _ _ _ _ _ _ _)
   | (with_reducible exact spec_DrawReadDate.mono _ _)
   | (with_reducible exact spec_DrawShowDate.mono _ _)
   | (with_reducible exact spec_ReadDate.mono _ _)
   | (with_reducible exact spec_ShowDate.mono _ _ _ _ _ _ _)
   | (with_reducible exact LeO.refl _)
   | (with_reducible exact LeO.none _)
   | (with_reducible refine LeO.ite ?_ ?_)
   | (with_reducible refine LeO.bind ?_ (fun _ => ?_))
   | exact ih0 _ _ _ _ _ _ _ _ _
   | exact ih1 _
   | exact impl_ShowDate.mono _ _ _ _ _ _ _
   | exact impl_Weekday.mono _ _ _ _ _ _ _
   | exact spec_DrawReadDate.mono _ _
   | exact spec_DrawShowDate.mono _ _
   | exact spec_ReadDate.mono _ _
   | exact spec_ShowDate.mono _ _ _ _ _ _ _
   | exact LeO.none _
   | refine LeO.ite ?_ ?_
   | refine LeO.bind ?_ (fun _ => ?_)
theorem laws_FnWritten.mono : ∀ a0 k, LeO (laws_FnWritten.f k a0) (laws_FnWritten.f (k + 1) a0) := by
 intro a0 k
 obtain ⟨ih0, ih1⟩ := laws_FnWritten.mono_l k
 unfold laws_FnWritten.f
 repeat' first
   | (with_reducible exact ih0 _ _ _ _ _ _ _ _ _)
   | (with_reducible exact ih1 _)
   | (with_reducible exact impl_ShowDate.mono _ _ _ _ _ _ _)
   | (with_reducible exact impl_Weekday.mono _ _ _ _ _ _ _)
   | (with_reducible exact spec_DrawReadDate.mono _ _)
   | (with_reducible exact spec_DrawShowDate.mono _ _)
   | (with_reducible exact spec_ReadDate.mono _ _)
   | (with_reducible exact spec_ShowDate.mono _ _ _ _ _ _ _)
   | (with_reducible exact LeO.refl _)
   | (with_reducible exact LeO.none _)
   | (with_reducible refine LeO.ite ?_ ?_)
   | (with_reducible refine LeO.bind ?_ (fun _ => ?_))
   | exact ih0 _ _ _ _ _ _ _ _ _
   | exact ih1 _
   | exact impl_ShowDate.mono _ _ _ _ _ _ _
   | exact impl_Weekday.mono _ _ _ _ _ _ _
   | exact spec_DrawReadDate.mono _ _
   | exact spec_DrawShowDate.mono _ _
   | exact spec_ReadDate.mono _ _
   | exact spec_ShowDate.mono _ _ _ _ _ _ _
   | exact LeO.none _
   | refine LeO.ite ?_ ?_
   | refine LeO.bind ?_ (fun _ => ?_)
def laws_FnWritten.T11 : Bool × List (List Nat × List Nat) := (true, [([], []), ([0], [0]), ([1], [1]), ([2], [2]), ([2], [2]), ([3, 4, 2], [2, 3, 4]), ([2, 5], [2, 5]), ([6, 2], [6]), ([7], [7]), ([8, 7], [7, 8]), ([9, 7], [7, 9]), ([7, 10], [7, 10]), ([11, 7], [11]), ([12], [12]), ([13, 12], [12, 13]), ([14, 12], [12, 14]), ([15, 12, 12], [12, 15]), ([16], [16]), ([17, 16, 16], [16, 17]), ([16], [16]), ([19, 18, 16], [16, 19]), ([18, 20, 16], [16, 18, 20]), ([16, 21, 12], [12, 16, 21]), ([12, 22], [12, 22])])
def laws_FnWritten.B11 : List Nat := [0, 1, 3, 7, 7, 31, 63, 127, 255, 511, 1023, 2047, 4095, 8191, 16383, 32767, 65535, 131071, 262143, 131071, 1048575, 2097151, 4194303, 8388607]
theorem laws_FnWritten.tab11 : rtab .any (opsOf Tryd.f4 11) = laws_FnWritten.T11 := by kernel_rfl
theorem laws_FnWritten.bits11 : waitsOk laws_FnWritten.T11.2 laws_FnWritten.B11 = true := by kernel_rfl
set_option maxHeartbeats 8000000 in
set_option maxRecDepth 100000 in
theorem laws_FnWritten.calls (k : Nat) (A0 : Option Addr) (c0 : Nat) (l0 : List Int) (r : Bool) (w : World) (hX : XW 7 w) (hr0 : Kd.C (Kd.int .u8) w A0 l0.length l0) (hc0 : l0.length ≤ c0) (h : laws_FnWritten.f k l0 = some r) :
  Calls Tryd.prog 4 #[.slice A0 l0.length c0] w fun e w' => e = .returned (.bool r) ∧ Below w.heap.size w w' := by
 have hu34 := Tryd.underlying34
 have HR0 := Aside0.mk hr0
 have HC0 := Aside0.mk hc0
 clear hr0 hc0
 have HB := Aside0.mk (Below.refl w.heap.size w)
 have H := h
 unfold laws_FnWritten.f at H
 clear h
 obtain ⟨t101, A20, H⟩ := Option.bind_eq_some_iff.mp H
 try dsimp only at H
 have A2 := Aside0.mk A20
 clear A20
 by_cases c3 : t101 = true
 ·
  subst c3
  have H1 : (some true) = some r := by rw [if_pos rfl] at H; exact H
  clear H
  have H := H1
  clear H1
  obtain rfl := Option.some.inj H
  go_enter Tryd.func4, Tryd.ntmps4
  go_wp2_with (first | ((with_reducible refine gate_callee (f := 5) rfl ?_); refine goesL_ (some 14) rfl rfl Tryd.func5 (by kernel_rfl) rfl #[.slice A0 l0.length c0] rfl (by (try simp only [List.map_toArray, List.map_cons, List.map_nil]); first | done | rfl | (simp only [ne_nil_isEmpty]; rfl) | (simp only [List.length_drop, List.length_take]; rfl)) ?_; (with_reducible refine (laws_big.calls _ _ l0 true _ ?side1 ?side2 A2.out).mono ?_); (case side1 => repeat (first | exact HR0.out | (with_reducible refine Kd.C_alloc ?_ _) | (with_reducible refine Kd.C_drewN ?_ _) | (with_reducible refine Kd.C_drew ?_))); (case side2 => exact HC0.out); rintro e w' ⟨rfl, ⟨nd, rfl⟩⟩; refine ⟨_, rfl, ?_⟩))
  go_ret
  exact ⟨by first | rfl | (simp [ne_nil_isEmpty]; done) | (simp [errW_none, errW_some] <;> rfl) | (simp [*, errW_none, errW_some] <;> rfl), bh⟩
 ·
  replace c3 := Bool.eq_false_iff.mpr c3
  subst c3
  rw [if_neg (show ¬ (false = true) by decide)] at H
  obtain ⟨⟨t102, t103, t104, t105, t106, t107⟩, A40, H⟩ := Option.bind_eq_some_iff.mp H
  try dsimp only at H
  have A4 := Aside0.mk A40
  clear A40
  obtain ⟨t109, A50, H⟩ := Option.bind_eq_some_iff.mp H
  try dsimp only at H
  have A5 := Aside0.mk A50
  clear A50
  have HC6 := Aside0.mk H
  clear H
  go_enter Tryd.func4, Tryd.ntmps4
  go_upto_region 5 with (first | ((with_reducible refine gate_callee (f := 5) rfl ?_); refine goesL_ (some 14) rfl rfl Tryd.func5 (by kernel_rfl) rfl #[.slice A0 l0.length c0] rfl (by (try simp only [List.map_toArray, List.map_cons, List.map_nil]); first | done | rfl | (simp only [ne_nil_isEmpty]; rfl) | (simp only [List.length_drop, List.length_take]; rfl)) ?_; (with_reducible refine (laws_big.calls _ _ l0 false _ ?side1 ?side2 A2.out).mono ?_); (case side1 => repeat (first | exact HR0.out | (with_reducible refine Kd.C_alloc ?_ _) | (with_reducible refine Kd.C_drewN ?_ _) | (with_reducible refine Kd.C_drew ?_))); (case side2 => exact HC0.out); rintro e w' ⟨rfl, ⟨nd, rfl⟩⟩; refine ⟨_, rfl, ?_⟩) | ((with_reducible refine gate_callee (f := 16) rfl ?_); refine goesL_ (some 16) rfl rfl Tryd.func16 (by kernel_rfl) rfl #[.slice A0 l0.length c0] rfl (by (try simp only [List.map_toArray, List.map_cons, List.map_nil]); first | done | rfl | (simp only [ne_nil_isEmpty]; rfl) | (simp only [List.length_drop, List.length_take]; rfl)) ?_; (with_reducible refine (spec_DrawShowDate.calls k _ _ l0 t102 t103 t104 t105 t106 t107 _ ?side1 ?side2 A4.out).mono ?_); (case side1 => repeat (first | exact HR0.out | (with_reducible refine Kd.C_alloc ?_ _) | (with_reducible refine Kd.C_drewN ?_ _) | (with_reducible refine Kd.C_drew ?_))); (case side2 => exact HC0.out); rintro e w7 ⟨rfl, hb⟩; refine ⟨_, rfl, ?_⟩; replace HB := Aside0.mk (below_step bh hb); (try clear hb); (try clear hb2); (try clear hk); (try clear hi)) | ((with_reducible refine gate_dst (N := 3) rfl ?_); (try (refine gate_guard (by rfl) ?_; dsimp only)); refine bx 3 #[.int .i64 0, .int .i64 0, .int .i64 0, .int .i64 0, .int .i64 0, .int .i64 0] 34 ?_; intro gb108 hg w8 hbox hb; have BK108 := Aside0.mk (hbox); have GW108 := Aside0.mk (bz hg); have GE108 := Aside0.mk (bz hg); replace HB := Aside0.mk (below_step bh hb); clear hb hbox hg; obtain ⟨hcz9_0, hcz9_1, hcz9_2, hcz9_3, hcz9_4, hcz9_5⟩ := zcf6 BK108; obtain ⟨hfz9_0, hfz9_1, hfz9_2, hfz9_3, hfz9_4, hfz9_5⟩ := zff6 BK108) | ((with_reducible refine gate_callee (f := 17) rfl ?_); refine goesL_ (some 18) rfl rfl Tryd.func17 (by kernel_rfl) rfl #[.agg #[.int .i64 t102, .int .i64 t103, .int .i64 t104, .int .i64 t105, .int .i64 t106, .int .i64 t107]] rfl (by (try simp only [List.map_toArray, List.map_cons, List.map_nil]); first | done | rfl | (simp only [ne_nil_isEmpty]; rfl) | (simp only [List.length_drop, List.length_take]; rfl)) ?_; (with_reducible refine (impl_ShowDate.calls k t102 t103 t104 t105 t106 t107 t109 _ ?side1 A5.out).mono ?_); (case side1 => exact XW.to (XW.stays hX bh) (by decide)); rintro e w10 ⟨rfl, hb⟩; refine ⟨_, rfl, ?_⟩; replace BK108 := Aside0.mk (blk_below (g := gb108) (o := .cells #[.int .i64 t102, .int .i64 t103, .int .i64 t104, .int .i64 t105, .int .i64 t106, .int .i64 t107] 34 (0, 0)) bkp hb); replace HB := Aside0.mk (below_step bh hb); (try clear hb); (try clear hb2); (try clear hk); (try clear hi)))
  (try simp only [Act.put, List.setIfInBounds_toArray, List.set_cons_zero, List.set_cons_succ])
  go_cut [29] (fun v29 wc => ∃ (kq : Nat) (x29_5 : Bool), v29 = .bool x29_5 ∧ Aside0 (laws_FnWritten.j0 kq l0 t109 x29_5 t102 t103 t104 t105 t106 t107 = some r) ∧ Aside0 (kq ≤ k) ∧ Aside0 (wc.heap[gb108]? = some (.cells #[.int .i64 t102, .int .i64 t103, .int .i64 t104, .int .i64 t105, .int .i64 t106, .int .i64 t107] 34 (0, 0))) ∧ Aside0 (Below w.heap.size w wc))
  case first =>
   have H := HC6.out
   clear HC6
   obtain ⟨t110, A110, H⟩ := Option.bind_eq_some_iff.mp H
   try dsimp only at H
   have A11 := Aside0.mk A110
   clear A110
   by_cases c12 : t109.toList = t110.toList
   ·
    rw [if_pos c12] at H
    have c12b0 : (t109.toList == t110.toList) = true := beq_iff_eq.mpr c12
    have c12b1 : (t109.toList != t110.toList) = false := bne_eq_false_iff_eq.mpr c12
    clear c12
    (first | rw [c12b0] | (simp only [i64_w, i32_w]; rw [c12b0]) | skip)
    obtain ⟨t111, A130, H⟩ := Option.bind_eq_some_iff.mp H
    try dsimp only at H
    have A13 := Aside0.mk A130
    clear A130
    have H' := Aside0.mk H
    clear H
    obtain ⟨hcz14_0, hcz14_1, hcz14_2, hcz14_3, hcz14_4, hcz14_5⟩ := zcf6 BK108
    obtain ⟨hfz14_0, hfz14_1, hfz14_2, hfz14_3, hfz14_4, hfz14_5⟩ := zff6 BK108
    go_wp2_with (first | ((with_reducible refine gate_callee (f := 18) rfl ?_); refine goesL_ (some 21) rfl rfl Tryd.func18 (by kernel_rfl) rfl #[.agg #[.int .i64 t102, .int .i64 t103, .int .i64 t104, .int .i64 t105, .int .i64 t106, .int .i64 t107]] rfl (by (try simp only [List.map_toArray, List.map_cons, List.map_nil]); first | done | rfl | (simp only [ne_nil_isEmpty]; rfl) | (simp only [List.length_drop, List.length_take]; rfl)) ?_; (with_reducible refine (spec_ShowDate.calls k t102 t103 t104 t105 t106 t107 t110 _ A11.out).mono ?_); rintro e w15 ⟨rfl, hb⟩; refine ⟨_, rfl, ?_⟩; replace BK108 := bkb_ BK108 hb; replace HB := Aside0.mk (below_step bh hb); (try clear hb); (try clear hb2); (try clear hk); (try clear hi); obtain ⟨hcz16_0, hcz16_1, hcz16_2, hcz16_3, hcz16_4, hcz16_5⟩ := zcf6 BK108; obtain ⟨hfz16_0, hfz16_1, hfz16_2, hfz16_3, hfz16_4, hfz16_5⟩ := zff6 BK108) | (go_at_call 19; (with_reducible refine (spec_DateOk.calls t102 t103 t104 t105 t106 t107 t111 _ A13.out).mono ?_); rintro e w17 ⟨rfl, hb⟩; replace BK108 := bkb_ BK108 hb; replace HB := Aside0.mk (below_step bh hb); (try clear hb); (try clear hb2); (try clear hk); (try clear hi)))
    go_meet
    case rel => exact ⟨_, (((t109.toList != ([] : List UInt8)) != t111)), (by first | rfl | (simp; done) | (simp [*]; done) | (rw [ne_nil_isEmpty]; simp [bne]; done)), H', ⟨by first | omega | exact Nat.le_refl _⟩, ⟨bk⟩, ⟨bh⟩⟩
   ·
    rw [if_neg c12] at H
    have c12b0 : (t109.toList == t110.toList) = false := beq_eq_false_iff_ne.mpr c12
    have c12b1 : (t109.toList != t110.toList) = true := bne_iff_ne.mpr c12
    (first | rw [c12b0] | (simp only [i64_w, i32_w]; rw [c12b0]) | skip)
    have H' := Aside0.mk H
    clear H
    obtain ⟨hcz18_0, hcz18_1, hcz18_2, hcz18_3, hcz18_4, hcz18_5⟩ := zcf6 BK108
    obtain ⟨hfz18_0, hfz18_1, hfz18_2, hfz18_3, hfz18_4, hfz18_5⟩ := zff6 BK108
    go_wp2_with (first | ((with_reducible refine gate_callee (f := 18) rfl ?_); refine goesL_ (some 21) rfl rfl Tryd.func18 (by kernel_rfl) rfl #[.agg #[.int .i64 t102, .int .i64 t103, .int .i64 t104, .int .i64 t105, .int .i64 t106, .int .i64 t107]] rfl (by (try simp only [List.map_toArray, List.map_cons, List.map_nil]); first | done | rfl | (simp only [ne_nil_isEmpty]; rfl) | (simp only [List.length_drop, List.length_take]; rfl)) ?_; (with_reducible refine (spec_ShowDate.calls k t102 t103 t104 t105 t106 t107 t110 _ A11.out).mono ?_); rintro e w19 ⟨rfl, hb⟩; refine ⟨_, rfl, ?_⟩; replace BK108 := bkb_ BK108 hb; replace HB := Aside0.mk (below_step bh hb); (try clear hb); (try clear hb2); (try clear hk); (try clear hi)))
    go_meet
    case rel => exact ⟨_, (true), (by first | rfl | (simp; done) | (simp [*]; done)), H', ⟨by first | omega | exact Nat.le_refl _⟩, ⟨bk⟩, ⟨bh⟩⟩
  case rest =>
   clear HC6
   try clear c1
   try clear p2
   try clear c3
   try clear c4
   try clear c5
   try clear c12
   try clear c12b0
   try clear c12b1
   try clear c16
   try clear c17
   try clear c18
   try clear hcz14_0
   try clear hcz14_1
   try clear hcz14_2
   try clear hcz14_3
   try clear hcz14_4
   try clear hcz14_5
   try clear hcz16_0
   try clear hcz16_1
   try clear hcz16_2
   try clear hcz16_3
   try clear hcz16_4
   try clear hcz16_5
   try clear hcz18_0
   try clear hcz18_1
   try clear hcz18_2
   try clear hcz18_3
   try clear hcz18_4
   try clear hcz18_5
   try clear hcz9_0
   try clear hcz9_1
   try clear hcz9_2
   try clear hcz9_3
   try clear hcz9_4
   try clear hcz9_5
   try clear hfz14_0
   try clear hfz14_1
   try clear hfz14_2
   try clear hfz14_3
   try clear hfz14_4
   try clear hfz14_5
   try clear hfz16_0
   try clear hfz16_1
   try clear hfz16_2
   try clear hfz16_3
   try clear hfz16_4
   try clear hfz16_5
   try clear hfz18_0
   try clear hfz18_1
   try clear hfz18_2
   try clear hfz18_3
   try clear hfz18_4
   try clear hfz18_5
   try clear hfz9_0
   try clear hfz9_1
   try clear hfz9_2
   try clear hfz9_3
   try clear hfz9_4
   try clear hfz9_5
   obtain ⟨kq, x29_5, rfl, HA, HJ5, BK108, HB⟩ := hcut
   cases kq with
   | zero => exact absurd HA.out (by simp [laws_FnWritten.j0])
   | succ kj5 =>
    have H := HA.out
    clear HA
    simp only [laws_FnWritten.j0] at H
    by_cases c20 : x29_5 = true
    ·
     subst c20
     have H1 : (some false) = some r := by rw [if_pos rfl] at H; exact H
     clear H
     have H := H1
     clear H1
     obtain rfl := Option.some.inj H
     go_wp2
     go_ret
     exact ⟨by first | rfl | (simp [ne_nil_isEmpty]; done) | (simp [errW_none, errW_some] <;> rfl) | (simp [*, errW_none, errW_some] <;> rfl), bh⟩
    ·
     replace c20 := Bool.eq_false_iff.mpr c20
     subst c20
     rw [if_neg (show ¬ (false = true) by decide)] at H
     have HC21 := Aside0.mk H
     clear H
     go_upto_if 31 with (fail)
     go_cut [] (fun wc => ∃ (kq : Nat), Aside0 (laws_FnWritten.j1 kq l0 = some r) ∧ Aside0 (kq ≤ kj5) ∧ Aside0 (wc.heap[gb108]? = some (.cells #[.int .i64 t102, .int .i64 t103, .int .i64 t104, .int .i64 t105, .int .i64 t106, .int .i64 t107] 34 (0, 0))) ∧ Aside0 (Below w.heap.size w wc))
     case first =>
      have H := HC21.out
      clear HC21
      by_cases c22 : t109.toList = ([] : List UInt8)
      ·
       rw [if_pos c22] at H
       have c22b0 : (t109.toList == ([] : List UInt8)) = true := beq_iff_eq.mpr c22
       have c22b9 : t109.toList.isEmpty = true := by cases z_ : t109.toList with | nil => (rw [z_] at c22b0; first | rfl | cases c22b0) | cons _ _ => (rw [z_] at c22b0; first | rfl | cases c22b0)
       have c22b1 : (t109.toList != ([] : List UInt8)) = false := bne_eq_false_iff_eq.mpr c22
       clear c22
       (first | rw [c22b0] | rw [c22b9] | (simp only [i64_w, i32_w]; rw [c22b0]) | skip)
       have H' := Aside0.mk H
       clear H
       go_wp2
       go_meet
       case rel => exact ⟨_, H', ⟨by have := HJ5.out; first | omega | exact Nat.le_refl _⟩, ⟨bk⟩, ⟨bh⟩⟩
      ·
       rw [if_neg c22] at H
       have c22b0 : (t109.toList == ([] : List UInt8)) = false := beq_eq_false_iff_ne.mpr c22
       have c22b9 : t109.toList.isEmpty = false := by cases z_ : t109.toList with | nil => (rw [z_] at c22b0; first | rfl | cases c22b0) | cons _ _ => (rw [z_] at c22b0; first | rfl | cases c22b0)
       have c22b1 : (t109.toList != ([] : List UInt8)) = true := bne_iff_ne.mpr c22
       (first | rw [c22b0] | rw [c22b9] | (simp only [i64_w, i32_w]; rw [c22b0]) | skip)
       obtain ⟨⟨t112, t113, t114, t115, t116, t117, t118⟩, A230, H⟩ := Option.bind_eq_some_iff.mp H
       try dsimp only at H
       have A23 := Aside0.mk A230
       clear A230
       by_cases c24 : t118 = true
       ·
        subst c24
        rw [if_pos rfl] at H
        by_cases c25 : (!(t112 == t102) || (!(t113 == t103) || (!(t114 == t104) || (!(t115 == t105) || (!(t116 == t106) || (!(t117 == t107))))))) = true
        ·
         rw [if_pos c25] at H
         have c25b0 : (!(t112 == t102) || (!(t113 == t103) || (!(t114 == t104) || (!(t115 == t105) || (!(t116 == t106) || (!(t117 == t107))))))) = true := c25
         clear c25
         obtain rfl := Option.some.inj H
         try go_wp2_with (first | ((with_reducible refine gate_callee (f := 20) rfl ?_); refine goesL_ (some 34) rfl rfl Tryd.func20 (by kernel_rfl) rfl #[.string t109] rfl (by (try simp only [List.map_toArray, List.map_cons, List.map_nil]); first | done | rfl | (simp only [ne_nil_isEmpty]; rfl) | (simp only [List.length_drop, List.length_take]; rfl)) ?_; (with_reducible refine (impl_ReadDate.calls t109 t112 t113 t114 t115 t116 t117 true _ ?side1 A23.out).mono ?_); (case side1 => exact XW.to (XW.stays hX bh) (by decide)); rintro e w26 ⟨rfl, hb⟩; refine ⟨_, rfl, ?_⟩; replace BK108 := bkb_ BK108 hb; replace HB := Aside0.mk (below_step bh hb); (try clear hb); (try clear hb2); (try clear hk); (try clear hi)) | ((with_reducible refine gate_dst (N := 5) rfl ?_); (try (refine gate_guard (by rfl) ?_; dsimp only)); refine bx 5 #[.int .i64 0, .int .i64 0, .int .i64 0, .int .i64 0, .int .i64 0, .int .i64 0] 34 ?_; intro gb119 hg w27 hbox hb; have BK119 := Aside0.mk (hbox); have GW119 := Aside0.mk (bz hg); have GE119 := Aside0.mk (bz hg); have NB108_119 := Aside0.mk ((nl hg bk : gb108 ≠ gb119)); have NB119_108 := Aside0.mk ((ng hg bk : gb119 ≠ gb108)); replace BK108 := bkb_ BK108 hb; replace HB := Aside0.mk (below_step bh hb); clear hb hbox hg; have hnb28 := NB119_108.out; have hnc28 := NB108_119.out; obtain ⟨hcz29_0, hcz29_1, hcz29_2, hcz29_3, hcz29_4, hcz29_5⟩ := zcf6 BK119; obtain ⟨hfz29_0, hfz29_1, hfz29_2, hfz29_3, hfz29_4, hfz29_5⟩ := zff6 BK119; obtain ⟨hcz30_0, hcz30_1, hcz30_2, hcz30_3, hcz30_4, hcz30_5⟩ := zcf6 BK108; obtain ⟨hfz30_0, hfz30_1, hfz30_2, hfz30_3, hfz30_4, hfz30_5⟩ := zff6 BK108) | ((with_reducible refine gate_dst (N := 7) rfl ?_); (try (refine gate_guard (by rfl) ?_; dsimp only)); refine bx 7 #[.int .i64 0, .int .i64 0, .int .i64 0, .int .i64 0, .int .i64 0, .int .i64 0] 34 ?_; intro gb120 hg w31 hbox hb; have BK120 := Aside0.mk (hbox); have GW120 := Aside0.mk (bz hg); have GE120 := Aside0.mk (bz hg); have NB108_120 := Aside0.mk ((by rw [hg]; exact Nat.ne_of_lt (blk_lt (g := gb108) (o := .cells #[.int .i64 t102, .int .i64 t103, .int .i64 t104, .int .i64 t105, .int .i64 t106, .int .i64 t107] 34 (0, 0)) bkf) : gb108 ≠ gb120)); have NB120_108 := Aside0.mk ((by rw [hg]; exact Nat.ne_of_gt (blk_lt (g := gb108) (o := .cells #[.int .i64 t102, .int .i64 t103, .int .i64 t104, .int .i64 t105, .int .i64 t106, .int .i64 t107] 34 (0, 0)) bkf) : gb120 ≠ gb108)); have NB119_120 := Aside0.mk ((by rw [hg]; exact Nat.ne_of_lt (blk_lt (g := gb119) (o := .cells #[.int .i64 t112, .int .i64 t113, .int .i64 t114, .int .i64 t115, .int .i64 t116, .int .i64 t117] 34 (0, 0)) bkp) : gb119 ≠ gb120)); have NB120_119 := Aside0.mk ((by rw [hg]; exact Nat.ne_of_gt (blk_lt (g := gb119) (o := .cells #[.int .i64 t112, .int .i64 t113, .int .i64 t114, .int .i64 t115, .int .i64 t116, .int .i64 t117] 34 (0, 0)) bkp) : gb120 ≠ gb119)); replace BK108 := bkf_ BK108 hb; replace BK119 := Aside0.mk (blk_below (g := gb119) (o := .cells #[.int .i64 t112, .int .i64 t113, .int .i64 t114, .int .i64 t115, .int .i64 t116, .int .i64 t117] 34 (0, 0)) bkp hb); replace HB := Aside0.mk (below_step bh hb); clear hb hbox hg; have hnb32 := NB120_108.out; have hnc32 := NB108_120.out; have hnb33 := NB120_119.out; have hnc33 := NB119_120.out; obtain ⟨hcz34_0, hcz34_1, hcz34_2, hcz34_3, hcz34_4, hcz34_5⟩ := zcf6 BK120; obtain ⟨hfz34_0, hfz34_1, hfz34_2, hfz34_3, hfz34_4, hfz34_5⟩ := zff6 BK120; obtain ⟨hcz35_0, hcz35_1, hcz35_2, hcz35_3, hcz35_4, hcz35_5⟩ := zcf6 BK108; obtain ⟨hfz35_0, hfz35_1, hfz35_2, hfz35_3, hfz35_4, hfz35_5⟩ := zff6 BK108))
         have n0_ : Aside0 ((((((((w31.setCell ⟨gb120, 0, none⟩ (.int .i64 t102)).setCell ⟨gb120, 1, none⟩ (.int .i64 t103)).setCell ⟨gb120, 2, none⟩ (.int .i64 t104)).setCell ⟨gb120, 3, none⟩ (.int .i64 t105)).setCell ⟨gb120, 4, none⟩ (.int .i64 t106)).setCell ⟨gb120, 5, none⟩ (.int .i64 t107)).setCell ⟨gb120, 0, none⟩ (.int .i64 (wrap64 (t102 + 400)))).heap[gb108]? = some (.cells #[.int .i64 t102, .int .i64 t103, .int .i64 t104, .int .i64 t105, .int .i64 t106, .int .i64 t107] 34 (0, 0))) := ⟨bkp⟩
         have n1_ : Aside0 ((((((((w31.setCell ⟨gb120, 0, none⟩ (.int .i64 t102)).setCell ⟨gb120, 1, none⟩ (.int .i64 t103)).setCell ⟨gb120, 2, none⟩ (.int .i64 t104)).setCell ⟨gb120, 3, none⟩ (.int .i64 t105)).setCell ⟨gb120, 4, none⟩ (.int .i64 t106)).setCell ⟨gb120, 5, none⟩ (.int .i64 t107)).setCell ⟨gb120, 0, none⟩ (.int .i64 (wrap64 (t102 + 400)))).heap[gb119]? = some (.cells #[.int .i64 t112, .int .i64 t113, .int .i64 t114, .int .i64 t115, .int .i64 t116, .int .i64 t117] 34 (0, 0))) := ⟨bkp⟩
         have n2_ : Aside0 ((((((((w31.setCell ⟨gb120, 0, none⟩ (.int .i64 t102)).setCell ⟨gb120, 1, none⟩ (.int .i64 t103)).setCell ⟨gb120, 2, none⟩ (.int .i64 t104)).setCell ⟨gb120, 3, none⟩ (.int .i64 t105)).setCell ⟨gb120, 4, none⟩ (.int .i64 t106)).setCell ⟨gb120, 5, none⟩ (.int .i64 t107)).setCell ⟨gb120, 0, none⟩ (.int .i64 (wrap64 (t102 + 400)))).heap[gb120]? = some (.cells #[.int .i64 (wrap64 (t102 + 400)), .int .i64 t103, .int .i64 t104, .int .i64 t105, .int .i64 t106, .int .i64 t107] 34 (0, 0))) := ⟨by (with_reducible repeat (first | refine blk_drewN ?_ _ | refine blk_drew ?_ | refine blk_alloc ?_ _)); refine blk_put (cs := #[.int .i64 t102, .int .i64 t103, .int .i64 t104, .int .i64 t105, .int .i64 t106, .int .i64 t107]) ?_ 0 _ rfl; (with_reducible repeat (first | refine blk_drewN ?_ _ | refine blk_drew ?_ | refine blk_alloc ?_ _)); refine blk_put (cs := #[.int .i64 t102, .int .i64 t103, .int .i64 t104, .int .i64 t105, .int .i64 t106, .int .i64 0]) ?_ 5 _ rfl; (with_reducible repeat (first | refine blk_drewN ?_ _ | refine blk_drew ?_ | refine blk_alloc ?_ _)); refine blk_put (cs := #[.int .i64 t102, .int .i64 t103, .int .i64 t104, .int .i64 t105, .int .i64 0, .int .i64 0]) ?_ 4 _ rfl; (with_reducible repeat (first | refine blk_drewN ?_ _ | refine blk_drew ?_ | refine blk_alloc ?_ _)); refine blk_put (cs := #[.int .i64 t102, .int .i64 t103, .int .i64 t104, .int .i64 0, .int .i64 0, .int .i64 0]) ?_ 3 _ rfl; (with_reducible repeat (first | refine blk_drewN ?_ _ | refine blk_drew ?_ | refine blk_alloc ?_ _)); refine blk_put (cs := #[.int .i64 t102, .int .i64 t103, .int .i64 0, .int .i64 0, .int .i64 0, .int .i64 0]) ?_ 2 _ rfl; (with_reducible repeat (first | refine blk_drewN ?_ _ | refine blk_drew ?_ | refine blk_alloc ?_ _)); refine blk_put (cs := #[.int .i64 t102, .int .i64 0, .int .i64 0, .int .i64 0, .int .i64 0, .int .i64 0]) ?_ 1 _ rfl; (with_reducible repeat (first | refine blk_drewN ?_ _ | refine blk_drew ?_ | refine blk_alloc ?_ _)); refine blk_put (cs := #[.int .i64 0, .int .i64 0, .int .i64 0, .int .i64 0, .int .i64 0, .int .i64 0]) ?_ 0 _ rfl; (with_reducible repeat (first | refine blk_drewN ?_ _ | refine blk_drew ?_ | refine blk_alloc ?_ _)); exact BK120.out⟩
         have n3_ : Aside0 (Below w.heap.size w (((((((w31.setCell ⟨gb120, 0, none⟩ (.int .i64 t102)).setCell ⟨gb120, 1, none⟩ (.int .i64 t103)).setCell ⟨gb120, 2, none⟩ (.int .i64 t104)).setCell ⟨gb120, 3, none⟩ (.int .i64 t105)).setCell ⟨gb120, 4, none⟩ (.int .i64 t106)).setCell ⟨gb120, 5, none⟩ (.int .i64 t107)).setCell ⟨gb120, 0, none⟩ (.int .i64 (wrap64 (t102 + 400))))) := ⟨bh⟩
         (try clear BK108)
         (try clear BK119)
         (try clear BK120)
         (try clear HB)
         generalize (((((((w31.setCell ⟨gb120, 0, none⟩ (.int .i64 t102)).setCell ⟨gb120, 1, none⟩ (.int .i64 t103)).setCell ⟨gb120, 2, none⟩ (.int .i64 t104)).setCell ⟨gb120, 3, none⟩ (.int .i64 t105)).setCell ⟨gb120, 4, none⟩ (.int .i64 t106)).setCell ⟨gb120, 5, none⟩ (.int .i64 t107)).setCell ⟨gb120, 0, none⟩ (.int .i64 (wrap64 (t102 + 400)))) = w36 at n0_ n1_ n2_ n3_ ⊢
         have BK108 := n0_
         have BK119 := n1_
         have BK120 := n2_
         have HB := n3_
         clear n0_ n1_ n2_ n3_
         replace BK108 := Aside0.mk (blk_drew BK108.out)
         replace BK119 := Aside0.mk (blk_drew BK119.out)
         replace BK120 := Aside0.mk (blk_drew BK120.out)
         replace HB := Aside0.mk (below_drew1 HB.out)
         refine start_ (n := 24) (S := fun w' => w'.cell? ⟨gb119, 0, none⟩ = some (.int .i64 t112) ∧ w'.cell? ⟨gb119, 1, none⟩ = some (.int .i64 t113) ∧ w'.cell? ⟨gb119, 2, none⟩ = some (.int .i64 t114) ∧ w'.cell? ⟨gb119, 3, none⟩ = some (.int .i64 t115) ∧ w'.cell? ⟨gb119, 4, none⟩ = some (.int .i64 t116) ∧ w'.cell? ⟨gb119, 5, none⟩ = some (.int .i64 t117) ∧ w'.cell? ⟨gb108, 0, none⟩ = some (.int .i64 t102) ∧ w'.cell? ⟨gb108, 1, none⟩ = some (.int .i64 t103) ∧ w'.cell? ⟨gb108, 2, none⟩ = some (.int .i64 t104) ∧ w'.cell? ⟨gb108, 3, none⟩ = some (.int .i64 t105) ∧ w'.cell? ⟨gb108, 4, none⟩ = some (.int .i64 t106) ∧ w'.cell? ⟨gb108, 5, none⟩ = some (.int .i64 t107)) (ds := []) laws_FnWritten.d0 (by kernel_rfl) rfl rfl ⟨bc BK119 0, bc BK119 1, bc BK119 2, bc BK119 3, bc BK119 4, bc BK119 5, bc BK108 0, bc BK108 1, bc BK108 2, bc BK108 3, bc BK108 4, bc BK108 5⟩ (fun hHeld => ?_); refine with_tabW laws_FnWritten.tab11 laws_FnWritten.bits11 (fun HT_ HW_ => ?_)
         generalize w36.drew = w37 at BK108 BK119 BK120 HB hHeld ⊢
         refine pu 0 42 laws_FnWritten.d1 HT_ ?_
         refine pu 1 43 laws_FnWritten.d2 HT_ ?_
         refine pu 2 44 laws_FnWritten.d3 HT_ ?_
         refine tk 3 45 laws_FnWritten.d4 HT_ HW_ hHeld ?_
         refine tk 4 46 laws_FnWritten.d5 HT_ HW_ hHeld ?_
         refine pu 5 47 laws_FnWritten.d6 HT_ ?_
         refine pu 6 48 laws_FnWritten.d7 HT_ ?_
         refine pu 7 49 laws_FnWritten.d8 HT_ ?_
         refine un 8 50 laws_FnWritten.d9 HT_ ?_
         refine un 9 51 laws_FnWritten.d10 HT_ ?_
         refine un 10 52 laws_FnWritten.d11 HT_ ?_
         refine pu 11 53 laws_FnWritten.d12 HT_ ?_
         refine pu 12 54 laws_FnWritten.d13 HT_ ?_
         refine un 13 55 laws_FnWritten.d14 HT_ ?_
         refine un 14 56 laws_FnWritten.d15 HT_ ?_
         refine un 15 57 laws_FnWritten.d16 HT_ ?_
         refine un 16 58 laws_FnWritten.d17 HT_ ?_
         refine un 17 59 laws_FnWritten.d18 HT_ ?_
         refine un 18 60 laws_FnWritten.d19 HT_ ?_
         refine un 19 61 laws_FnWritten.d20 HT_ ?_
         refine un 20 62 laws_FnWritten.d21 HT_ ?_
         refine un 21 63 laws_FnWritten.d22 HT_ ?_
         refine un 22 64 laws_FnWritten.d23 HT_ ?_
         refine pu 23 65 laws_FnWritten.d24 HT_ ?_
         refine dn HT_ ?_
         try go_wp2
         go_ret
         exact ⟨by first | rfl | (simp [ne_nil_isEmpty]; done) | (simp [errW_none, errW_some] <;> rfl) | (simp [*, errW_none, errW_some] <;> rfl), bh⟩
        ·
         rw [if_neg c25] at H
         have c25b0 : (!(t112 == t102) || (!(t113 == t103) || (!(t114 == t104) || (!(t115 == t105) || (!(t116 == t106) || (!(t117 == t107))))))) = false := by simpa using c25
         clear c25
         by_cases c38 : (t109.size : Int) = 29
         ·
          rw [if_pos c38] at H
          have c38b0 : ((t109.size : Int) == 29) = true := beq_iff_eq.mpr c38
          have c38b1 : ((t109.size : Int) != 29) = false := bne_eq_false_iff_eq.mpr c38
          clear c38
          by_cases c39 : (wrap64 (t102 + 400)) < 10000
          ·
           rw [if_pos c39] at H
           have c39b0 : decide ((wrap64 (t102 + 400)) < 10000) = true := decide_eq_true c39
           clear c39
           obtain ⟨t121, A400, H⟩ := Option.bind_eq_some_iff.mp H
           try dsimp only at H
           have A40 := Aside0.mk A400
           clear A400
           obtain ⟨t122, A410, H⟩ := Option.bind_eq_some_iff.mp H
           try dsimp only at H
           have A41 := Aside0.mk A410
           clear A410
           by_cases c42 : t121 = t122
           ·
            rw [if_pos c42] at H
            have c42b0 : (t121 == t122) = true := beq_iff_eq.mpr c42
            have c42b1 : (t121 != t122) = false := bne_eq_false_iff_eq.mpr c42
            clear c42
            have H' := Aside0.mk H
            clear H
            try go_wp2_with (first | ((with_reducible refine gate_callee (f := 20) rfl ?_); refine goesL_ (some 34) rfl rfl Tryd.func20 (by kernel_rfl) rfl #[.string t109] rfl (by (try simp only [List.map_toArray, List.map_cons, List.map_nil]); first | done | rfl | (simp only [ne_nil_isEmpty]; rfl) | (simp only [List.length_drop, List.length_take]; rfl)) ?_; (with_reducible refine (impl_ReadDate.calls t109 t112 t113 t114 t115 t116 t117 true _ ?side1 A23.out).mono ?_); (case side1 => exact XW.to (XW.stays hX bh) (by decide)); rintro e w43 ⟨rfl, hb⟩; refine ⟨_, rfl, ?_⟩; replace BK108 := bkb_ BK108 hb; replace HB := Aside0.mk (below_step bh hb); (try clear hb); (try clear hb2); (try clear hk); (try clear hi)) | ((with_reducible refine gate_dst (N := 5) rfl ?_); (try (refine gate_guard (by rfl) ?_; dsimp only)); refine bx 5 #[.int .i64 0, .int .i64 0, .int .i64 0, .int .i64 0, .int .i64 0, .int .i64 0] 34 ?_; intro gb119 hg w44 hbox hb; have BK119 := Aside0.mk (hbox); have GW119 := Aside0.mk (bz hg); have GE119 := Aside0.mk (bz hg); have NB108_119 := Aside0.mk ((nl hg bk : gb108 ≠ gb119)); have NB119_108 := Aside0.mk ((ng hg bk : gb119 ≠ gb108)); replace BK108 := bkb_ BK108 hb; replace HB := Aside0.mk (below_step bh hb); clear hb hbox hg; have hnb45 := NB119_108.out; have hnc45 := NB108_119.out; obtain ⟨hcz46_0, hcz46_1, hcz46_2, hcz46_3, hcz46_4, hcz46_5⟩ := zcf6 BK119; obtain ⟨hfz46_0, hfz46_1, hfz46_2, hfz46_3, hfz46_4, hfz46_5⟩ := zff6 BK119; obtain ⟨hcz47_0, hcz47_1, hcz47_2, hcz47_3, hcz47_4, hcz47_5⟩ := zcf6 BK108; obtain ⟨hfz47_0, hfz47_1, hfz47_2, hfz47_3, hfz47_4, hfz47_5⟩ := zff6 BK108) | ((with_reducible refine gate_dst (N := 7) rfl ?_); (try (refine gate_guard (by rfl) ?_; dsimp only)); refine bx 7 #[.int .i64 0, .int .i64 0, .int .i64 0, .int .i64 0, .int .i64 0, .int .i64 0] 34 ?_; intro gb120 hg w48 hbox hb; have BK120 := Aside0.mk (hbox); have GW120 := Aside0.mk (bz hg); have GE120 := Aside0.mk (bz hg); have NB108_120 := Aside0.mk ((by rw [hg]; exact Nat.ne_of_lt (blk_lt (g := gb108) (o := .cells #[.int .i64 t102, .int .i64 t103, .int .i64 t104, .int .i64 t105, .int .i64 t106, .int .i64 t107] 34 (0, 0)) bkf) : gb108 ≠ gb120)); have NB120_108 := Aside0.mk ((by rw [hg]; exact Nat.ne_of_gt (blk_lt (g := gb108) (o := .cells #[.int .i64 t102, .int .i64 t103, .int .i64 t104, .int .i64 t105, .int .i64 t106, .int .i64 t107] 34 (0, 0)) bkf) : gb120 ≠ gb108)); have NB119_120 := Aside0.mk ((by rw [hg]; exact Nat.ne_of_lt (blk_lt (g := gb119) (o := .cells #[.int .i64 t112, .int .i64 t113, .int .i64 t114, .int .i64 t115, .int .i64 t116, .int .i64 t117] 34 (0, 0)) bkp) : gb119 ≠ gb120)); have NB120_119 := Aside0.mk ((by rw [hg]; exact Nat.ne_of_gt (blk_lt (g := gb119) (o := .cells #[.int .i64 t112, .int .i64 t113, .int .i64 t114, .int .i64 t115, .int .i64 t116, .int .i64 t117] 34 (0, 0)) bkp) : gb120 ≠ gb119)); replace BK108 := bkf_ BK108 hb; replace BK119 := Aside0.mk (blk_below (g := gb119) (o := .cells #[.int .i64 t112, .int .i64 t113, .int .i64 t114, .int .i64 t115, .int .i64 t116, .int .i64 t117] 34 (0, 0)) bkp hb); replace HB := Aside0.mk (below_step bh hb); clear hb hbox hg; have hnb49 := NB120_108.out; have hnc49 := NB108_120.out; have hnb50 := NB120_119.out; have hnc50 := NB119_120.out; obtain ⟨hcz51_0, hcz51_1, hcz51_2, hcz51_3, hcz51_4, hcz51_5⟩ := zcf6 BK120; obtain ⟨hfz51_0, hfz51_1, hfz51_2, hfz51_3, hfz51_4, hfz51_5⟩ := zff6 BK120; obtain ⟨hcz52_0, hcz52_1, hcz52_2, hcz52_3, hcz52_4, hcz52_5⟩ := zcf6 BK108; obtain ⟨hfz52_0, hfz52_1, hfz52_2, hfz52_3, hfz52_4, hfz52_5⟩ := zff6 BK108))
            have n0_ : Aside0 ((((((((w48.setCell ⟨gb120, 0, none⟩ (.int .i64 t102)).setCell ⟨gb120, 1, none⟩ (.int .i64 t103)).setCell ⟨gb120, 2, none⟩ (.int .i64 t104)).setCell ⟨gb120, 3, none⟩ (.int .i64 t105)).setCell ⟨gb120, 4, none⟩ (.int .i64 t106)).setCell ⟨gb120, 5, none⟩ (.int .i64 t107)).setCell ⟨gb120, 0, none⟩ (.int .i64 (wrap64 (t102 + 400)))).heap[gb108]? = some (.cells #[.int .i64 t102, .int .i64 t103, .int .i64 t104, .int .i64 t105, .int .i64 t106, .int .i64 t107] 34 (0, 0))) := ⟨bkp⟩
            have n1_ : Aside0 ((((((((w48.setCell ⟨gb120, 0, none⟩ (.int .i64 t102)).setCell ⟨gb120, 1, none⟩ (.int .i64 t103)).setCell ⟨gb120, 2, none⟩ (.int .i64 t104)).setCell ⟨gb120, 3, none⟩ (.int .i64 t105)).setCell ⟨gb120, 4, none⟩ (.int .i64 t106)).setCell ⟨gb120, 5, none⟩ (.int .i64 t107)).setCell ⟨gb120, 0, none⟩ (.int .i64 (wrap64 (t102 + 400)))).heap[gb119]? = some (.cells #[.int .i64 t112, .int .i64 t113, .int .i64 t114, .int .i64 t115, .int .i64 t116, .int .i64 t117] 34 (0, 0))) := ⟨bkp⟩
            have n2_ : Aside0 ((((((((w48.setCell ⟨gb120, 0, none⟩ (.int .i64 t102)).setCell ⟨gb120, 1, none⟩ (.int .i64 t103)).setCell ⟨gb120, 2, none⟩ (.int .i64 t104)).setCell ⟨gb120, 3, none⟩ (.int .i64 t105)).setCell ⟨gb120, 4, none⟩ (.int .i64 t106)).setCell ⟨gb120, 5, none⟩ (.int .i64 t107)).setCell ⟨gb120, 0, none⟩ (.int .i64 (wrap64 (t102 + 400)))).heap[gb120]? = some (.cells #[.int .i64 (wrap64 (t102 + 400)), .int .i64 t103, .int .i64 t104, .int .i64 t105, .int .i64 t106, .int .i64 t107] 34 (0, 0))) := ⟨by (with_reducible repeat (first | refine blk_drewN ?_ _ | refine blk_drew ?_ | refine blk_alloc ?_ _)); refine blk_put (cs := #[.int .i64 t102, .int .i64 t103, .int .i64 t104, .int .i64 t105, .int .i64 t106, .int .i64 t107]) ?_ 0 _ rfl; (with_reducible repeat (first | refine blk_drewN ?_ _ | refine blk_drew ?_ | refine blk_alloc ?_ _)); refine blk_put (cs := #[.int .i64 t102, .int .i64 t103, .int .i64 t104, .int .i64 t105, .int .i64 t106, .int .i64 0]) ?_ 5 _ rfl; (with_reducible repeat (first | refine blk_drewN ?_ _ | refine blk_drew ?_ | refine blk_alloc ?_ _)); refine blk_put (cs := #[.int .i64 t102, .int .i64 t103, .int .i64 t104, .int .i64 t105, .int .i64 0, .int .i64 0]) ?_ 4 _ rfl; (with_reducible repeat (first | refine blk_drewN ?_ _ | refine blk_drew ?_ | refine blk_alloc ?_ _)); refine blk_put (cs := #[.int .i64 t102, .int .i64 t103, .int .i64 t104, .int .i64 0, .int .i64 0, .int .i64 0]) ?_ 3 _ rfl; (with_reducible repeat (first | refine blk_drewN ?_ _ | refine blk_drew ?_ | refine blk_alloc ?_ _)); refine blk_put (cs := #[.int .i64 t102, .int .i64 t103, .int .i64 0, .int .i64 0, .int .i64 0, .int .i64 0]) ?_ 2 _ rfl; (with_reducible repeat (first | refine blk_drewN ?_ _ | refine blk_drew ?_ | refine blk_alloc ?_ _)); refine blk_put (cs := #[.int .i64 t102, .int .i64 0, .int .i64 0, .int .i64 0, .int .i64 0, .int .i64 0]) ?_ 1 _ rfl; (with_reducible repeat (first | refine blk_drewN ?_ _ | refine blk_drew ?_ | refine blk_alloc ?_ _)); refine blk_put (cs := #[.int .i64 0, .int .i64 0, .int .i64 0, .int .i64 0, .int .i64 0, .int .i64 0]) ?_ 0 _ rfl; (with_reducible repeat (first | refine blk_drewN ?_ _ | refine blk_drew ?_ | refine blk_alloc ?_ _)); exact BK120.out⟩
            have n3_ : Aside0 (Below w.heap.size w (((((((w48.setCell ⟨gb120, 0, none⟩ (.int .i64 t102)).setCell ⟨gb120, 1, none⟩ (.int .i64 t103)).setCell ⟨gb120, 2, none⟩ (.int .i64 t104)).setCell ⟨gb120, 3, none⟩ (.int .i64 t105)).setCell ⟨gb120, 4, none⟩ (.int .i64 t106)).setCell ⟨gb120, 5, none⟩ (.int .i64 t107)).setCell ⟨gb120, 0, none⟩ (.int .i64 (wrap64 (t102 + 400))))) := ⟨bh⟩
            (try clear BK108)
            (try clear BK119)
            (try clear BK120)
            (try clear HB)
            generalize (((((((w48.setCell ⟨gb120, 0, none⟩ (.int .i64 t102)).setCell ⟨gb120, 1, none⟩ (.int .i64 t103)).setCell ⟨gb120, 2, none⟩ (.int .i64 t104)).setCell ⟨gb120, 3, none⟩ (.int .i64 t105)).setCell ⟨gb120, 4, none⟩ (.int .i64 t106)).setCell ⟨gb120, 5, none⟩ (.int .i64 t107)).setCell ⟨gb120, 0, none⟩ (.int .i64 (wrap64 (t102 + 400)))) = w53 at n0_ n1_ n2_ n3_ ⊢
            have BK108 := n0_
            have BK119 := n1_
            have BK120 := n2_
            have HB := n3_
            clear n0_ n1_ n2_ n3_
            replace BK108 := Aside0.mk (blk_drew BK108.out)
            replace BK119 := Aside0.mk (blk_drew BK119.out)
            replace BK120 := Aside0.mk (blk_drew BK120.out)
            replace HB := Aside0.mk (below_drew1 HB.out)
            refine start_ (n := 24) (S := fun w' => w'.cell? ⟨gb119, 0, none⟩ = some (.int .i64 t112) ∧ w'.cell? ⟨gb119, 1, none⟩ = some (.int .i64 t113) ∧ w'.cell? ⟨gb119, 2, none⟩ = some (.int .i64 t114) ∧ w'.cell? ⟨gb119, 3, none⟩ = some (.int .i64 t115) ∧ w'.cell? ⟨gb119, 4, none⟩ = some (.int .i64 t116) ∧ w'.cell? ⟨gb119, 5, none⟩ = some (.int .i64 t117) ∧ w'.cell? ⟨gb108, 0, none⟩ = some (.int .i64 t102) ∧ w'.cell? ⟨gb108, 1, none⟩ = some (.int .i64 t103) ∧ w'.cell? ⟨gb108, 2, none⟩ = some (.int .i64 t104) ∧ w'.cell? ⟨gb108, 3, none⟩ = some (.int .i64 t105) ∧ w'.cell? ⟨gb108, 4, none⟩ = some (.int .i64 t106) ∧ w'.cell? ⟨gb108, 5, none⟩ = some (.int .i64 t107) ∧ w'.cell? ⟨gb120, 0, none⟩ = some (.int .i64 (wrap64 (t102 + 400))) ∧ w'.cell? ⟨gb120, 1, none⟩ = some (.int .i64 t103) ∧ w'.cell? ⟨gb120, 2, none⟩ = some (.int .i64 t104) ∧ w'.cell? ⟨gb120, 3, none⟩ = some (.int .i64 t105) ∧ w'.cell? ⟨gb120, 4, none⟩ = some (.int .i64 t106) ∧ w'.cell? ⟨gb120, 5, none⟩ = some (.int .i64 t107)) (ds := []) laws_FnWritten.d0 (by kernel_rfl) rfl rfl ⟨bc BK119 0, bc BK119 1, bc BK119 2, bc BK119 3, bc BK119 4, bc BK119 5, bc BK108 0, bc BK108 1, bc BK108 2, bc BK108 3, bc BK108 4, bc BK108 5, bc BK120 0, bc BK120 1, bc BK120 2, bc BK120 3, bc BK120 4, bc BK120 5⟩ (fun hHeld => ?_); refine with_tabW laws_FnWritten.tab11 laws_FnWritten.bits11 (fun HT_ HW_ => ?_)
            generalize w53.drew = w54 at BK108 BK119 BK120 HB hHeld ⊢
            refine pu 0 42 laws_FnWritten.d1 HT_ ?_
            refine pu 1 43 laws_FnWritten.d2 HT_ ?_
            refine pu 2 44 laws_FnWritten.d3 HT_ ?_
            refine tk 3 45 laws_FnWritten.d4 HT_ HW_ hHeld ?_
            refine tk 4 46 laws_FnWritten.d5 HT_ HW_ hHeld ?_
            refine pu 5 47 laws_FnWritten.d6 HT_ ?_
            refine pu 6 48 laws_FnWritten.d7 HT_ ?_
            refine pu 7 49 laws_FnWritten.d8 HT_ ?_
            refine pu 8 50 laws_FnWritten.d9 HT_ ?_
            refine pu 9 51 laws_FnWritten.d10 HT_ ?_
            refine pu 10 52 laws_FnWritten.d11 HT_ ?_
            refine pu 11 53 laws_FnWritten.d12 HT_ ?_
            refine pu 12 54 laws_FnWritten.d13 HT_ ?_
            refine pu 13 55 laws_FnWritten.d14 HT_ ?_
            refine tk 14 56 laws_FnWritten.d15 HT_ HW_ hHeld ?_
            refine pu 15 57 laws_FnWritten.d16 HT_ ?_
            refine pu 16 58 laws_FnWritten.d17 HT_ ?_
            refine tk 17 59 laws_FnWritten.d18 HT_ HW_ hHeld ?_
            refine tk 19 61 laws_FnWritten.d25 HT_ HW_ hHeld ?_
            refine onx 18 60 laws_FnWritten.d20 HT_ (fun K hK => ?_)
            refine goes_ Tryd.func21 (by kernel_rfl) rfl #[.agg #[.int .i64 (wrap64 (t102 + 400)), .int .i64 t103, .int .i64 t104, .int .i64 t105, .int .i64 t106, .int .i64 t107]] (by rfl) rfl rfl (by (try simp only [List.map_toArray, List.map_cons, List.map_nil]); first | done | rfl | (simp only [ne_nil_isEmpty]; rfl) | (simp only [List.length_drop, List.length_take]; rfl)) ?_
            with_reducible refine (impl_Weekday.calls kj5 (wrap64 (t102 + 400)) t103 t104 t105 t106 t107 t121 _ A40.out).mono ?_
            rintro e w55 ⟨rfl, hb⟩
            refine ⟨_, rfl, ?_⟩
            replace BK108 := bkb_ BK108 hb
            replace BK119 := bkb_ BK119 hb
            replace BK120 := bkb_ BK120 hb
            replace HB := Aside0.mk (below_step bh hb)
            (try clear hb)
            (try clear hb2)
            (try clear hk)
            (try clear hi)
            refine hK.out _ _ ⟨bc BK119 0, bc BK119 1, bc BK119 2, bc BK119 3, bc BK119 4, bc BK119 5, bc BK108 0, bc BK108 1, bc BK108 2, bc BK108 3, bc BK108 4, bc BK108 5, bc BK120 0, bc BK120 1, bc BK120 2, bc BK120 3, bc BK120 4, bc BK120 5⟩ (fun hHeld => ?_)
            clear hK K
            refine nm 60 ?_
            refine onx 20 62 laws_FnWritten.d21 HT_ (fun K hK => ?_)
            refine goes_ Tryd.func21 (by kernel_rfl) rfl #[.agg #[.int .i64 t102, .int .i64 t103, .int .i64 t104, .int .i64 t105, .int .i64 t106, .int .i64 t107]] (by rfl) rfl rfl (by (try simp only [List.map_toArray, List.map_cons, List.map_nil]); first | done | rfl | (simp only [ne_nil_isEmpty]; rfl) | (simp only [List.length_drop, List.length_take]; rfl)) ?_
            with_reducible refine (impl_Weekday.calls kj5 t102 t103 t104 t105 t106 t107 t122 _ A41.out).mono ?_
            rintro e w56 ⟨rfl, hb⟩
            refine ⟨_, rfl, ?_⟩
            replace BK108 := bkb_ BK108 hb
            replace BK119 := bkb_ BK119 hb
            replace BK120 := bkb_ BK120 hb
            replace HB := Aside0.mk (below_step bh hb)
            (try clear hb)
            (try clear hb2)
            (try clear hk)
            (try clear hi)
            refine hK.out _ _ ⟨bc BK119 0, bc BK119 1, bc BK119 2, bc BK119 3, bc BK119 4, bc BK119 5, bc BK108 0, bc BK108 1, bc BK108 2, bc BK108 3, bc BK108 4, bc BK108 5, bc BK120 0, bc BK120 1, bc BK120 2, bc BK120 3, bc BK120 4, bc BK120 5⟩ (fun hHeld => ?_)
            clear hK K
            refine nm 62 ?_
            refine pu 21 63 laws_FnWritten.d22 HT_ ?_
            refine pu 22 64 laws_FnWritten.d23 HT_ ?_
            refine pu 23 65 laws_FnWritten.d24 HT_ ?_
            refine dn HT_ ?_
            try go_wp2
            go_meet
            case rel => exact ⟨_, H', ⟨by have := HJ5.out; first | omega | exact Nat.le_refl _⟩, ⟨bk⟩, ⟨bh⟩⟩
           ·
            rw [if_neg c42] at H
            have c42b0 : (t121 == t122) = false := beq_eq_false_iff_ne.mpr c42
            have c42b1 : (t121 != t122) = true := bne_iff_ne.mpr c42
            obtain rfl := Option.some.inj H
            try go_wp2_with (first | ((with_reducible refine gate_callee (f := 20) rfl ?_); refine goesL_ (some 34) rfl rfl Tryd.func20 (by kernel_rfl) rfl #[.string t109] rfl (by (try simp only [List.map_toArray, List.map_cons, List.map_nil]); first | done | rfl | (simp only [ne_nil_isEmpty]; rfl) | (simp only [List.length_drop, List.length_take]; rfl)) ?_; (with_reducible refine (impl_ReadDate.calls t109 t112 t113 t114 t115 t116 t117 true _ ?side1 A23.out).mono ?_); (case side1 => exact XW.to (XW.stays hX bh) (by decide)); rintro e w57 ⟨rfl, hb⟩; refine ⟨_, rfl, ?_⟩; replace BK108 := bkb_ BK108 hb; replace HB := Aside0.mk (below_step bh hb); (try clear hb); (try clear hb2); (try clear hk); (try clear hi)) | ((with_reducible refine gate_dst (N := 5) rfl ?_); (try (refine gate_guard (by rfl) ?_; dsimp only)); refine bx 5 #[.int .i64 0, .int .i64 0, .int .i64 0, .int .i64 0, .int .i64 0, .int .i64 0] 34 ?_; intro gb119 hg w58 hbox hb; have BK119 := Aside0.mk (hbox); have GW119 := Aside0.mk (bz hg); have GE119 := Aside0.mk (bz hg); have NB108_119 := Aside0.mk ((nl hg bk : gb108 ≠ gb119)); have NB119_108 := Aside0.mk ((ng hg bk : gb119 ≠ gb108)); replace BK108 := bkb_ BK108 hb; replace HB := Aside0.mk (below_step bh hb); clear hb hbox hg; have hnb59 := NB119_108.out; have hnc59 := NB108_119.out; obtain ⟨hcz60_0, hcz60_1, hcz60_2, hcz60_3, hcz60_4, hcz60_5⟩ := zcf6 BK119; obtain ⟨hfz60_0, hfz60_1, hfz60_2, hfz60_3, hfz60_4, hfz60_5⟩ := zff6 BK119; obtain ⟨hcz61_0, hcz61_1, hcz61_2, hcz61_3, hcz61_4, hcz61_5⟩ := zcf6 BK108; obtain ⟨hfz61_0, hfz61_1, hfz61_2, hfz61_3, hfz61_4, hfz61_5⟩ := zff6 BK108) | ((with_reducible refine gate_dst (N := 7) rfl ?_); (try (refine gate_guard (by rfl) ?_; dsimp only)); refine bx 7 #[.int .i64 0, .int .i64 0, .int .i64 0, .int .i64 0, .int .i64 0, .int .i64 0] 34 ?_; intro gb120 hg w62 hbox hb; have BK120 := Aside0.mk (hbox); have GW120 := Aside0.mk (bz hg); have GE120 := Aside0.mk (bz hg); have NB108_120 := Aside0.mk ((by rw [hg]; exact Nat.ne_of_lt (blk_lt (g := gb108) (o := .cells #[.int .i64 t102, .int .i64 t103, .int .i64 t104, .int .i64 t105, .int .i64 t106, .int .i64 t107] 34 (0, 0)) bkf) : gb108 ≠ gb120)); have NB120_108 := Aside0.mk ((by rw [hg]; exact Nat.ne_of_gt (blk_lt (g := gb108) (o := .cells #[.int .i64 t102, .int .i64 t103, .int .i64 t104, .int .i64 t105, .int .i64 t106, .int .i64 t107] 34 (0, 0)) bkf) : gb120 ≠ gb108)); have NB119_120 := Aside0.mk ((by rw [hg]; exact Nat.ne_of_lt (blk_lt (g := gb119) (o := .cells #[.int .i64 t112, .int .i64 t113, .int .i64 t114, .int .i64 t115, .int .i64 t116, .int .i64 t117] 34 (0, 0)) bkp) : gb119 ≠ gb120)); have NB120_119 := Aside0.mk ((by rw [hg]; exact Nat.ne_of_gt (blk_lt (g := gb119) (o := .cells #[.int .i64 t112, .int .i64 t113, .int .i64 t114, .int .i64 t115, .int .i64 t116, .int .i64 t117] 34 (0, 0)) bkp) : gb120 ≠ gb119)); replace BK108 := bkf_ BK108 hb; replace BK119 := Aside0.mk (blk_below (g := gb119) (o := .cells #[.int .i64 t112, .int .i64 t113, .int .i64 t114, .int .i64 t115, .int .i64 t116, .int .i64 t117] 34 (0, 0)) bkp hb); replace HB := Aside0.mk (below_step bh hb); clear hb hbox hg; have hnb63 := NB120_108.out; have hnc63 := NB108_120.out; have hnb64 := NB120_119.out; have hnc64 := NB119_120.out; obtain ⟨hcz65_0, hcz65_1, hcz65_2, hcz65_3, hcz65_4, hcz65_5⟩ := zcf6 BK120; obtain ⟨hfz65_0, hfz65_1, hfz65_2, hfz65_3, hfz65_4, hfz65_5⟩ := zff6 BK120; obtain ⟨hcz66_0, hcz66_1, hcz66_2, hcz66_3, hcz66_4, hcz66_5⟩ := zcf6 BK108; obtain ⟨hfz66_0, hfz66_1, hfz66_2, hfz66_3, hfz66_4, hfz66_5⟩ := zff6 BK108))
            have n0_ : Aside0 ((((((((w62.setCell ⟨gb120, 0, none⟩ (.int .i64 t102)).setCell ⟨gb120, 1, none⟩ (.int .i64 t103)).setCell ⟨gb120, 2, none⟩ (.int .i64 t104)).setCell ⟨gb120, 3, none⟩ (.int .i64 t105)).setCell ⟨gb120, 4, none⟩ (.int .i64 t106)).setCell ⟨gb120, 5, none⟩ (.int .i64 t107)).setCell ⟨gb120, 0, none⟩ (.int .i64 (wrap64 (t102 + 400)))).heap[gb108]? = some (.cells #[.int .i64 t102, .int .i64 t103, .int .i64 t104, .int .i64 t105, .int .i64 t106, .int .i64 t107] 34 (0, 0))) := ⟨bkp⟩
            have n1_ : Aside0 ((((((((w62.setCell ⟨gb120, 0, none⟩ (.int .i64 t102)).setCell ⟨gb120, 1, none⟩ (.int .i64 t103)).setCell ⟨gb120, 2, none⟩ (.int .i64 t104)).setCell ⟨gb120, 3, none⟩ (.int .i64 t105)).setCell ⟨gb120, 4, none⟩ (.int .i64 t106)).setCell ⟨gb120, 5, none⟩ (.int .i64 t107)).setCell ⟨gb120, 0, none⟩ (.int .i64 (wrap64 (t102 + 400)))).heap[gb119]? = some (.cells #[.int .i64 t112, .int .i64 t113, .int .i64 t114, .int .i64 t115, .int .i64 t116, .int .i64 t117] 34 (0, 0))) := ⟨bkp⟩
            have n2_ : Aside0 ((((((((w62.setCell ⟨gb120, 0, none⟩ (.int .i64 t102)).setCell ⟨gb120, 1, none⟩ (.int .i64 t103)).setCell ⟨gb120, 2, none⟩ (.int .i64 t104)).setCell ⟨gb120, 3, none⟩ (.int .i64 t105)).setCell ⟨gb120, 4, none⟩ (.int .i64 t106)).setCell ⟨gb120, 5, none⟩ (.int .i64 t107)).setCell ⟨gb120, 0, none⟩ (.int .i64 (wrap64 (t102 + 400)))).heap[gb120]? = some (.cells #[.int .i64 (wrap64 (t102 + 400)), .int .i64 t103, .int .i64 t104, .int .i64 t105, .int .i64 t106, .int .i64 t107] 34 (0, 0))) := ⟨by (with_reducible repeat (first | refine blk_drewN ?_ _ | refine blk_drew ?_ | refine blk_alloc ?_ _)); refine blk_put (cs := #[.int .i64 t102, .int .i64 t103, .int .i64 t104, .int .i64 t105, .int .i64 t106, .int .i64 t107]) ?_ 0 _ rfl; (with_reducible repeat (first | refine blk_drewN ?_ _ | refine blk_drew ?_ | refine blk_alloc ?_ _)); refine blk_put (cs := #[.int .i64 t102, .int .i64 t103, .int .i64 t104, .int .i64 t105, .int .i64 t106, .int .i64 0]) ?_ 5 _ rfl; (with_reducible repeat (first | refine blk_drewN ?_ _ | refine blk_drew ?_ | refine blk_alloc ?_ _)); refine blk_put (cs := #[.int .i64 t102, .int .i64 t103, .int .i64 t104, .int .i64 t105, .int .i64 0, .int .i64 0]) ?_ 4 _ rfl; (with_reducible repeat (first | refine blk_drewN ?_ _ | refine blk_drew ?_ | refine blk_alloc ?_ _)); refine blk_put (cs := #[.int .i64 t102, .int .i64 t103, .int .i64 t104, .int .i64 0, .int .i64 0, .int .i64 0]) ?_ 3 _ rfl; (with_reducible repeat (first | refine blk_drewN ?_ _ | refine blk_drew ?_ | refine blk_alloc ?_ _)); refine blk_put (cs := #[.int .i64 t102, .int .i64 t103, .int .i64 0, .int .i64 0, .int .i64 0, .int .i64 0]) ?_ 2 _ rfl; (with_reducible repeat (first | refine blk_drewN ?_ _ | refine blk_drew ?_ | refine blk_alloc ?_ _)); refine blk_put (cs := #[.int .i64 t102, .int .i64 0, .int .i64 0, .int .i64 0, .int .i64 0, .int .i64 0]) ?_ 1 _ rfl; (with_reducible repeat (first | refine blk_drewN ?_ _ | refine blk_drew ?_ | refine blk_alloc ?_ _)); refine blk_put (cs := #[.int .i64 0, .int .i64 0, .int .i64 0, .int .i64 0, .int .i64 0, .int .i64 0]) ?_ 0 _ rfl; (with_reducible repeat (first | refine blk_drewN ?_ _ | refine blk_drew ?_ | refine blk_alloc ?_ _)); exact BK120.out⟩
            have n3_ : Aside0 (Below w.heap.size w (((((((w62.setCell ⟨gb120, 0, none⟩ (.int .i64 t102)).setCell ⟨gb120, 1, none⟩ (.int .i64 t103)).setCell ⟨gb120, 2, none⟩ (.int .i64 t104)).setCell ⟨gb120, 3, none⟩ (.int .i64 t105)).setCell ⟨gb120, 4, none⟩ (.int .i64 t106)).setCell ⟨gb120, 5, none⟩ (.int .i64 t107)).setCell ⟨gb120, 0, none⟩ (.int .i64 (wrap64 (t102 + 400))))) := ⟨bh⟩
            (try clear BK108)
            (try clear BK119)
            (try clear BK120)
            (try clear HB)
            generalize (((((((w62.setCell ⟨gb120, 0, none⟩ (.int .i64 t102)).setCell ⟨gb120, 1, none⟩ (.int .i64 t103)).setCell ⟨gb120, 2, none⟩ (.int .i64 t104)).setCell ⟨gb120, 3, none⟩ (.int .i64 t105)).setCell ⟨gb120, 4, none⟩ (.int .i64 t106)).setCell ⟨gb120, 5, none⟩ (.int .i64 t107)).setCell ⟨gb120, 0, none⟩ (.int .i64 (wrap64 (t102 + 400)))) = w67 at n0_ n1_ n2_ n3_ ⊢
            have BK108 := n0_
            have BK119 := n1_
            have BK120 := n2_
            have HB := n3_
            clear n0_ n1_ n2_ n3_
            replace BK108 := Aside0.mk (blk_drew BK108.out)
            replace BK119 := Aside0.mk (blk_drew BK119.out)
            replace BK120 := Aside0.mk (blk_drew BK120.out)
            replace HB := Aside0.mk (below_drew1 HB.out)
            refine start_ (n := 24) (S := fun w' => w'.cell? ⟨gb119, 0, none⟩ = some (.int .i64 t112) ∧ w'.cell? ⟨gb119, 1, none⟩ = some (.int .i64 t113) ∧ w'.cell? ⟨gb119, 2, none⟩ = some (.int .i64 t114) ∧ w'.cell? ⟨gb119, 3, none⟩ = some (.int .i64 t115) ∧ w'.cell? ⟨gb119, 4, none⟩ = some (.int .i64 t116) ∧ w'.cell? ⟨gb119, 5, none⟩ = some (.int .i64 t117) ∧ w'.cell? ⟨gb108, 0, none⟩ = some (.int .i64 t102) ∧ w'.cell? ⟨gb108, 1, none⟩ = some (.int .i64 t103) ∧ w'.cell? ⟨gb108, 2, none⟩ = some (.int .i64 t104) ∧ w'.cell? ⟨gb108, 3, none⟩ = some (.int .i64 t105) ∧ w'.cell? ⟨gb108, 4, none⟩ = some (.int .i64 t106) ∧ w'.cell? ⟨gb108, 5, none⟩ = some (.int .i64 t107) ∧ w'.cell? ⟨gb120, 0, none⟩ = some (.int .i64 (wrap64 (t102 + 400))) ∧ w'.cell? ⟨gb120, 1, none⟩ = some (.int .i64 t103) ∧ w'.cell? ⟨gb120, 2, none⟩ = some (.int .i64 t104) ∧ w'.cell? ⟨gb120, 3, none⟩ = some (.int .i64 t105) ∧ w'.cell? ⟨gb120, 4, none⟩ = some (.int .i64 t106) ∧ w'.cell? ⟨gb120, 5, none⟩ = some (.int .i64 t107)) (ds := []) laws_FnWritten.d0 (by kernel_rfl) rfl rfl ⟨bc BK119 0, bc BK119 1, bc BK119 2, bc BK119 3, bc BK119 4, bc BK119 5, bc BK108 0, bc BK108 1, bc BK108 2, bc BK108 3, bc BK108 4, bc BK108 5, bc BK120 0, bc BK120 1, bc BK120 2, bc BK120 3, bc BK120 4, bc BK120 5⟩ (fun hHeld => ?_); refine with_tabW laws_FnWritten.tab11 laws_FnWritten.bits11 (fun HT_ HW_ => ?_)
            generalize w67.drew = w68 at BK108 BK119 BK120 HB hHeld ⊢
            refine pu 0 42 laws_FnWritten.d1 HT_ ?_
            refine pu 1 43 laws_FnWritten.d2 HT_ ?_
            refine pu 2 44 laws_FnWritten.d3 HT_ ?_
            refine tk 3 45 laws_FnWritten.d4 HT_ HW_ hHeld ?_
            refine tk 4 46 laws_FnWritten.d5 HT_ HW_ hHeld ?_
            refine pu 5 47 laws_FnWritten.d6 HT_ ?_
            refine pu 6 48 laws_FnWritten.d7 HT_ ?_
            refine pu 7 49 laws_FnWritten.d8 HT_ ?_
            refine pu 8 50 laws_FnWritten.d9 HT_ ?_
            refine pu 9 51 laws_FnWritten.d10 HT_ ?_
            refine pu 10 52 laws_FnWritten.d11 HT_ ?_
            refine pu 11 53 laws_FnWritten.d12 HT_ ?_
            refine pu 12 54 laws_FnWritten.d13 HT_ ?_
            refine pu 13 55 laws_FnWritten.d14 HT_ ?_
            refine tk 14 56 laws_FnWritten.d15 HT_ HW_ hHeld ?_
            refine pu 15 57 laws_FnWritten.d16 HT_ ?_
            refine pu 16 58 laws_FnWritten.d17 HT_ ?_
            refine tk 17 59 laws_FnWritten.d18 HT_ HW_ hHeld ?_
            refine tk 19 61 laws_FnWritten.d25 HT_ HW_ hHeld ?_
            refine onx 18 60 laws_FnWritten.d20 HT_ (fun K hK => ?_)
            refine goes_ Tryd.func21 (by kernel_rfl) rfl #[.agg #[.int .i64 (wrap64 (t102 + 400)), .int .i64 t103, .int .i64 t104, .int .i64 t105, .int .i64 t106, .int .i64 t107]] (by rfl) rfl rfl (by (try simp only [List.map_toArray, List.map_cons, List.map_nil]); first | done | rfl | (simp only [ne_nil_isEmpty]; rfl) | (simp only [List.length_drop, List.length_take]; rfl)) ?_
            with_reducible refine (impl_Weekday.calls kj5 (wrap64 (t102 + 400)) t103 t104 t105 t106 t107 t121 _ A40.out).mono ?_
            rintro e w69 ⟨rfl, hb⟩
            refine ⟨_, rfl, ?_⟩
            replace BK108 := bkb_ BK108 hb
            replace BK119 := bkb_ BK119 hb
            replace BK120 := bkb_ BK120 hb
            replace HB := Aside0.mk (below_step bh hb)
            (try clear hb)
            (try clear hb2)
            (try clear hk)
            (try clear hi)
            refine hK.out _ _ ⟨bc BK119 0, bc BK119 1, bc BK119 2, bc BK119 3, bc BK119 4, bc BK119 5, bc BK108 0, bc BK108 1, bc BK108 2, bc BK108 3, bc BK108 4, bc BK108 5, bc BK120 0, bc BK120 1, bc BK120 2, bc BK120 3, bc BK120 4, bc BK120 5⟩ (fun hHeld => ?_)
            clear hK K
            refine nm 60 ?_
            refine onx 20 62 laws_FnWritten.d21 HT_ (fun K hK => ?_)
            refine goes_ Tryd.func21 (by kernel_rfl) rfl #[.agg #[.int .i64 t102, .int .i64 t103, .int .i64 t104, .int .i64 t105, .int .i64 t106, .int .i64 t107]] (by rfl) rfl rfl (by (try simp only [List.map_toArray, List.map_cons, List.map_nil]); first | done | rfl | (simp only [ne_nil_isEmpty]; rfl) | (simp only [List.length_drop, List.length_take]; rfl)) ?_
            with_reducible refine (impl_Weekday.calls kj5 t102 t103 t104 t105 t106 t107 t122 _ A41.out).mono ?_
            rintro e w70 ⟨rfl, hb⟩
            refine ⟨_, rfl, ?_⟩
            replace BK108 := bkb_ BK108 hb
            replace BK119 := bkb_ BK119 hb
            replace BK120 := bkb_ BK120 hb
            replace HB := Aside0.mk (below_step bh hb)
            (try clear hb)
            (try clear hb2)
            (try clear hk)
            (try clear hi)
            refine hK.out _ _ ⟨bc BK119 0, bc BK119 1, bc BK119 2, bc BK119 3, bc BK119 4, bc BK119 5, bc BK108 0, bc BK108 1, bc BK108 2, bc BK108 3, bc BK108 4, bc BK108 5, bc BK120 0, bc BK120 1, bc BK120 2, bc BK120 3, bc BK120 4, bc BK120 5⟩ (fun hHeld => ?_)
            clear hK K
            refine nm 62 ?_
            refine pu 21 63 laws_FnWritten.d22 HT_ ?_
            refine pu 22 64 laws_FnWritten.d23 HT_ ?_
            refine pu 23 65 laws_FnWritten.d24 HT_ ?_
            refine dn HT_ ?_
            try go_wp2
            go_ret
            exact ⟨by first | rfl | (simp [ne_nil_isEmpty]; done) | (simp [errW_none, errW_some] <;> rfl) | (simp [*, errW_none, errW_some] <;> rfl), bh⟩
          ·
           rw [if_neg c39] at H
           have c39b0 : decide ((wrap64 (t102 + 400)) < 10000) = false := decide_eq_false c39
           clear c39
           have H' := Aside0.mk H
           clear H
           try go_wp2_with (first | ((with_reducible refine gate_callee (f := 20) rfl ?_); refine goesL_ (some 34) rfl rfl Tryd.func20 (by kernel_rfl) rfl #[.string t109] rfl (by (try simp only [List.map_toArray, List.map_cons, List.map_nil]); first | done | rfl | (simp only [ne_nil_isEmpty]; rfl) | (simp only [List.length_drop, List.length_take]; rfl)) ?_; (with_reducible refine (impl_ReadDate.calls t109 t112 t113 t114 t115 t116 t117 true _ ?side1 A23.out).mono ?_); (case side1 => exact XW.to (XW.stays hX bh) (by decide)); rintro e w71 ⟨rfl, hb⟩; refine ⟨_, rfl, ?_⟩; replace BK108 := bkb_ BK108 hb; replace HB := Aside0.mk (below_step bh hb); (try clear hb); (try clear hb2); (try clear hk); (try clear hi)) | ((with_reducible refine gate_dst (N := 5) rfl ?_); (try (refine gate_guard (by rfl) ?_; dsimp only)); refine bx 5 #[.int .i64 0, .int .i64 0, .int .i64 0, .int .i64 0, .int .i64 0, .int .i64 0] 34 ?_; intro gb119 hg w72 hbox hb; have BK119 := Aside0.mk (hbox); have GW119 := Aside0.mk (bz hg); have GE119 := Aside0.mk (bz hg); have NB108_119 := Aside0.mk ((nl hg bk : gb108 ≠ gb119)); have NB119_108 := Aside0.mk ((ng hg bk : gb119 ≠ gb108)); replace BK108 := bkb_ BK108 hb; replace HB := Aside0.mk (below_step bh hb); clear hb hbox hg; have hnb73 := NB119_108.out; have hnc73 := NB108_119.out; obtain ⟨hcz74_0, hcz74_1, hcz74_2, hcz74_3, hcz74_4, hcz74_5⟩ := zcf6 BK119; obtain ⟨hfz74_0, hfz74_1, hfz74_2, hfz74_3, hfz74_4, hfz74_5⟩ := zff6 BK119; obtain ⟨hcz75_0, hcz75_1, hcz75_2, hcz75_3, hcz75_4, hcz75_5⟩ := zcf6 BK108; obtain ⟨hfz75_0, hfz75_1, hfz75_2, hfz75_3, hfz75_4, hfz75_5⟩ := zff6 BK108) | ((with_reducible refine gate_dst (N := 7) rfl ?_); (try (refine gate_guard (by rfl) ?_; dsimp only)); refine bx 7 #[.int .i64 0, .int .i64 0, .int .i64 0, .int .i64 0, .int .i64 0, .int .i64 0] 34 ?_; intro gb120 hg w76 hbox hb; have BK120 := Aside0.mk (hbox); have GW120 := Aside0.mk (bz hg); have GE120 := Aside0.mk (bz hg); have NB108_120 := Aside0.mk ((by rw [hg]; exact Nat.ne_of_lt (blk_lt (g := gb108) (o := .cells #[.int .i64 t102, .int .i64 t103, .int .i64 t104, .int .i64 t105, .int .i64 t106, .int .i64 t107] 34 (0, 0)) bkf) : gb108 ≠ gb120)); have NB120_108 := Aside0.mk ((by rw [hg]; exact Nat.ne_of_gt (blk_lt (g := gb108) (o := .cells #[.int .i64 t102, .int .i64 t103, .int .i64 t104, .int .i64 t105, .int .i64 t106, .int .i64 t107] 34 (0, 0)) bkf) : gb120 ≠ gb108)); have NB119_120 := Aside0.mk ((by rw [hg]; exact Nat.ne_of_lt (blk_lt (g := gb119) (o := .cells #[.int .i64 t112, .int .i64 t113, .int .i64 t114, .int .i64 t115, .int .i64 t116, .int .i64 t117] 34 (0, 0)) bkp) : gb119 ≠ gb120)); have NB120_119 := Aside0.mk ((by rw [hg]; exact Nat.ne_of_gt (blk_lt (g := gb119) (o := .cells #[.int .i64 t112, .int .i64 t113, .int .i64 t114, .int .i64 t115, .int .i64 t116, .int .i64 t117] 34 (0, 0)) bkp) : gb120 ≠ gb119)); replace BK108 := bkf_ BK108 hb; replace BK119 := Aside0.mk (blk_below (g := gb119) (o := .cells #[.int .i64 t112, .int .i64 t113, .int .i64 t114, .int .i64 t115, .int .i64 t116, .int .i64 t117] 34 (0, 0)) bkp hb); replace HB := Aside0.mk (below_step bh hb); clear hb hbox hg; have hnb77 := NB120_108.out; have hnc77 := NB108_120.out; have hnb78 := NB120_119.out; have hnc78 := NB119_120.out; obtain ⟨hcz79_0, hcz79_1, hcz79_2, hcz79_3, hcz79_4, hcz79_5⟩ := zcf6 BK120; obtain ⟨hfz79_0, hfz79_1, hfz79_2, hfz79_3, hfz79_4, hfz79_5⟩ := zff6 BK120; obtain ⟨hcz80_0, hcz80_1, hcz80_2, hcz80_3, hcz80_4, hcz80_5⟩ := zcf6 BK108; obtain ⟨hfz80_0, hfz80_1, hfz80_2, hfz80_3, hfz80_4, hfz80_5⟩ := zff6 BK108))
           have n0_ : Aside0 ((((((((w76.setCell ⟨gb120, 0, none⟩ (.int .i64 t102)).setCell ⟨gb120, 1, none⟩ (.int .i64 t103)).setCell ⟨gb120, 2, none⟩ (.int .i64 t104)).setCell ⟨gb120, 3, none⟩ (.int .i64 t105)).setCell ⟨gb120, 4, none⟩ (.int .i64 t106)).setCell ⟨gb120, 5, none⟩ (.int .i64 t107)).setCell ⟨gb120, 0, none⟩ (.int .i64 (wrap64 (t102 + 400)))).heap[gb108]? = some (.cells #[.int .i64 t102, .int .i64 t103, .int .i64 t104, .int .i64 t105, .int .i64 t106, .int .i64 t107] 34 (0, 0))) := ⟨bkp⟩
           have n1_ : Aside0 ((((((((w76.setCell ⟨gb120, 0, none⟩ (.int .i64 t102)).setCell ⟨gb120, 1, none⟩ (.int .i64 t103)).setCell ⟨gb120, 2, none⟩ (.int .i64 t104)).setCell ⟨gb120, 3, none⟩ (.int .i64 t105)).setCell ⟨gb120, 4, none⟩ (.int .i64 t106)).setCell ⟨gb120, 5, none⟩ (.int .i64 t107)).setCell ⟨gb120, 0, none⟩ (.int .i64 (wrap64 (t102 + 400)))).heap[gb119]? = some (.cells #[.int .i64 t112, .int .i64 t113, .int .i64 t114, .int .i64 t115, .int .i64 t116, .int .i64 t117] 34 (0, 0))) := ⟨bkp⟩
           have n2_ : Aside0 ((((((((w76.setCell ⟨gb120, 0, none⟩ (.int .i64 t102)).setCell ⟨gb120, 1, none⟩ (.int .i64 t103)).setCell ⟨gb120, 2, none⟩ (.int .i64 t104)).setCell ⟨gb120, 3, none⟩ (.int .i64 t105)).setCell ⟨gb120, 4, none⟩ (.int .i64 t106)).setCell ⟨gb120, 5, none⟩ (.int .i64 t107)).setCell ⟨gb120, 0, none⟩ (.int .i64 (wrap64 (t102 + 400)))).heap[gb120]? = some (.cells #[.int .i64 (wrap64 (t102 + 400)), .int .i64 t103, .int .i64 t104, .int .i64 t105, .int .i64 t106, .int .i64 t107] 34 (0, 0))) := ⟨by (with_reducible repeat (first | refine blk_drewN ?_ _ | refine blk_drew ?_ | refine blk_alloc ?_ _)); refine blk_put (cs := #[.int .i64 t102, .int .i64 t103, .int .i64 t104, .int .i64 t105, .int .i64 t106, .int .i64 t107]) ?_ 0 _ rfl; (with_reducible repeat (first | refine blk_drewN ?_ _ | refine blk_drew ?_ | refine blk_alloc ?_ _)); refine blk_put (cs := #[.int .i64 t102, .int .i64 t103, .int .i64 t104, .int .i64 t105, .int .i64 t106, .int .i64 0]) ?_ 5 _ rfl; (with_reducible repeat (first | refine blk_drewN ?_ _ | refine blk_drew ?_ | refine blk_alloc ?_ _)); refine blk_put (cs := #[.int .i64 t102, .int .i64 t103, .int .i64 t104, .int .i64 t105, .int .i64 0, .int .i64 0]) ?_ 4 _ rfl; (with_reducible repeat (first | refine blk_drewN ?_ _ | refine blk_drew ?_ | refine blk_alloc ?_ _)); refine blk_put (cs := #[.int .i64 t102, .int .i64 t103, .int .i64 t104, .int .i64 0, .int .i64 0, .int .i64 0]) ?_ 3 _ rfl; (with_reducible repeat (first | refine blk_drewN ?_ _ | refine blk_drew ?_ | refine blk_alloc ?_ _)); refine blk_put (cs := #[.int .i64 t102, .int .i64 t103, .int .i64 0, .int .i64 0, .int .i64 0, .int .i64 0]) ?_ 2 _ rfl; (with_reducible repeat (first | refine blk_drewN ?_ _ | refine blk_drew ?_ | refine blk_alloc ?_ _)); refine blk_put (cs := #[.int .i64 t102, .int .i64 0, .int .i64 0, .int .i64 0, .int .i64 0, .int .i64 0]) ?_ 1 _ rfl; (with_reducible repeat (first | refine blk_drewN ?_ _ | refine blk_drew ?_ | refine blk_alloc ?_ _)); refine blk_put (cs := #[.int .i64 0, .int .i64 0, .int .i64 0, .int .i64 0, .int .i64 0, .int .i64 0]) ?_ 0 _ rfl; (with_reducible repeat (first | refine blk_drewN ?_ _ | refine blk_drew ?_ | refine blk_alloc ?_ _)); exact BK120.out⟩
           have n3_ : Aside0 (Below w.heap.size w (((((((w76.setCell ⟨gb120, 0, none⟩ (.int .i64 t102)).setCell ⟨gb120, 1, none⟩ (.int .i64 t103)).setCell ⟨gb120, 2, none⟩ (.int .i64 t104)).setCell ⟨gb120, 3, none⟩ (.int .i64 t105)).setCell ⟨gb120, 4, none⟩ (.int .i64 t106)).setCell ⟨gb120, 5, none⟩ (.int .i64 t107)).setCell ⟨gb120, 0, none⟩ (.int .i64 (wrap64 (t102 + 400))))) := ⟨bh⟩
           (try clear BK108)
           (try clear BK119)
           (try clear BK120)
           (try clear HB)
           generalize (((((((w76.setCell ⟨gb120, 0, none⟩ (.int .i64 t102)).setCell ⟨gb120, 1, none⟩ (.int .i64 t103)).setCell ⟨gb120, 2, none⟩ (.int .i64 t104)).setCell ⟨gb120, 3, none⟩ (.int .i64 t105)).setCell ⟨gb120, 4, none⟩ (.int .i64 t106)).setCell ⟨gb120, 5, none⟩ (.int .i64 t107)).setCell ⟨gb120, 0, none⟩ (.int .i64 (wrap64 (t102 + 400)))) = w81 at n0_ n1_ n2_ n3_ ⊢
           have BK108 := n0_
           have BK119 := n1_
           have BK120 := n2_
           have HB := n3_
           clear n0_ n1_ n2_ n3_
           replace BK108 := Aside0.mk (blk_drew BK108.out)
           replace BK119 := Aside0.mk (blk_drew BK119.out)
           replace BK120 := Aside0.mk (blk_drew BK120.out)
           replace HB := Aside0.mk (below_drew1 HB.out)
           refine start_ (n := 24) (S := fun w' => w'.cell? ⟨gb119, 0, none⟩ = some (.int .i64 t112) ∧ w'.cell? ⟨gb119, 1, none⟩ = some (.int .i64 t113) ∧ w'.cell? ⟨gb119, 2, none⟩ = some (.int .i64 t114) ∧ w'.cell? ⟨gb119, 3, none⟩ = some (.int .i64 t115) ∧ w'.cell? ⟨gb119, 4, none⟩ = some (.int .i64 t116) ∧ w'.cell? ⟨gb119, 5, none⟩ = some (.int .i64 t117) ∧ w'.cell? ⟨gb108, 0, none⟩ = some (.int .i64 t102) ∧ w'.cell? ⟨gb108, 1, none⟩ = some (.int .i64 t103) ∧ w'.cell? ⟨gb108, 2, none⟩ = some (.int .i64 t104) ∧ w'.cell? ⟨gb108, 3, none⟩ = some (.int .i64 t105) ∧ w'.cell? ⟨gb108, 4, none⟩ = some (.int .i64 t106) ∧ w'.cell? ⟨gb108, 5, none⟩ = some (.int .i64 t107) ∧ w'.cell? ⟨gb120, 0, none⟩ = some (.int .i64 (wrap64 (t102 + 400))) ∧ w'.cell? ⟨gb120, 1, none⟩ = some (.int .i64 t103) ∧ w'.cell? ⟨gb120, 2, none⟩ = some (.int .i64 t104) ∧ w'.cell? ⟨gb120, 3, none⟩ = some (.int .i64 t105) ∧ w'.cell? ⟨gb120, 4, none⟩ = some (.int .i64 t106) ∧ w'.cell? ⟨gb120, 5, none⟩ = some (.int .i64 t107)) (ds := []) laws_FnWritten.d0 (by kernel_rfl) rfl rfl ⟨bc BK119 0, bc BK119 1, bc BK119 2, bc BK119 3, bc BK119 4, bc BK119 5, bc BK108 0, bc BK108 1, bc BK108 2, bc BK108 3, bc BK108 4, bc BK108 5, bc BK120 0, bc BK120 1, bc BK120 2, bc BK120 3, bc BK120 4, bc BK120 5⟩ (fun hHeld => ?_); refine with_tabW laws_FnWritten.tab11 laws_FnWritten.bits11 (fun HT_ HW_ => ?_)
           generalize w81.drew = w82 at BK108 BK119 BK120 HB hHeld ⊢
           refine pu 0 42 laws_FnWritten.d1 HT_ ?_
           refine pu 1 43 laws_FnWritten.d2 HT_ ?_
           refine pu 2 44 laws_FnWritten.d3 HT_ ?_
           refine tk 3 45 laws_FnWritten.d4 HT_ HW_ hHeld ?_
           refine tk 4 46 laws_FnWritten.d5 HT_ HW_ hHeld ?_
           refine pu 5 47 laws_FnWritten.d6 HT_ ?_
           refine pu 6 48 laws_FnWritten.d7 HT_ ?_
           refine pu 7 49 laws_FnWritten.d8 HT_ ?_
           refine pu 8 50 laws_FnWritten.d9 HT_ ?_
           refine pu 9 51 laws_FnWritten.d10 HT_ ?_
           refine pu 10 52 laws_FnWritten.d11 HT_ ?_
           refine pu 11 53 laws_FnWritten.d12 HT_ ?_
           refine pu 12 54 laws_FnWritten.d13 HT_ ?_
           refine pu 13 55 laws_FnWritten.d14 HT_ ?_
           refine tk 14 56 laws_FnWritten.d15 HT_ HW_ hHeld ?_
           refine pu 15 57 laws_FnWritten.d16 HT_ ?_
           refine pu 16 58 laws_FnWritten.d17 HT_ ?_
           refine un 17 59 laws_FnWritten.d18 HT_ ?_
           refine un 18 60 laws_FnWritten.d19 HT_ ?_
           refine un 19 61 laws_FnWritten.d20 HT_ ?_
           refine un 20 62 laws_FnWritten.d21 HT_ ?_
           refine un 21 63 laws_FnWritten.d22 HT_ ?_
           refine pu 22 64 laws_FnWritten.d23 HT_ ?_
           refine pu 23 65 laws_FnWritten.d24 HT_ ?_
           refine dn HT_ ?_
           try go_wp2
           go_meet
           case rel => exact ⟨_, H', ⟨by have := HJ5.out; first | omega | exact Nat.le_refl _⟩, ⟨bk⟩, ⟨bh⟩⟩
         ·
          rw [if_neg c38] at H
          have c38b0 : ((t109.size : Int) == 29) = false := beq_eq_false_iff_ne.mpr c38
          have c38b1 : ((t109.size : Int) != 29) = true := bne_iff_ne.mpr c38
          obtain rfl := Option.some.inj H
          try go_wp2_with (first | ((with_reducible refine gate_callee (f := 20) rfl ?_); refine goesL_ (some 34) rfl rfl Tryd.func20 (by kernel_rfl) rfl #[.string t109] rfl (by (try simp only [List.map_toArray, List.map_cons, List.map_nil]); first | done | rfl | (simp only [ne_nil_isEmpty]; rfl) | (simp only [List.length_drop, List.length_take]; rfl)) ?_; (with_reducible refine (impl_ReadDate.calls t109 t112 t113 t114 t115 t116 t117 true _ ?side1 A23.out).mono ?_); (case side1 => exact XW.to (XW.stays hX bh) (by decide)); rintro e w83 ⟨rfl, hb⟩; refine ⟨_, rfl, ?_⟩; replace BK108 := bkb_ BK108 hb; replace HB := Aside0.mk (below_step bh hb); (try clear hb); (try clear hb2); (try clear hk); (try clear hi)) | ((with_reducible refine gate_dst (N := 5) rfl ?_); (try (refine gate_guard (by rfl) ?_; dsimp only)); refine bx 5 #[.int .i64 0, .int .i64 0, .int .i64 0, .int .i64 0, .int .i64 0, .int .i64 0] 34 ?_; intro gb119 hg w84 hbox hb; have BK119 := Aside0.mk (hbox); have GW119 := Aside0.mk (bz hg); have GE119 := Aside0.mk (bz hg); have NB108_119 := Aside0.mk ((nl hg bk : gb108 ≠ gb119)); have NB119_108 := Aside0.mk ((ng hg bk : gb119 ≠ gb108)); replace BK108 := bkb_ BK108 hb; replace HB := Aside0.mk (below_step bh hb); clear hb hbox hg; have hnb85 := NB119_108.out; have hnc85 := NB108_119.out; obtain ⟨hcz86_0, hcz86_1, hcz86_2, hcz86_3, hcz86_4, hcz86_5⟩ := zcf6 BK119; obtain ⟨hfz86_0, hfz86_1, hfz86_2, hfz86_3, hfz86_4, hfz86_5⟩ := zff6 BK119; obtain ⟨hcz87_0, hcz87_1, hcz87_2, hcz87_3, hcz87_4, hcz87_5⟩ := zcf6 BK108; obtain ⟨hfz87_0, hfz87_1, hfz87_2, hfz87_3, hfz87_4, hfz87_5⟩ := zff6 BK108) | ((with_reducible refine gate_dst (N := 7) rfl ?_); (try (refine gate_guard (by rfl) ?_; dsimp only)); refine bx 7 #[.int .i64 0, .int .i64 0, .int .i64 0, .int .i64 0, .int .i64 0, .int .i64 0] 34 ?_; intro gb120 hg w88 hbox hb; have BK120 := Aside0.mk (hbox); have GW120 := Aside0.mk (bz hg); have GE120 := Aside0.mk (bz hg); have NB108_120 := Aside0.mk ((by rw [hg]; exact Nat.ne_of_lt (blk_lt (g := gb108) (o := .cells #[.int .i64 t102, .int .i64 t103, .int .i64 t104, .int .i64 t105, .int .i64 t106, .int .i64 t107] 34 (0, 0)) bkf) : gb108 ≠ gb120)); have NB120_108 := Aside0.mk ((by rw [hg]; exact Nat.ne_of_gt (blk_lt (g := gb108) (o := .cells #[.int .i64 t102, .int .i64 t103, .int .i64 t104, .int .i64 t105, .int .i64 t106, .int .i64 t107] 34 (0, 0)) bkf) : gb120 ≠ gb108)); have NB119_120 := Aside0.mk ((by rw [hg]; exact Nat.ne_of_lt (blk_lt (g := gb119) (o := .cells #[.int .i64 t112, .int .i64 t113, .int .i64 t114, .int .i64 t115, .int .i64 t116, .int .i64 t117] 34 (0, 0)) bkp) : gb119 ≠ gb120)); have NB120_119 := Aside0.mk ((by rw [hg]; exact Nat.ne_of_gt (blk_lt (g := gb119) (o := .cells #[.int .i64 t112, .int .i64 t113, .int .i64 t114, .int .i64 t115, .int .i64 t116, .int .i64 t117] 34 (0, 0)) bkp) : gb120 ≠ gb119)); replace BK108 := bkf_ BK108 hb; replace BK119 := Aside0.mk (blk_below (g := gb119) (o := .cells #[.int .i64 t112, .int .i64 t113, .int .i64 t114, .int .i64 t115, .int .i64 t116, .int .i64 t117] 34 (0, 0)) bkp hb); replace HB := Aside0.mk (below_step bh hb); clear hb hbox hg; have hnb89 := NB120_108.out; have hnc89 := NB108_120.out; have hnb90 := NB120_119.out; have hnc90 := NB119_120.out; obtain ⟨hcz91_0, hcz91_1, hcz91_2, hcz91_3, hcz91_4, hcz91_5⟩ := zcf6 BK120; obtain ⟨hfz91_0, hfz91_1, hfz91_2, hfz91_3, hfz91_4, hfz91_5⟩ := zff6 BK120; obtain ⟨hcz92_0, hcz92_1, hcz92_2, hcz92_3, hcz92_4, hcz92_5⟩ := zcf6 BK108; obtain ⟨hfz92_0, hfz92_1, hfz92_2, hfz92_3, hfz92_4, hfz92_5⟩ := zff6 BK108))
          have n0_ : Aside0 ((((((((w88.setCell ⟨gb120, 0, none⟩ (.int .i64 t102)).setCell ⟨gb120, 1, none⟩ (.int .i64 t103)).setCell ⟨gb120, 2, none⟩ (.int .i64 t104)).setCell ⟨gb120, 3, none⟩ (.int .i64 t105)).setCell ⟨gb120, 4, none⟩ (.int .i64 t106)).setCell ⟨gb120, 5, none⟩ (.int .i64 t107)).setCell ⟨gb120, 0, none⟩ (.int .i64 (wrap64 (t102 + 400)))).heap[gb108]? = some (.cells #[.int .i64 t102, .int .i64 t103, .int .i64 t104, .int .i64 t105, .int .i64 t106, .int .i64 t107] 34 (0, 0))) := ⟨bkp⟩
          have n1_ : Aside0 ((((((((w88.setCell ⟨gb120, 0, none⟩ (.int .i64 t102)).setCell ⟨gb120, 1, none⟩ (.int .i64 t103)).setCell ⟨gb120, 2, none⟩ (.int .i64 t104)).setCell ⟨gb120, 3, none⟩ (.int .i64 t105)).setCell ⟨gb120, 4, none⟩ (.int .i64 t106)).setCell ⟨gb120, 5, none⟩ (.int .i64 t107)).setCell ⟨gb120, 0, none⟩ (.int .i64 (wrap64 (t102 + 400)))).heap[gb119]? = some (.cells #[.int .i64 t112, .int .i64 t113, .int .i64 t114, .int .i64 t115, .int .i64 t116, .int .i64 t117] 34 (0, 0))) := ⟨bkp⟩
          have n2_ : Aside0 ((((((((w88.setCell ⟨gb120, 0, none⟩ (.int .i64 t102)).setCell ⟨gb120, 1, none⟩ (.int .i64 t103)).setCell ⟨gb120, 2, none⟩ (.int .i64 t104)).setCell ⟨gb120, 3, none⟩ (.int .i64 t105)).setCell ⟨gb120, 4, none⟩ (.int .i64 t106)).setCell ⟨gb120, 5, none⟩ (.int .i64 t107)).setCell ⟨gb120, 0, none⟩ (.int .i64 (wrap64 (t102 + 400)))).heap[gb120]? = some (.cells #[.int .i64 (wrap64 (t102 + 400)), .int .i64 t103, .int .i64 t104, .int .i64 t105, .int .i64 t106, .int .i64 t107] 34 (0, 0))) := ⟨by (with_reducible repeat (first | refine blk_drewN ?_ _ | refine blk_drew ?_ | refine blk_alloc ?_ _)); refine blk_put (cs := #[.int .i64 t102, .int .i64 t103, .int .i64 t104, .int .i64 t105, .int .i64 t106, .int .i64 t107]) ?_ 0 _ rfl; (with_reducible repeat (first | refine blk_drewN ?_ _ | refine blk_drew ?_ | refine blk_alloc ?_ _)); refine blk_put (cs := #[.int .i64 t102, .int .i64 t103, .int .i64 t104, .int .i64 t105, .int .i64 t106, .int .i64 0]) ?_ 5 _ rfl; (with_reducible repeat (first | refine blk_drewN ?_ _ | refine blk_drew ?_ | refine blk_alloc ?_ _)); refine blk_put (cs := #[.int .i64 t102, .int .i64 t103, .int .i64 t104, .int .i64 t105, .int .i64 0, .int .i64 0]) ?_ 4 _ rfl; (with_reducible repeat (first | refine blk_drewN ?_ _ | refine blk_drew ?_ | refine blk_alloc ?_ _)); refine blk_put (cs := #[.int .i64 t102, .int .i64 t103, .int .i64 t104, .int .i64 0, .int .i64 0, .int .i64 0]) ?_ 3 _ rfl; (with_reducible repeat (first | refine blk_drewN ?_ _ | refine blk_drew ?_ | refine blk_alloc ?_ _)); refine blk_put (cs := #[.int .i64 t102, .int .i64 t103, .int .i64 0, .int .i64 0, .int .i64 0, .int .i64 0]) ?_ 2 _ rfl; (with_reducible repeat (first | refine blk_drewN ?_ _ | refine blk_drew ?_ | refine blk_alloc ?_ _)); refine blk_put (cs := #[.int .i64 t102, .int .i64 0, .int .i64 0, .int .i64 0, .int .i64 0, .int .i64 0]) ?_ 1 _ rfl; (with_reducible repeat (first | refine blk_drewN ?_ _ | refine blk_drew ?_ | refine blk_alloc ?_ _)); refine blk_put (cs := #[.int .i64 0, .int .i64 0, .int .i64 0, .int .i64 0, .int .i64 0, .int .i64 0]) ?_ 0 _ rfl; (with_reducible repeat (first | refine blk_drewN ?_ _ | refine blk_drew ?_ | refine blk_alloc ?_ _)); exact BK120.out⟩
          have n3_ : Aside0 (Below w.heap.size w (((((((w88.setCell ⟨gb120, 0, none⟩ (.int .i64 t102)).setCell ⟨gb120, 1, none⟩ (.int .i64 t103)).setCell ⟨gb120, 2, none⟩ (.int .i64 t104)).setCell ⟨gb120, 3, none⟩ (.int .i64 t105)).setCell ⟨gb120, 4, none⟩ (.int .i64 t106)).setCell ⟨gb120, 5, none⟩ (.int .i64 t107)).setCell ⟨gb120, 0, none⟩ (.int .i64 (wrap64 (t102 + 400))))) := ⟨bh⟩
          (try clear BK108)
          (try clear BK119)
          (try clear BK120)
          (try clear HB)
          generalize (((((((w88.setCell ⟨gb120, 0, none⟩ (.int .i64 t102)).setCell ⟨gb120, 1, none⟩ (.int .i64 t103)).setCell ⟨gb120, 2, none⟩ (.int .i64 t104)).setCell ⟨gb120, 3, none⟩ (.int .i64 t105)).setCell ⟨gb120, 4, none⟩ (.int .i64 t106)).setCell ⟨gb120, 5, none⟩ (.int .i64 t107)).setCell ⟨gb120, 0, none⟩ (.int .i64 (wrap64 (t102 + 400)))) = w93 at n0_ n1_ n2_ n3_ ⊢
          have BK108 := n0_
          have BK119 := n1_
          have BK120 := n2_
          have HB := n3_
          clear n0_ n1_ n2_ n3_
          replace BK108 := Aside0.mk (blk_drew BK108.out)
          replace BK119 := Aside0.mk (blk_drew BK119.out)
          replace BK120 := Aside0.mk (blk_drew BK120.out)
          replace HB := Aside0.mk (below_drew1 HB.out)
          refine start_ (n := 24) (S := fun w' => w'.cell? ⟨gb119, 0, none⟩ = some (.int .i64 t112) ∧ w'.cell? ⟨gb119, 1, none⟩ = some (.int .i64 t113) ∧ w'.cell? ⟨gb119, 2, none⟩ = some (.int .i64 t114) ∧ w'.cell? ⟨gb119, 3, none⟩ = some (.int .i64 t115) ∧ w'.cell? ⟨gb119, 4, none⟩ = some (.int .i64 t116) ∧ w'.cell? ⟨gb119, 5, none⟩ = some (.int .i64 t117) ∧ w'.cell? ⟨gb108, 0, none⟩ = some (.int .i64 t102) ∧ w'.cell? ⟨gb108, 1, none⟩ = some (.int .i64 t103) ∧ w'.cell? ⟨gb108, 2, none⟩ = some (.int .i64 t104) ∧ w'.cell? ⟨gb108, 3, none⟩ = some (.int .i64 t105) ∧ w'.cell? ⟨gb108, 4, none⟩ = some (.int .i64 t106) ∧ w'.cell? ⟨gb108, 5, none⟩ = some (.int .i64 t107)) (ds := []) laws_FnWritten.d0 (by kernel_rfl) rfl rfl ⟨bc BK119 0, bc BK119 1, bc BK119 2, bc BK119 3, bc BK119 4, bc BK119 5, bc BK108 0, bc BK108 1, bc BK108 2, bc BK108 3, bc BK108 4, bc BK108 5⟩ (fun hHeld => ?_); refine with_tabW laws_FnWritten.tab11 laws_FnWritten.bits11 (fun HT_ HW_ => ?_)
          generalize w93.drew = w94 at BK108 BK119 BK120 HB hHeld ⊢
          refine pu 0 42 laws_FnWritten.d1 HT_ ?_
          refine pu 1 43 laws_FnWritten.d2 HT_ ?_
          refine pu 2 44 laws_FnWritten.d3 HT_ ?_
          refine tk 3 45 laws_FnWritten.d4 HT_ HW_ hHeld ?_
          refine tk 4 46 laws_FnWritten.d5 HT_ HW_ hHeld ?_
          refine pu 5 47 laws_FnWritten.d6 HT_ ?_
          refine pu 6 48 laws_FnWritten.d7 HT_ ?_
          refine pu 7 49 laws_FnWritten.d8 HT_ ?_
          refine pu 8 50 laws_FnWritten.d9 HT_ ?_
          refine pu 9 51 laws_FnWritten.d10 HT_ ?_
          refine pu 10 52 laws_FnWritten.d11 HT_ ?_
          refine pu 11 53 laws_FnWritten.d12 HT_ ?_
          refine pu 12 54 laws_FnWritten.d13 HT_ ?_
          refine un 13 55 laws_FnWritten.d14 HT_ ?_
          refine un 14 56 laws_FnWritten.d15 HT_ ?_
          refine un 15 57 laws_FnWritten.d16 HT_ ?_
          refine un 16 58 laws_FnWritten.d17 HT_ ?_
          refine un 17 59 laws_FnWritten.d18 HT_ ?_
          refine un 18 60 laws_FnWritten.d19 HT_ ?_
          refine un 19 61 laws_FnWritten.d20 HT_ ?_
          refine un 20 62 laws_FnWritten.d21 HT_ ?_
          refine un 21 63 laws_FnWritten.d22 HT_ ?_
          refine un 22 64 laws_FnWritten.d23 HT_ ?_
          refine pu 23 65 laws_FnWritten.d24 HT_ ?_
          refine dn HT_ ?_
          try go_wp2
          go_ret
          exact ⟨by first | rfl | (simp [ne_nil_isEmpty]; done) | (simp [errW_none, errW_some] <;> rfl) | (simp [*, errW_none, errW_some] <;> rfl), bh⟩
       ·
        replace c24 := Bool.eq_false_iff.mpr c24
        subst c24
        have H1 : (some false) = some r := by rw [if_neg (show ¬ (false = true) by decide)] at H; exact H
        clear H
        have H := H1
        clear H1
        obtain rfl := Option.some.inj H
        try go_wp2_with (first | ((with_reducible refine gate_callee (f := 20) rfl ?_); refine goesL_ (some 34) rfl rfl Tryd.func20 (by kernel_rfl) rfl #[.string t109] rfl (by (try simp only [List.map_toArray, List.map_cons, List.map_nil]); first | done | rfl | (simp only [ne_nil_isEmpty]; rfl) | (simp only [List.length_drop, List.length_take]; rfl)) ?_; (with_reducible refine (impl_ReadDate.calls t109 t112 t113 t114 t115 t116 t117 false _ ?side1 A23.out).mono ?_); (case side1 => exact XW.to (XW.stays hX bh) (by decide)); rintro e w95 ⟨rfl, hb⟩; refine ⟨_, rfl, ?_⟩; replace BK108 := bkb_ BK108 hb; replace HB := Aside0.mk (below_step bh hb); (try clear hb); (try clear hb2); (try clear hk); (try clear hi)) | ((with_reducible refine gate_dst (N := 5) rfl ?_); (try (refine gate_guard (by rfl) ?_; dsimp only)); refine bx 5 #[.int .i64 0, .int .i64 0, .int .i64 0, .int .i64 0, .int .i64 0, .int .i64 0] 34 ?_; intro gb119 hg w96 hbox hb; have BK119 := Aside0.mk (hbox); have GW119 := Aside0.mk (bz hg); have GE119 := Aside0.mk (bz hg); have NB108_119 := Aside0.mk ((nl hg bk : gb108 ≠ gb119)); have NB119_108 := Aside0.mk ((ng hg bk : gb119 ≠ gb108)); replace BK108 := bkb_ BK108 hb; replace HB := Aside0.mk (below_step bh hb); clear hb hbox hg; have hnb97 := NB119_108.out; have hnc97 := NB108_119.out; obtain ⟨hcz98_0, hcz98_1, hcz98_2, hcz98_3, hcz98_4, hcz98_5⟩ := zcf6 BK119; obtain ⟨hfz98_0, hfz98_1, hfz98_2, hfz98_3, hfz98_4, hfz98_5⟩ := zff6 BK119; obtain ⟨hcz99_0, hcz99_1, hcz99_2, hcz99_3, hcz99_4, hcz99_5⟩ := zcf6 BK108; obtain ⟨hfz99_0, hfz99_1, hfz99_2, hfz99_3, hfz99_4, hfz99_5⟩ := zff6 BK108) | ((with_reducible refine gate_dst (N := 7) rfl ?_); (try (refine gate_guard (by rfl) ?_; dsimp only)); refine bx 7 #[.int .i64 0, .int .i64 0, .int .i64 0, .int .i64 0, .int .i64 0, .int .i64 0] 34 ?_; intro gb120 hg w100 hbox hb; have BK120 := Aside0.mk (hbox); have GW120 := Aside0.mk (bz hg); have GE120 := Aside0.mk (bz hg); have NB108_120 := Aside0.mk ((by rw [hg]; exact Nat.ne_of_lt (blk_lt (g := gb108) (o := .cells #[.int .i64 t102, .int .i64 t103, .int .i64 t104, .int .i64 t105, .int .i64 t106, .int .i64 t107] 34 (0, 0)) bkf) : gb108 ≠ gb120)); have NB120_108 := Aside0.mk ((by rw [hg]; exact Nat.ne_of_gt (blk_lt (g := gb108) (o := .cells #[.int .i64 t102, .int .i64 t103, .int .i64 t104, .int .i64 t105, .int .i64 t106, .int .i64 t107] 34 (0, 0)) bkf) : gb120 ≠ gb108)); have NB119_120 := Aside0.mk ((by rw [hg]; exact Nat.ne_of_lt (blk_lt (g := gb119) (o := .cells #[.int .i64 t112, .int .i64 t113, .int .i64 t114, .int .i64 t115, .int .i64 t116, .int .i64 t117] 34 (0, 0)) bkp) : gb119 ≠ gb120)); have NB120_119 := Aside0.mk ((by rw [hg]; exact Nat.ne_of_gt (blk_lt (g := gb119) (o := .cells #[.int .i64 t112, .int .i64 t113, .int .i64 t114, .int .i64 t115, .int .i64 t116, .int .i64 t117] 34 (0, 0)) bkp) : gb120 ≠ gb119)); replace BK108 := bkf_ BK108 hb; replace BK119 := Aside0.mk (blk_below (g := gb119) (o := .cells #[.int .i64 t112, .int .i64 t113, .int .i64 t114, .int .i64 t115, .int .i64 t116, .int .i64 t117] 34 (0, 0)) bkp hb); replace HB := Aside0.mk (below_step bh hb); clear hb hbox hg; have hnb101 := NB120_108.out; have hnc101 := NB108_120.out; have hnb102 := NB120_119.out; have hnc102 := NB119_120.out; obtain ⟨hcz103_0, hcz103_1, hcz103_2, hcz103_3, hcz103_4, hcz103_5⟩ := zcf6 BK120; obtain ⟨hfz103_0, hfz103_1, hfz103_2, hfz103_3, hfz103_4, hfz103_5⟩ := zff6 BK120; obtain ⟨hcz104_0, hcz104_1, hcz104_2, hcz104_3, hcz104_4, hcz104_5⟩ := zcf6 BK108; obtain ⟨hfz104_0, hfz104_1, hfz104_2, hfz104_3, hfz104_4, hfz104_5⟩ := zff6 BK108))
        have n0_ : Aside0 ((((((((w100.setCell ⟨gb120, 0, none⟩ (.int .i64 t102)).setCell ⟨gb120, 1, none⟩ (.int .i64 t103)).setCell ⟨gb120, 2, none⟩ (.int .i64 t104)).setCell ⟨gb120, 3, none⟩ (.int .i64 t105)).setCell ⟨gb120, 4, none⟩ (.int .i64 t106)).setCell ⟨gb120, 5, none⟩ (.int .i64 t107)).setCell ⟨gb120, 0, none⟩ (.int .i64 (wrap64 (t102 + 400)))).heap[gb108]? = some (.cells #[.int .i64 t102, .int .i64 t103, .int .i64 t104, .int .i64 t105, .int .i64 t106, .int .i64 t107] 34 (0, 0))) := ⟨bkp⟩
        have n1_ : Aside0 ((((((((w100.setCell ⟨gb120, 0, none⟩ (.int .i64 t102)).setCell ⟨gb120, 1, none⟩ (.int .i64 t103)).setCell ⟨gb120, 2, none⟩ (.int .i64 t104)).setCell ⟨gb120, 3, none⟩ (.int .i64 t105)).setCell ⟨gb120, 4, none⟩ (.int .i64 t106)).setCell ⟨gb120, 5, none⟩ (.int .i64 t107)).setCell ⟨gb120, 0, none⟩ (.int .i64 (wrap64 (t102 + 400)))).heap[gb119]? = some (.cells #[.int .i64 t112, .int .i64 t113, .int .i64 t114, .int .i64 t115, .int .i64 t116, .int .i64 t117] 34 (0, 0))) := ⟨bkp⟩
        have n2_ : Aside0 ((((((((w100.setCell ⟨gb120, 0, none⟩ (.int .i64 t102)).setCell ⟨gb120, 1, none⟩ (.int .i64 t103)).setCell ⟨gb120, 2, none⟩ (.int .i64 t104)).setCell ⟨gb120, 3, none⟩ (.int .i64 t105)).setCell ⟨gb120, 4, none⟩ (.int .i64 t106)).setCell ⟨gb120, 5, none⟩ (.int .i64 t107)).setCell ⟨gb120, 0, none⟩ (.int .i64 (wrap64 (t102 + 400)))).heap[gb120]? = some (.cells #[.int .i64 (wrap64 (t102 + 400)), .int .i64 t103, .int .i64 t104, .int .i64 t105, .int .i64 t106, .int .i64 t107] 34 (0, 0))) := ⟨by (with_reducible repeat (first | refine blk_drewN ?_ _ | refine blk_drew ?_ | refine blk_alloc ?_ _)); refine blk_put (cs := #[.int .i64 t102, .int .i64 t103, .int .i64 t104, .int .i64 t105, .int .i64 t106, .int .i64 t107]) ?_ 0 _ rfl; (with_reducible repeat (first | refine blk_drewN ?_ _ | refine blk_drew ?_ | refine blk_alloc ?_ _)); refine blk_put (cs := #[.int .i64 t102, .int .i64 t103, .int .i64 t104, .int .i64 t105, .int .i64 t106, .int .i64 0]) ?_ 5 _ rfl; (with_reducible repeat (first | refine blk_drewN ?_ _ | refine blk_drew ?_ | refine blk_alloc ?_ _)); refine blk_put (cs := #[.int .i64 t102, .int .i64 t103, .int .i64 t104, .int .i64 t105, .int .i64 0, .int .i64 0]) ?_ 4 _ rfl; (with_reducible repeat (first | refine blk_drewN ?_ _ | refine blk_drew ?_ | refine blk_alloc ?_ _)); refine blk_put (cs := #[.int .i64 t102, .int .i64 t103, .int .i64 t104, .int .i64 0, .int .i64 0, .int .i64 0]) ?_ 3 _ rfl; (with_reducible repeat (first | refine blk_drewN ?_ _ | refine blk_drew ?_ | refine blk_alloc ?_ _)); refine blk_put (cs := #[.int .i64 t102, .int .i64 t103, .int .i64 0, .int .i64 0, .int .i64 0, .int .i64 0]) ?_ 2 _ rfl; (with_reducible repeat (first | refine blk_drewN ?_ _ | refine blk_drew ?_ | refine blk_alloc ?_ _)); refine blk_put (cs := #[.int .i64 t102, .int .i64 0, .int .i64 0, .int .i64 0, .int .i64 0, .int .i64 0]) ?_ 1 _ rfl; (with_reducible repeat (first | refine blk_drewN ?_ _ | refine blk_drew ?_ | refine blk_alloc ?_ _)); refine blk_put (cs := #[.int .i64 0, .int .i64 0, .int .i64 0, .int .i64 0, .int .i64 0, .int .i64 0]) ?_ 0 _ rfl; (with_reducible repeat (first | refine blk_drewN ?_ _ | refine blk_drew ?_ | refine blk_alloc ?_ _)); exact BK120.out⟩
        have n3_ : Aside0 (Below w.heap.size w (((((((w100.setCell ⟨gb120, 0, none⟩ (.int .i64 t102)).setCell ⟨gb120, 1, none⟩ (.int .i64 t103)).setCell ⟨gb120, 2, none⟩ (.int .i64 t104)).setCell ⟨gb120, 3, none⟩ (.int .i64 t105)).setCell ⟨gb120, 4, none⟩ (.int .i64 t106)).setCell ⟨gb120, 5, none⟩ (.int .i64 t107)).setCell ⟨gb120, 0, none⟩ (.int .i64 (wrap64 (t102 + 400))))) := ⟨bh⟩
        (try clear BK108)
        (try clear BK119)
        (try clear BK120)
        (try clear HB)
        generalize (((((((w100.setCell ⟨gb120, 0, none⟩ (.int .i64 t102)).setCell ⟨gb120, 1, none⟩ (.int .i64 t103)).setCell ⟨gb120, 2, none⟩ (.int .i64 t104)).setCell ⟨gb120, 3, none⟩ (.int .i64 t105)).setCell ⟨gb120, 4, none⟩ (.int .i64 t106)).setCell ⟨gb120, 5, none⟩ (.int .i64 t107)).setCell ⟨gb120, 0, none⟩ (.int .i64 (wrap64 (t102 + 400)))) = w105 at n0_ n1_ n2_ n3_ ⊢
        have BK108 := n0_
        have BK119 := n1_
        have BK120 := n2_
        have HB := n3_
        clear n0_ n1_ n2_ n3_
        replace BK108 := Aside0.mk (blk_drew BK108.out)
        replace BK119 := Aside0.mk (blk_drew BK119.out)
        replace BK120 := Aside0.mk (blk_drew BK120.out)
        replace HB := Aside0.mk (below_drew1 HB.out)
        refine start_ (n := 24) (S := fun w' => True) (ds := []) laws_FnWritten.d0 (by kernel_rfl) rfl rfl trivial (fun hHeld => ?_); refine with_tabW laws_FnWritten.tab11 laws_FnWritten.bits11 (fun HT_ HW_ => ?_)
        generalize w105.drew = w106 at BK108 BK119 BK120 HB hHeld ⊢
        refine pu 0 42 laws_FnWritten.d1 HT_ ?_
        refine pu 1 43 laws_FnWritten.d2 HT_ ?_
        refine pu 2 44 laws_FnWritten.d3 HT_ ?_
        refine un 3 45 laws_FnWritten.d4 HT_ ?_
        refine un 4 46 laws_FnWritten.d5 HT_ ?_
        refine un 5 47 laws_FnWritten.d6 HT_ ?_
        refine pu 6 48 laws_FnWritten.d7 HT_ ?_
        refine pu 7 49 laws_FnWritten.d8 HT_ ?_
        refine un 8 50 laws_FnWritten.d9 HT_ ?_
        refine un 9 51 laws_FnWritten.d10 HT_ ?_
        refine un 10 52 laws_FnWritten.d11 HT_ ?_
        refine pu 11 53 laws_FnWritten.d12 HT_ ?_
        refine pu 12 54 laws_FnWritten.d13 HT_ ?_
        refine un 13 55 laws_FnWritten.d14 HT_ ?_
        refine un 14 56 laws_FnWritten.d15 HT_ ?_
        refine un 15 57 laws_FnWritten.d16 HT_ ?_
        refine un 16 58 laws_FnWritten.d17 HT_ ?_
        refine un 17 59 laws_FnWritten.d18 HT_ ?_
        refine un 18 60 laws_FnWritten.d19 HT_ ?_
        refine un 19 61 laws_FnWritten.d20 HT_ ?_
        refine un 20 62 laws_FnWritten.d21 HT_ ?_
        refine un 21 63 laws_FnWritten.d22 HT_ ?_
        refine un 22 64 laws_FnWritten.d23 HT_ ?_
        refine pu 23 65 laws_FnWritten.d24 HT_ ?_
        refine dn HT_ ?_
        try go_wp2
        go_ret
        exact ⟨by first | rfl | (simp [ne_nil_isEmpty]; done) | (simp [errW_none, errW_some] <;> rfl) | (simp [*, errW_none, errW_some] <;> rfl), bh⟩
     case rest =>
      clear HC21
      try clear c1
      try clear c2
      try clear p2
      try clear c3
      try clear p6
      try clear c7
      try clear c8
      try clear c9
      try clear c10
      try clear c20
      try clear c24
      try clear c38
      try clear c38b0
      try clear c38b1
      try clear c39
      try clear c39b0
      try clear p64
      try clear c73
      try clear c77
      try clear c78
      try clear c85
      try clear c89
      try clear c90
      try clear c97
      try clear c101
      try clear c102
      try clear hcz103_0
      try clear hcz103_1
      try clear hcz103_2
      try clear hcz103_3
      try clear hcz103_4
      try clear hcz103_5
      try clear hcz104_0
      try clear hcz104_1
      try clear hcz104_2
      try clear hcz104_3
      try clear hcz104_4
      try clear hcz104_5
      try clear hcz74_0
      try clear hcz74_1
      try clear hcz74_2
      try clear hcz74_3
      try clear hcz74_4
      try clear hcz74_5
      try clear hcz75_0
      try clear hcz75_1
      try clear hcz75_2
      try clear hcz75_3
      try clear hcz75_4
      try clear hcz75_5
      try clear hcz79_0
      try clear hcz79_1
      try clear hcz79_2
      try clear hcz79_3
      try clear hcz79_4
      try clear hcz79_5
      try clear hcz80_0
      try clear hcz80_1
      try clear hcz80_2
      try clear hcz80_3
      try clear hcz80_4
      try clear hcz80_5
      try clear hcz86_0
      try clear hcz86_1
      try clear hcz86_2
      try clear hcz86_3
      try clear hcz86_4
      try clear hcz86_5
      try clear hcz87_0
      try clear hcz87_1
      try clear hcz87_2
      try clear hcz87_3
      try clear hcz87_4
      try clear hcz87_5
      try clear hcz91_0
      try clear hcz91_1
      try clear hcz91_2
      try clear hcz91_3
      try clear hcz91_4
      try clear hcz91_5
      try clear hcz92_0
      try clear hcz92_1
      try clear hcz92_2
      try clear hcz92_3
      try clear hcz92_4
      try clear hcz92_5
      try clear hcz98_0
      try clear hcz98_1
      try clear hcz98_2
      try clear hcz98_3
      try clear hcz98_4
      try clear hcz98_5
      try clear hcz99_0
      try clear hcz99_1
      try clear hcz99_2
      try clear hcz99_3
      try clear hcz99_4
      try clear hcz99_5
      try clear hfz103_0
      try clear hfz103_1
      try clear hfz103_2
      try clear hfz103_3
      try clear hfz103_4
      try clear hfz103_5
      try clear hfz104_0
      try clear hfz104_1
      try clear hfz104_2
      try clear hfz104_3
      try clear hfz104_4
      try clear hfz104_5
      try clear hfz74_0
      try clear hfz74_1
      try clear hfz74_2
      try clear hfz74_3
      try clear hfz74_4
      try clear hfz74_5
      try clear hfz75_0
      try clear hfz75_1
      try clear hfz75_2
      try clear hfz75_3
      try clear hfz75_4
      try clear hfz75_5
      try clear hfz79_0
      try clear hfz79_1
      try clear hfz79_2
      try clear hfz79_3
      try clear hfz79_4
      try clear hfz79_5
      try clear hfz80_0
      try clear hfz80_1
      try clear hfz80_2
      try clear hfz80_3
      try clear hfz80_4
      try clear hfz80_5
      try clear hfz86_0
      try clear hfz86_1
      try clear hfz86_2
      try clear hfz86_3
      try clear hfz86_4
      try clear hfz86_5
      try clear hfz87_0
      try clear hfz87_1
      try clear hfz87_2
      try clear hfz87_3
      try clear hfz87_4
      try clear hfz87_5
      try clear hfz91_0
      try clear hfz91_1
      try clear hfz91_2
      try clear hfz91_3
      try clear hfz91_4
      try clear hfz91_5
      try clear hfz92_0
      try clear hfz92_1
      try clear hfz92_2
      try clear hfz92_3
      try clear hfz92_4
      try clear hfz92_5
      try clear hfz98_0
      try clear hfz98_1
      try clear hfz98_2
      try clear hfz98_3
      try clear hfz98_4
      try clear hfz98_5
      try clear hfz99_0
      try clear hfz99_1
      try clear hfz99_2
      try clear hfz99_3
      try clear hfz99_4
      try clear hfz99_5
      obtain ⟨kq, HA, HJ20, BK108, HB⟩ := hcut
      cases kq with
      | zero => exact absurd HA.out (by simp [laws_FnWritten.j1])
      | succ kj20 =>
       have H := HA.out
       clear HA
       simp only [laws_FnWritten.j1] at H
       obtain ⟨t123, A1070, H⟩ := Option.bind_eq_some_iff.mp H
       try dsimp only at H
       have A107 := Aside0.mk A1070
       clear A1070
       obtain ⟨⟨t124, t125, t126, t127, t128, t129, t130⟩, A1080, H⟩ := Option.bind_eq_some_iff.mp H
       try dsimp only at H
       have A108 := Aside0.mk A1080
       clear A1080
       obtain ⟨⟨t132, t133, t134, t135, t136, t137, t138⟩, A1090, H⟩ := Option.bind_eq_some_iff.mp H
       try dsimp only at H
       have A109 := Aside0.mk A1090
       clear A1090
       by_cases c110 : (t130 != t138) = true
       ·
        rw [if_pos c110] at H
        have c110b0 : (t130 != t138) = true := c110
        (try (have c110b1 : decide (t130 = t138) = false := by simpa using c110))
        (try (have c110b2 : (t130 == t138) = false := by simpa using c110))
        (try (have c110b3 : ¬ (t130 = t138) := by simpa using c110))
        clear c110
        obtain rfl := Option.some.inj H
        go_wp2_with (first | ((with_reducible refine gate_callee (f := 22) rfl ?_); refine goesL_ (some 67) rfl rfl Tryd.func22 (by kernel_rfl) rfl #[.slice A0 l0.length c0] rfl (by (try simp only [List.map_toArray, List.map_cons, List.map_nil]); first | done | rfl | (simp only [ne_nil_isEmpty]; rfl) | (simp only [List.length_drop, List.length_take]; rfl)) ?_; (with_reducible refine (spec_DrawReadDate.calls kj20 _ _ l0 t123 _ ?side1 ?side2 A107.out).mono ?_); (case side1 => repeat (first | exact (Kd.C_below HR0.out HB.out) | (with_reducible refine Kd.C_alloc ?_ _) | (with_reducible refine Kd.C_drewN ?_ _) | (with_reducible refine Kd.C_drew ?_))); (case side2 => exact HC0.out); rintro e w111 ⟨rfl, hb⟩; refine ⟨_, rfl, ?_⟩; replace BK108 := bkb_ BK108 hb; replace HB := Aside0.mk (below_step bh hb); (try clear hb); (try clear hb2); (try clear hk); (try clear hi)) | ((with_reducible refine gate_callee (f := 20) rfl ?_); refine goesL_ (some 70) rfl rfl Tryd.func20 (by kernel_rfl) rfl #[.string t123] rfl (by (try simp only [List.map_toArray, List.map_cons, List.map_nil]); first | done | rfl | (simp only [ne_nil_isEmpty]; rfl) | (simp only [List.length_drop, List.length_take]; rfl)) ?_; (with_reducible refine (impl_ReadDate.calls t123 t124 t125 t126 t127 t128 t129 t130 _ ?side1 A108.out).mono ?_); (case side1 => exact XW.to (XW.stays hX bh) (by decide)); rintro e w112 ⟨rfl, hb⟩; refine ⟨_, rfl, ?_⟩; replace BK108 := bkb_ BK108 hb; replace HB := Aside0.mk (below_step bh hb); (try clear hb); (try clear hb2); (try clear hk); (try clear hi)) | ((with_reducible refine gate_dst (N := 9) rfl ?_); (try (refine gate_guard (by rfl) ?_; dsimp only)); refine bx 9 #[.int .i64 0, .int .i64 0, .int .i64 0, .int .i64 0, .int .i64 0, .int .i64 0] 34 ?_; intro gb131 hg w113 hbox hb; have BK131 := Aside0.mk (hbox); have GW131 := Aside0.mk (bz hg); have GE131 := Aside0.mk (bz hg); have NB108_131 := Aside0.mk ((nl hg bk : gb108 ≠ gb131)); have NB131_108 := Aside0.mk ((ng hg bk : gb131 ≠ gb108)); replace BK108 := bkb_ BK108 hb; replace HB := Aside0.mk (below_step bh hb); clear hb hbox hg; have hnb114 := NB131_108.out; have hnc114 := NB108_131.out; obtain ⟨hcz115_0, hcz115_1, hcz115_2, hcz115_3, hcz115_4, hcz115_5⟩ := zcf6 BK131; obtain ⟨hfz115_0, hfz115_1, hfz115_2, hfz115_3, hfz115_4, hfz115_5⟩ := zff6 BK131) | ((with_reducible refine gate_callee (f := 23) rfl ?_); refine goesL_ (some 75) rfl rfl Tryd.func23 (by kernel_rfl) rfl #[.string t123] rfl (by (try simp only [List.map_toArray, List.map_cons, List.map_nil]); first | done | rfl | (simp only [ne_nil_isEmpty]; rfl) | (simp only [List.length_drop, List.length_take]; rfl)) ?_; (with_reducible refine (spec_ReadDate.calls kj20 t123 t132 t133 t134 t135 t136 t137 t138 _ A109.out).mono ?_); rintro e w116 ⟨rfl, hb⟩; refine ⟨_, rfl, ?_⟩; replace BK108 := bkf_ BK108 hb; replace BK131 := Aside0.mk (blk_below (g := gb131) (o := .cells #[.int .i64 t124, .int .i64 t125, .int .i64 t126, .int .i64 t127, .int .i64 t128, .int .i64 t129] 34 (0, 0)) bkp hb); replace HB := Aside0.mk (below_step bh hb); (try clear hb); (try clear hb2); (try clear hk); (try clear hi)) | ((with_reducible refine gate_dst (N := 11) rfl ?_); (try (refine gate_guard (by rfl) ?_; dsimp only)); refine bx 11 #[.int .i64 0, .int .i64 0, .int .i64 0, .int .i64 0, .int .i64 0, .int .i64 0] 34 ?_; intro gb139 hg w117 hbox hb; have BK139 := Aside0.mk (hbox); have GW139 := Aside0.mk (bz hg); have GE139 := Aside0.mk (bz hg); have NB108_139 := Aside0.mk ((nl hg bk : gb108 ≠ gb139)); have NB139_108 := Aside0.mk ((ng hg bk : gb139 ≠ gb108)); have NB131_139 := Aside0.mk ((nl hg bk : gb131 ≠ gb139)); have NB139_131 := Aside0.mk ((ng hg bk : gb139 ≠ gb131)); replace BK108 := bkb_ BK108 hb; replace BK131 := bkb_ BK131 hb; replace HB := Aside0.mk (below_step bh hb); clear hb hbox hg; have hnb118 := NB139_108.out; have hnc118 := NB108_139.out; have hnb119 := NB139_131.out; have hnc119 := NB131_139.out; obtain ⟨hcz120_0, hcz120_1, hcz120_2, hcz120_3, hcz120_4, hcz120_5⟩ := zcf6 BK139; obtain ⟨hfz120_0, hfz120_1, hfz120_2, hfz120_3, hfz120_4, hfz120_5⟩ := zff6 BK139))
        go_ret
        exact ⟨by first | rfl | (simp [ne_nil_isEmpty]; done) | (simp [errW_none, errW_some] <;> rfl) | (simp [*, errW_none, errW_some] <;> rfl), bh⟩
       ·
        rw [if_neg c110] at H
        have c110b0 : (t130 != t138) = false := by simpa using c110
        (try (have c110b1 : decide (t130 = t138) = true := by simpa using c110))
        (try (have c110b2 : (t130 == t138) = true := by simpa using c110))
        clear c110
        by_cases c121 : (!(t124 == t132) || (!(t125 == t133) || (!(t126 == t134) || (!(t127 == t135) || (!(t128 == t136) || (!(t129 == t137))))))) = true
        ·
         rw [if_pos c121] at H
         have c121b0 : (!(t124 == t132) || (!(t125 == t133) || (!(t126 == t134) || (!(t127 == t135) || (!(t128 == t136) || (!(t129 == t137))))))) = true := c121
         clear c121
         obtain rfl := Option.some.inj H
         go_wp2_with (first | ((with_reducible refine gate_callee (f := 22) rfl ?_); refine goesL_ (some 67) rfl rfl Tryd.func22 (by kernel_rfl) rfl #[.slice A0 l0.length c0] rfl (by (try simp only [List.map_toArray, List.map_cons, List.map_nil]); first | done | rfl | (simp only [ne_nil_isEmpty]; rfl) | (simp only [List.length_drop, List.length_take]; rfl)) ?_; (with_reducible refine (spec_DrawReadDate.calls kj20 _ _ l0 t123 _ ?side1 ?side2 A107.out).mono ?_); (case side1 => repeat (first | exact (Kd.C_below HR0.out HB.out) | (with_reducible refine Kd.C_alloc ?_ _) | (with_reducible refine Kd.C_drewN ?_ _) | (with_reducible refine Kd.C_drew ?_))); (case side2 => exact HC0.out); rintro e w122 ⟨rfl, hb⟩; refine ⟨_, rfl, ?_⟩; replace BK108 := bkb_ BK108 hb; replace HB := Aside0.mk (below_step bh hb); (try clear hb); (try clear hb2); (try clear hk); (try clear hi)) | ((with_reducible refine gate_callee (f := 20) rfl ?_); refine goesL_ (some 70) rfl rfl Tryd.func20 (by kernel_rfl) rfl #[.string t123] rfl (by (try simp only [List.map_toArray, List.map_cons, List.map_nil]); first | done | rfl | (simp only [ne_nil_isEmpty]; rfl) | (simp only [List.length_drop, List.length_take]; rfl)) ?_; (with_reducible refine (impl_ReadDate.calls t123 t124 t125 t126 t127 t128 t129 t130 _ ?side1 A108.out).mono ?_); (case side1 => exact XW.to (XW.stays hX bh) (by decide)); rintro e w123 ⟨rfl, hb⟩; refine ⟨_, rfl, ?_⟩; replace BK108 := bkb_ BK108 hb; replace HB := Aside0.mk (below_step bh hb); (try clear hb); (try clear hb2); (try clear hk); (try clear hi)) | ((with_reducible refine gate_dst (N := 9) rfl ?_); (try (refine gate_guard (by rfl) ?_; dsimp only)); refine bx 9 #[.int .i64 0, .int .i64 0, .int .i64 0, .int .i64 0, .int .i64 0, .int .i64 0] 34 ?_; intro gb131 hg w124 hbox hb; have BK131 := Aside0.mk (hbox); have GW131 := Aside0.mk (bz hg); have GE131 := Aside0.mk (bz hg); have NB108_131 := Aside0.mk ((nl hg bk : gb108 ≠ gb131)); have NB131_108 := Aside0.mk ((ng hg bk : gb131 ≠ gb108)); replace BK108 := bkb_ BK108 hb; replace HB := Aside0.mk (below_step bh hb); clear hb hbox hg; have hnb125 := NB131_108.out; have hnc125 := NB108_131.out; obtain ⟨hcz126_0, hcz126_1, hcz126_2, hcz126_3, hcz126_4, hcz126_5⟩ := zcf6 BK131; obtain ⟨hfz126_0, hfz126_1, hfz126_2, hfz126_3, hfz126_4, hfz126_5⟩ := zff6 BK131) | ((with_reducible refine gate_callee (f := 23) rfl ?_); refine goesL_ (some 75) rfl rfl Tryd.func23 (by kernel_rfl) rfl #[.string t123] rfl (by (try simp only [List.map_toArray, List.map_cons, List.map_nil]); first | done | rfl | (simp only [ne_nil_isEmpty]; rfl) | (simp only [List.length_drop, List.length_take]; rfl)) ?_; (with_reducible refine (spec_ReadDate.calls kj20 t123 t132 t133 t134 t135 t136 t137 t138 _ A109.out).mono ?_); rintro e w127 ⟨rfl, hb⟩; refine ⟨_, rfl, ?_⟩; replace BK108 := bkf_ BK108 hb; replace BK131 := Aside0.mk (blk_below (g := gb131) (o := .cells #[.int .i64 t124, .int .i64 t125, .int .i64 t126, .int .i64 t127, .int .i64 t128, .int .i64 t129] 34 (0, 0)) bkp hb); replace HB := Aside0.mk (below_step bh hb); (try clear hb); (try clear hb2); (try clear hk); (try clear hi)) | ((with_reducible refine gate_dst (N := 11) rfl ?_); (try (refine gate_guard (by rfl) ?_; dsimp only)); refine bx 11 #[.int .i64 0, .int .i64 0, .int .i64 0, .int .i64 0, .int .i64 0, .int .i64 0] 34 ?_; intro gb139 hg w128 hbox hb; have BK139 := Aside0.mk (hbox); have GW139 := Aside0.mk (bz hg); have GE139 := Aside0.mk (bz hg); have NB108_139 := Aside0.mk ((nl hg bk : gb108 ≠ gb139)); have NB139_108 := Aside0.mk ((ng hg bk : gb139 ≠ gb108)); have NB131_139 := Aside0.mk ((nl hg bk : gb131 ≠ gb139)); have NB139_131 := Aside0.mk ((ng hg bk : gb139 ≠ gb131)); replace BK108 := bkb_ BK108 hb; replace BK131 := bkb_ BK131 hb; replace HB := Aside0.mk (below_step bh hb); clear hb hbox hg; have hnb129 := NB139_108.out; have hnc129 := NB108_139.out; have hnb130 := NB139_131.out; have hnc130 := NB131_139.out; obtain ⟨hcz131_0, hcz131_1, hcz131_2, hcz131_3, hcz131_4, hcz131_5⟩ := zcf6 BK139; obtain ⟨hfz131_0, hfz131_1, hfz131_2, hfz131_3, hfz131_4, hfz131_5⟩ := zff6 BK139; obtain ⟨hcz132_0, hcz132_1, hcz132_2, hcz132_3, hcz132_4, hcz132_5⟩ := zcf6 BK131; obtain ⟨hfz132_0, hfz132_1, hfz132_2, hfz132_3, hfz132_4, hfz132_5⟩ := zff6 BK131))
         go_ret
         exact ⟨by first | rfl | (simp [ne_nil_isEmpty]; done) | (simp [errW_none, errW_some] <;> rfl) | (simp [*, errW_none, errW_some] <;> rfl), bh⟩
        ·
         rw [if_neg c121] at H
         have c121b0 : (!(t124 == t132) || (!(t125 == t133) || (!(t126 == t134) || (!(t127 == t135) || (!(t128 == t136) || (!(t129 == t137))))))) = false := by simpa using c121
         clear c121
         by_cases c133 : t130 = true
         ·
          subst c133
          rw [if_pos rfl] at H
          replace H := Option.bind_eq_some_iff.mp H
          obtain ⟨t140, A1340, H⟩ := H
          replace H : (some (t140.toList == t123.toList)) = some r := H
          have A134 := Aside0.mk A1340
          clear A1340
          obtain rfl := Option.some.inj H
          go_wp2_with (first | ((with_reducible refine gate_callee (f := 22) rfl ?_); refine goesL_ (some 67) rfl rfl Tryd.func22 (by kernel_rfl) rfl #[.slice A0 l0.length c0] rfl (by (try simp only [List.map_toArray, List.map_cons, List.map_nil]); first | done | rfl | (simp only [ne_nil_isEmpty]; rfl) | (simp only [List.length_drop, List.length_take]; rfl)) ?_; (with_reducible refine (spec_DrawReadDate.calls kj20 _ _ l0 t123 _ ?side1 ?side2 A107.out).mono ?_); (case side1 => repeat (first | exact (Kd.C_below HR0.out HB.out) | (with_reducible refine Kd.C_alloc ?_ _) | (with_reducible refine Kd.C_drewN ?_ _) | (with_reducible refine Kd.C_drew ?_))); (case side2 => exact HC0.out); rintro e w135 ⟨rfl, hb⟩; refine ⟨_, rfl, ?_⟩; replace BK108 := bkb_ BK108 hb; replace HB := Aside0.mk (below_step bh hb); (try clear hb); (try clear hb2); (try clear hk); (try clear hi)) | ((with_reducible refine gate_callee (f := 20) rfl ?_); refine goesL_ (some 70) rfl rfl Tryd.func20 (by kernel_rfl) rfl #[.string t123] rfl (by (try simp only [List.map_toArray, List.map_cons, List.map_nil]); first | done | rfl | (simp only [ne_nil_isEmpty]; rfl) | (simp only [List.length_drop, List.length_take]; rfl)) ?_; (with_reducible refine (impl_ReadDate.calls t123 t124 t125 t126 t127 t128 t129 true _ ?side1 A108.out).mono ?_); (case side1 => exact XW.to (XW.stays hX bh) (by decide)); rintro e w136 ⟨rfl, hb⟩; refine ⟨_, rfl, ?_⟩; replace BK108 := bkb_ BK108 hb; replace HB := Aside0.mk (below_step bh hb); (try clear hb); (try clear hb2); (try clear hk); (try clear hi)) | ((with_reducible refine gate_dst (N := 9) rfl ?_); (try (refine gate_guard (by rfl) ?_; dsimp only)); refine bx 9 #[.int .i64 0, .int .i64 0, .int .i64 0, .int .i64 0, .int .i64 0, .int .i64 0] 34 ?_; intro gb131 hg w137 hbox hb; have BK131 := Aside0.mk (hbox); have GW131 := Aside0.mk (bz hg); have GE131 := Aside0.mk (bz hg); have NB108_131 := Aside0.mk ((nl hg bk : gb108 ≠ gb131)); have NB131_108 := Aside0.mk ((ng hg bk : gb131 ≠ gb108)); replace BK108 := bkb_ BK108 hb; replace HB := Aside0.mk (below_step bh hb); clear hb hbox hg; have hnb138 := NB131_108.out; have hnc138 := NB108_131.out; obtain ⟨hcz139_0, hcz139_1, hcz139_2, hcz139_3, hcz139_4, hcz139_5⟩ := zcf6 BK131; obtain ⟨hfz139_0, hfz139_1, hfz139_2, hfz139_3, hfz139_4, hfz139_5⟩ := zff6 BK131) | ((with_reducible refine gate_callee (f := 23) rfl ?_); refine goesL_ (some 75) rfl rfl Tryd.func23 (by kernel_rfl) rfl #[.string t123] rfl (by (try simp only [List.map_toArray, List.map_cons, List.map_nil]); first | done | rfl | (simp only [ne_nil_isEmpty]; rfl) | (simp only [List.length_drop, List.length_take]; rfl)) ?_; (with_reducible refine (spec_ReadDate.calls kj20 t123 t132 t133 t134 t135 t136 t137 t138 _ A109.out).mono ?_); rintro e w140 ⟨rfl, hb⟩; refine ⟨_, rfl, ?_⟩; replace BK108 := bkf_ BK108 hb; replace BK131 := Aside0.mk (blk_below (g := gb131) (o := .cells #[.int .i64 t124, .int .i64 t125, .int .i64 t126, .int .i64 t127, .int .i64 t128, .int .i64 t129] 34 (0, 0)) bkp hb); replace HB := Aside0.mk (below_step bh hb); (try clear hb); (try clear hb2); (try clear hk); (try clear hi)) | ((with_reducible refine gate_dst (N := 11) rfl ?_); (try (refine gate_guard (by rfl) ?_; dsimp only)); refine bx 11 #[.int .i64 0, .int .i64 0, .int .i64 0, .int .i64 0, .int .i64 0, .int .i64 0] 34 ?_; intro gb139 hg w141 hbox hb; have BK139 := Aside0.mk (hbox); have GW139 := Aside0.mk (bz hg); have GE139 := Aside0.mk (bz hg); have NB108_139 := Aside0.mk ((nl hg bk : gb108 ≠ gb139)); have NB139_108 := Aside0.mk ((ng hg bk : gb139 ≠ gb108)); have NB131_139 := Aside0.mk ((nl hg bk : gb131 ≠ gb139)); have NB139_131 := Aside0.mk ((ng hg bk : gb139 ≠ gb131)); replace BK108 := bkb_ BK108 hb; replace BK131 := bkb_ BK131 hb; replace HB := Aside0.mk (below_step bh hb); clear hb hbox hg; have hnb142 := NB139_108.out; have hnc142 := NB108_139.out; have hnb143 := NB139_131.out; have hnc143 := NB131_139.out; obtain ⟨hcz144_0, hcz144_1, hcz144_2, hcz144_3, hcz144_4, hcz144_5⟩ := zcf6 BK139; obtain ⟨hfz144_0, hfz144_1, hfz144_2, hfz144_3, hfz144_4, hfz144_5⟩ := zff6 BK139; obtain ⟨hcz145_0, hcz145_1, hcz145_2, hcz145_3, hcz145_4, hcz145_5⟩ := zcf6 BK131; obtain ⟨hfz145_0, hfz145_1, hfz145_2, hfz145_3, hfz145_4, hfz145_5⟩ := zff6 BK131) | (go_at_call 17; (with_reducible refine (impl_ShowDate.calls kj20 t124 t125 t126 t127 t128 t129 t140 _ ?side1 A134.out).mono ?_); (case side1 => exact XW.to (XW.stays hX bh) (by decide)); rintro e w146 ⟨rfl, hb⟩; replace BK108 := bkf_ BK108 hb; replace BK131 := bkf_ BK131 hb; replace BK139 := Aside0.mk (blk_below (g := gb139) (o := .cells #[.int .i64 t132, .int .i64 t133, .int .i64 t134, .int .i64 t135, .int .i64 t136, .int .i64 t137] 34 (0, 0)) bkp hb); replace HB := Aside0.mk (below_step bh hb); (try clear hb); (try clear hb2); (try clear hk); (try clear hi)))
          go_ret
          exact ⟨by first | rfl | (simp [ne_nil_isEmpty]; done) | (simp [errW_none, errW_some] <;> rfl) | (simp [*, errW_none, errW_some] <;> rfl), bh⟩
         ·
          replace c133 := Bool.eq_false_iff.mpr c133
          subst c133
          rw [if_neg (show ¬ (false = true) by decide)] at H
          by_cases c147 : (t124 == 0 && (t125 == 0 && (t126 == 0 && (t127 == 0 && (t128 == 0 && (t129 == 0)))))) = true
          ·
           rw [if_pos c147] at H
           have c147b0 : (t124 == 0 && (t125 == 0 && (t126 == 0 && (t127 == 0 && (t128 == 0 && (t129 == 0)))))) = true := c147
           (try (have c147b1 : decide (t124 = 0 && (t125 == 0 && (t126 == 0 && (t127 == 0 && (t128 == 0 && (t129 == 0)))))) = true := by simpa using c147))
           (try (have c147b2 : (t124 == 0 && (t125 == 0 && (t126 == 0 && (t127 == 0 && (t128 == 0 && (t129 == 0)))))) = true := by simpa using c147))
           clear c147
           obtain rfl := Option.some.inj H
           go_wp2_with (first | ((with_reducible refine gate_callee (f := 22) rfl ?_); refine goesL_ (some 67) rfl rfl Tryd.func22 (by kernel_rfl) rfl #[.slice A0 l0.length c0] rfl (by (try simp only [List.map_toArray, List.map_cons, List.map_nil]); first | done | rfl | (simp only [ne_nil_isEmpty]; rfl) | (simp only [List.length_drop, List.length_take]; rfl)) ?_; (with_reducible refine (spec_DrawReadDate.calls kj20 _ _ l0 t123 _ ?side1 ?side2 A107.out).mono ?_); (case side1 => repeat (first | exact (Kd.C_below HR0.out HB.out) | (with_reducible refine Kd.C_alloc ?_ _) | (with_reducible refine Kd.C_drewN ?_ _) | (with_reducible refine Kd.C_drew ?_))); (case side2 => exact HC0.out); rintro e w148 ⟨rfl, hb⟩; refine ⟨_, rfl, ?_⟩; replace BK108 := bkb_ BK108 hb; replace HB := Aside0.mk (below_step bh hb); (try clear hb); (try clear hb2); (try clear hk); (try clear hi)) | ((with_reducible refine gate_callee (f := 20) rfl ?_); refine goesL_ (some 70) rfl rfl Tryd.func20 (by kernel_rfl) rfl #[.string t123] rfl (by (try simp only [List.map_toArray, List.map_cons, List.map_nil]); first | done | rfl | (simp only [ne_nil_isEmpty]; rfl) | (simp only [List.length_drop, List.length_take]; rfl)) ?_; (with_reducible refine (impl_ReadDate.calls t123 t124 t125 t126 t127 t128 t129 false _ ?side1 A108.out).mono ?_); (case side1 => exact XW.to (XW.stays hX bh) (by decide)); rintro e w149 ⟨rfl, hb⟩; refine ⟨_, rfl, ?_⟩; replace BK108 := bkb_ BK108 hb; replace HB := Aside0.mk (below_step bh hb); (try clear hb); (try clear hb2); (try clear hk); (try clear hi)) | ((with_reducible refine gate_dst (N := 9) rfl ?_); (try (refine gate_guard (by rfl) ?_; dsimp only)); refine bx 9 #[.int .i64 0, .int .i64 0, .int .i64 0, .int .i64 0, .int .i64 0, .int .i64 0] 34 ?_; intro gb131 hg w150 hbox hb; have BK131 := Aside0.mk (hbox); have GW131 := Aside0.mk (bz hg); have GE131 := Aside0.mk (bz hg); have NB108_131 := Aside0.mk ((nl hg bk : gb108 ≠ gb131)); have NB131_108 := Aside0.mk ((ng hg bk : gb131 ≠ gb108)); replace BK108 := bkb_ BK108 hb; replace HB := Aside0.mk (below_step bh hb); clear hb hbox hg; have hnb151 := NB131_108.out; have hnc151 := NB108_131.out; obtain ⟨hcz152_0, hcz152_1, hcz152_2, hcz152_3, hcz152_4, hcz152_5⟩ := zcf6 BK131; obtain ⟨hfz152_0, hfz152_1, hfz152_2, hfz152_3, hfz152_4, hfz152_5⟩ := zff6 BK131) | ((with_reducible refine gate_callee (f := 23) rfl ?_); refine goesL_ (some 75) rfl rfl Tryd.func23 (by kernel_rfl) rfl #[.string t123] rfl (by (try simp only [List.map_toArray, List.map_cons, List.map_nil]); first | done | rfl | (simp only [ne_nil_isEmpty]; rfl) | (simp only [List.length_drop, List.length_take]; rfl)) ?_; (with_reducible refine (spec_ReadDate.calls kj20 t123 t132 t133 t134 t135 t136 t137 t138 _ A109.out).mono ?_); rintro e w153 ⟨rfl, hb⟩; refine ⟨_, rfl, ?_⟩; replace BK108 := bkf_ BK108 hb; replace BK131 := Aside0.mk (blk_below (g := gb131) (o := .cells #[.int .i64 t124, .int .i64 t125, .int .i64 t126, .int .i64 t127, .int .i64 t128, .int .i64 t129] 34 (0, 0)) bkp hb); replace HB := Aside0.mk (below_step bh hb); (try clear hb); (try clear hb2); (try clear hk); (try clear hi)) | ((with_reducible refine gate_dst (N := 11) rfl ?_); (try (refine gate_guard (by rfl) ?_; dsimp only)); refine bx 11 #[.int .i64 0, .int .i64 0, .int .i64 0, .int .i64 0, .int .i64 0, .int .i64 0] 34 ?_; intro gb139 hg w154 hbox hb; have BK139 := Aside0.mk (hbox); have GW139 := Aside0.mk (bz hg); have GE139 := Aside0.mk (bz hg); have NB108_139 := Aside0.mk ((nl hg bk : gb108 ≠ gb139)); have NB139_108 := Aside0.mk ((ng hg bk : gb139 ≠ gb108)); have NB131_139 := Aside0.mk ((nl hg bk : gb131 ≠ gb139)); have NB139_131 := Aside0.mk ((ng hg bk : gb139 ≠ gb131)); replace BK108 := bkb_ BK108 hb; replace BK131 := bkb_ BK131 hb; replace HB := Aside0.mk (below_step bh hb); clear hb hbox hg; have hnb155 := NB139_108.out; have hnc155 := NB108_139.out; have hnb156 := NB139_131.out; have hnc156 := NB131_139.out; obtain ⟨hcz157_0, hcz157_1, hcz157_2, hcz157_3, hcz157_4, hcz157_5⟩ := zcf6 BK139; obtain ⟨hfz157_0, hfz157_1, hfz157_2, hfz157_3, hfz157_4, hfz157_5⟩ := zff6 BK139; obtain ⟨hcz158_0, hcz158_1, hcz158_2, hcz158_3, hcz158_4, hcz158_5⟩ := zcf6 BK131; obtain ⟨hfz158_0, hfz158_1, hfz158_2, hfz158_3, hfz158_4, hfz158_5⟩ := zff6 BK131))
           go_ret
           exact ⟨by first | rfl | (simp [ne_nil_isEmpty]; done) | (simp [errW_none, errW_some] <;> rfl) | (simp [*, errW_none, errW_some] <;> rfl), bh⟩
          ·
           rw [if_neg c147] at H
           have c147b0 : (t124 == 0 && (t125 == 0 && (t126 == 0 && (t127 == 0 && (t128 == 0 && (t129 == 0)))))) = false := by simpa using c147
           (try (have c147b1 : decide (t124 = 0 && (t125 == 0 && (t126 == 0 && (t127 == 0 && (t128 == 0 && (t129 == 0)))))) = false := by simpa using c147))
           (try (have c147b2 : (t124 == 0 && (t125 == 0 && (t126 == 0 && (t127 == 0 && (t128 == 0 && (t129 == 0)))))) = false := by simpa using c147))
           (try (have c147b3 : ¬ (t124 = 0 && (t125 == 0 && (t126 == 0 && (t127 == 0 && (t128 == 0 && (t129 == 0)))))) := by simpa using c147))
           clear c147
           obtain rfl := Option.some.inj H
           go_wp2_with (first | ((with_reducible refine gate_callee (f := 22) rfl ?_); refine goesL_ (some 67) rfl rfl Tryd.func22 (by kernel_rfl) rfl #[.slice A0 l0.length c0] rfl (by (try simp only [List.map_toArray, List.map_cons, List.map_nil]); first | done | rfl | (simp only [ne_nil_isEmpty]; rfl) | (simp only [List.length_drop, List.length_take]; rfl)) ?_; (with_reducible refine (spec_DrawReadDate.calls kj20 _ _ l0 t123 _ ?side1 ?side2 A107.out).mono ?_); (case side1 => repeat (first | exact (Kd.C_below HR0.out HB.out) | (with_reducible refine Kd.C_alloc ?_ _) | (with_reducible refine Kd.C_drewN ?_ _) | (with_reducible refine Kd.C_drew ?_))); (case side2 => exact HC0.out); rintro e w159 ⟨rfl, hb⟩; refine ⟨_, rfl, ?_⟩; replace BK108 := bkb_ BK108 hb; replace HB := Aside0.mk (below_step bh hb); (try clear hb); (try clear hb2); (try clear hk); (try clear hi)) | ((with_reducible refine gate_callee (f := 20) rfl ?_); refine goesL_ (some 70) rfl rfl Tryd.func20 (by kernel_rfl) rfl #[.string t123] rfl (by (try simp only [List.map_toArray, List.map_cons, List.map_nil]); first | done | rfl | (simp only [ne_nil_isEmpty]; rfl) | (simp only [List.length_drop, List.length_take]; rfl)) ?_; (with_reducible refine (impl_ReadDate.calls t123 t124 t125 t126 t127 t128 t129 false _ ?side1 A108.out).mono ?_); (case side1 => exact XW.to (XW.stays hX bh) (by decide)); rintro e w160 ⟨rfl, hb⟩; refine ⟨_, rfl, ?_⟩; replace BK108 := bkb_ BK108 hb; replace HB := Aside0.mk (below_step bh hb); (try clear hb); (try clear hb2); (try clear hk); (try clear hi)) | ((with_reducible refine gate_dst (N := 9) rfl ?_); (try (refine gate_guard (by rfl) ?_; dsimp only)); refine bx 9 #[.int .i64 0, .int .i64 0, .int .i64 0, .int .i64 0, .int .i64 0, .int .i64 0] 34 ?_; intro gb131 hg w161 hbox hb; have BK131 := Aside0.mk (hbox); have GW131 := Aside0.mk (bz hg); have GE131 := Aside0.mk (bz hg); have NB108_131 := Aside0.mk ((nl hg bk : gb108 ≠ gb131)); have NB131_108 := Aside0.mk ((ng hg bk : gb131 ≠ gb108)); replace BK108 := bkb_ BK108 hb; replace HB := Aside0.mk (below_step bh hb); clear hb hbox hg; have hnb162 := NB131_108.out; have hnc162 := NB108_131.out; obtain ⟨hcz163_0, hcz163_1, hcz163_2, hcz163_3, hcz163_4, hcz163_5⟩ := zcf6 BK131; obtain ⟨hfz163_0, hfz163_1, hfz163_2, hfz163_3, hfz163_4, hfz163_5⟩ := zff6 BK131) | ((with_reducible refine gate_callee (f := 23) rfl ?_); refine goesL_ (some 75) rfl rfl Tryd.func23 (by kernel_rfl) rfl #[.string t123] rfl (by (try simp only [List.map_toArray, List.map_cons, List.map_nil]); first | done | rfl | (simp only [ne_nil_isEmpty]; rfl) | (simp only [List.length_drop, List.length_take]; rfl)) ?_; (with_reducible refine (spec_ReadDate.calls kj20 t123 t132 t133 t134 t135 t136 t137 t138 _ A109.out).mono ?_); rintro e w164 ⟨rfl, hb⟩; refine ⟨_, rfl, ?_⟩; replace BK108 := bkf_ BK108 hb; replace BK131 := Aside0.mk (blk_below (g := gb131) (o := .cells #[.int .i64 t124, .int .i64 t125, .int .i64 t126, .int .i64 t127, .int .i64 t128, .int .i64 t129] 34 (0, 0)) bkp hb); replace HB := Aside0.mk (below_step bh hb); (try clear hb); (try clear hb2); (try clear hk); (try clear hi)) | ((with_reducible refine gate_dst (N := 11) rfl ?_); (try (refine gate_guard (by rfl) ?_; dsimp only)); refine bx 11 #[.int .i64 0, .int .i64 0, .int .i64 0, .int .i64 0, .int .i64 0, .int .i64 0] 34 ?_; intro gb139 hg w165 hbox hb; have BK139 := Aside0.mk (hbox); have GW139 := Aside0.mk (bz hg); have GE139 := Aside0.mk (bz hg); have NB108_139 := Aside0.mk ((nl hg bk : gb108 ≠ gb139)); have NB139_108 := Aside0.mk ((ng hg bk : gb139 ≠ gb108)); have NB131_139 := Aside0.mk ((nl hg bk : gb131 ≠ gb139)); have NB139_131 := Aside0.mk ((ng hg bk : gb139 ≠ gb131)); replace BK108 := bkb_ BK108 hb; replace BK131 := bkb_ BK131 hb; replace HB := Aside0.mk (below_step bh hb); clear hb hbox hg; have hnb166 := NB139_108.out; have hnc166 := NB108_139.out; have hnb167 := NB139_131.out; have hnc167 := NB131_139.out; obtain ⟨hcz168_0, hcz168_1, hcz168_2, hcz168_3, hcz168_4, hcz168_5⟩ := zcf6 BK139; obtain ⟨hfz168_0, hfz168_1, hfz168_2, hfz168_3, hfz168_4, hfz168_5⟩ := zff6 BK139; obtain ⟨hcz169_0, hcz169_1, hcz169_2, hcz169_3, hcz169_4, hcz169_5⟩ := zcf6 BK131; obtain ⟨hfz169_0, hfz169_1, hfz169_2, hfz169_3, hfz169_4, hfz169_5⟩ := zff6 BK131))
           go_ret
           exact ⟨by first | rfl | (simp [ne_nil_isEmpty]; done) | (simp [errW_none, errW_some] <;> rfl) | (simp [*, errW_none, errW_some] <;> rfl), bh⟩

/-- THE ONE PURE STATEMENT of laws_FnWritten: yours. -/
def laws_FnWritten.Pure : Prop := ∀ (l0 : List Int), l0.length ≤ maxLen → l0.length * 1 ≤ 140737488351232 → (∀ x ∈ l0, (Lit.int .u8 x).wf = true) → ∃ k, laws_FnWritten.f k l0 = some true
theorem laws_FnWritten.walk (P : laws_FnWritten.Pure) (a0 : Option Addr) (len0 cap0 : Nat) (z0 : List Int) (w : World) (hX : XW 7 w) (w0 : (a0 = none ∧ len0 = 0 ∧ cap0 = 0 ∧ z0 = []) ∨ ∃ x, a0 = some x ∧ len0 ≤ cap0 ∧ cap0 ≤ maxLen ∧ z0.length = cap0 ∧ (∀ i, i < z0.length → w.cell? (x.add i) = some (.int .u8 (z0.getD i 0))) ∧ ∀ n ∈ z0, (Lit.int .u8 n).wf = true) (y0 : len0 * 1 ≤ 140737488351232) :
  Calls Tryd.prog 4 #[.slice a0 len0 cap0] w fun e w' => e = .returned (.bool true) ∧ Below w.heap.size w w' := by
 obtain ⟨l0, rfl, hr0, hm0, hw0, hc0⟩ := ReadsInt.ofRowC w0
 obtain ⟨k, h⟩ := P l0 hm0 y0 hw0
 refine (laws_FnWritten.calls k _ _ l0 true w hX (Kd.C_of_reads (d := (0 : Int)) (h1 := fun _ => rfl) hr0) hc0 h).mono ?_
 rintro e w' ⟨rfl, hd⟩
 exact ⟨rfl, hd⟩

end Go.Proofs.YtkaknffeoeoajaaDoor.P
namespace Go.Proofs.YtkaknffeoeoajaaDoor.Q
open Go.RowKit Go.Proofs.YtkaknffeoeoajaaDoorW.PrintWords Go.Proofs.YtkaknffeoeoajaaDoorW.PrintLast Go.Proofs.YtkaknffeoeoajaaDoorW.PrintMore

theorem wrap_in {i : Int} (h0 : -9223372036854775808 ≤ i) (h1 : i ≤ 9223372036854775807) : wrap64 i = i := by unfold wrap64; omega
theorem wrap_next {i : Nat} {n : Nat} (h : i < n) (hn : n ≤ 4611686018427387904) : wrap64 ((i : Int) + 1) = ((i + 1 : Nat) : Int) := by unfold wrap64; omega

theorem toList_data (s : ByteArray) : s.toList = s.data.toList := ByteArray.toList_eq s
theorem eq_of_toList {a b : ByteArray} (h : a.toList = b.toList) : a = b := by
  rw [toList_data, toList_data] at h
  exact ByteArray.ext (Array.toList_inj.1 h)
theorem bt_get (s : ByteArray) (i : Nat) (h : i < s.size) : (bytesOf s)[i]? = some (bt s i) := by
  rw [← rd_bytesOf]
  have h1 : i < (bytesOf s).length := by rw [bytesOf_length]; exact h
  simp [rd, List.getD_eq_getElem?_getD, List.getElem?_eq_getElem h1]
theorem drop_bt (s : ByteArray) (i : Nat) (h : i < s.size) : (bytesOf s).drop i = bt s i :: (bytesOf s).drop (i + 1) := by
  have h1 : i < (bytesOf s).length := by rw [bytesOf_length]; exact h
  rw [List.drop_eq_getElem_cons h1]
  have := bt_get s i h
  rw [List.getElem?_eq_getElem h1] at this
  rw [Option.some.inj this]
theorem mem_bytes {s : ByteArray} {c : Int} (h : c ∈ bytesOf s) : 0 ≤ c ∧ c ≤ 255 := by
  unfold bytesOf at h
  obtain ⟨b, _, rfl⟩ := List.mem_map.1 h
  have := b.toNat_lt
  omega
theorem bytes_nums (l : List Int) (h : ∀ c ∈ l, 0 ≤ c ∧ c ≤ 255) : bytesOf (strOfNums l) = l := by
  unfold bytesOf
  rw [strOfNums_data, List.map_map]
  refine (List.map_congr_left fun c hc => ?_).trans (List.map_id l)
  have := h c hc
  simp only [Function.comp, UInt8.toNat_ofNat', id]
  omega
theorem nums_bytes (s : ByteArray) : strOfNums (bytesOf s) = s := by
  apply ByteArray.ext
  apply Array.toList_inj.1
  rw [strOfNums_data]
  unfold bytesOf
  rw [List.map_map]
  refine (List.map_congr_left fun c hc => ?_).trans (List.map_id _)
  simp
theorem bytes_inj {a b : ByteArray} (h : bytesOf a = bytesOf b) : a = b := by rw [← nums_bytes a, ← nums_bytes b, h]
theorem bytes_append (a b : ByteArray) : bytesOf (a ++ b) = bytesOf a ++ bytesOf b := by
  unfold bytesOf
  rw [← List.map_append]
  simp [ByteArray.data_append]

/-- A loop over bytes: what a round does with its state and a byte; an end ahead of time. -/
def runL {σ β : Type} (f : σ → Int → σ ⊕ β) (fin : σ → β) : List Int → σ → β
  | [], st => fin st
  | c :: cs, st => match f st c with
    | .inl st' => runL f fin cs st'
    | .inr b => b
/-- The printed loop comes to what 'runL' comes to, from some number of rounds on. -/
theorem ev_run {σ β : Type} (s : ByteArray) (I : σ → Nat → Prop) (f : σ → Int → σ ⊕ β) (fin : σ → β) (g : Nat → σ → Int → Option β) (K : Nat)
    (hstep : ∀ k st (i : Nat), K ≤ k → i < s.size → I st i → (∀ st', f st (bt s i) = .inl st' → g (k + 1) st i = g k st' ((i + 1 : Nat) : Int) ∧ I st' (i + 1)) ∧ (∀ b, f st (bt s i) = .inr b → g (k + 1) st i = some b))
    (hend : ∀ k st, K ≤ k → I st s.size → g (k + 1) st (s.size : Int) = some (fin st)) (st : σ) (h0 : I st 0) :
    Ev (fun k => g k st 0) (runL f fin (bytesOf s) st) := by
  have key : ∀ (d i : Nat) (st : σ), i + d = s.size → I st i → ∀ k, K + d < k → g k st (i : Int) = some (runL f fin ((bytesOf s).drop i) st) := by
    intro d
    induction d with
    | zero =>
      intro i st hd hI k hk
      obtain ⟨k, rfl⟩ : ∃ m, k = m + 1 := ⟨k - 1, by omega⟩
      have e : i = s.size := by omega
      subst e
      rw [hend k st (by omega) hI, List.drop_of_length_le (by rw [bytesOf_length]; exact Nat.le_refl _)]
      rfl
    | succ d ih =>
      intro i st hd hI k hk
      obtain ⟨k, rfl⟩ : ∃ m, k = m + 1 := ⟨k - 1, by omega⟩
      obtain ⟨h1, h2⟩ := hstep k st i (by omega) (by omega) hI
      rw [drop_bt s i (by omega)]
      show g (k + 1) st i = some (match f st (bt s i) with | .inl st' => runL f fin ((bytesOf s).drop (i + 1)) st' | .inr b => b)
      cases hf : f st (bt s i) with
      | inl st' =>
        obtain ⟨e, hI'⟩ := h1 st' hf
        rw [e]
        exact ih (i + 1) st' (by omega) hI' k (by omega)
      | inr b => exact h2 b hf
  refine ⟨K + s.size + 1, fun k hk => ?_⟩
  have := key s.size 0 st (by omega) h0 k (by omega)
  rw [List.drop_zero] at this
  exact this

/-- A loop that asks each byte. -/
theorem ev_all (s : ByteArray) (p : Int → Bool) (g : Nat → Int → Option Bool) (K : Nat)
    (h1 : ∀ k (i : Nat), K ≤ k → i < s.size → p (bt s i) = true → g (k + 1) i = g k ((i + 1 : Nat) : Int))
    (h0 : ∀ k (i : Nat), K ≤ k → i < s.size → p (bt s i) = false → g (k + 1) i = some false)
    (he : ∀ k, K ≤ k → g (k + 1) (s.size : Int) = some true) : Ev (fun k => g k 0) ((bytesOf s).all p) := by
  have h := ev_run (σ := Unit) (β := Bool) s (fun _ _ => True) (fun _ c => if p c = true then .inl () else .inr false) (fun _ => true) (fun k _ i => g k i) K
    (fun k st i hk hi _ => ⟨fun st' e => ⟨h1 k i hk hi (by
        by_cases hp : p (bt s i) = true
        · exact hp
        · rw [if_neg hp] at e; cases e), trivial⟩, fun b e => by
        by_cases hp : p (bt s i) = true
        · rw [if_pos hp] at e; cases e
        · rw [if_neg hp] at e
          obtain rfl : false = b := by injection e
          exact h0 k i hk hi (by simpa using hp)⟩)
    (fun k st hk _ => he k hk) () trivial
  have e : ∀ l : List Int, runL (σ := Unit) (β := Bool) (fun _ c => if p c = true then .inl () else .inr false) (fun _ => true) l () = l.all p := by
    intro l
    induction l with
    | nil => rfl
    | cons c cs ih =>
      rw [List.all_cons]
      unfold runL
      by_cases hp : p c = true
      · simp only [hp, if_true, Bool.true_and]; exact ih
      · simp only [(by simpa using hp : p c = false), Bool.false_and, Bool.false_eq_true, if_false]
  rw [e] at h
  exact h
theorem runL_all {β : Type} (p : Int → Bool) (r b : β) (l : List Int) : runL (σ := Unit) (fun _ c => if p c = true then .inl () else .inr b) (fun _ => r) l () = if l.all p = true then r else b := by
  induction l with
  | nil => rfl
  | cons c cs ih =>
    rw [List.all_cons]
    unfold runL
    by_cases hp : p c = true
    · simp only [hp, if_true, Bool.true_and]; exact ih
    · simp only [(by simpa using hp : p c = false), Bool.false_and, Bool.false_eq_true, if_false]
/-- A loop that asks each byte, and goes on behind it. -/
theorem ev_allr {β : Type} (s : ByteArray) (p : Int → Bool) (r b : β) (g : Nat → Int → Option β) (K : Nat)
    (h1 : ∀ k (i : Nat), K ≤ k → i < s.size → p (bt s i) = true → g (k + 1) i = g k ((i + 1 : Nat) : Int))
    (h0 : ∀ k (i : Nat), K ≤ k → i < s.size → p (bt s i) = false → g (k + 1) i = some b)
    (he : ∀ k, K ≤ k → g (k + 1) (s.size : Int) = some r) : Ev (fun k => g k 0) (if (bytesOf s).all p = true then r else b) := by
  rw [← runL_all p r b (bytesOf s)]
  refine ev_run (σ := Unit) s (fun _ _ => True) (fun _ c => if p c = true then .inl () else .inr b) (fun _ => r) (fun k _ i => g k i) K
    (fun k st i hk hi _ => ⟨fun st' e => ⟨h1 k i hk hi (by
        by_cases hp : p (bt s i) = true
        · exact hp
        · rw [if_neg hp] at e; cases e), trivial⟩, fun b' e => by
        by_cases hp : p (bt s i) = true
        · rw [if_pos hp] at e; cases e
        · rw [if_neg hp] at e
          obtain rfl : b = b' := by injection e
          exact h0 k i hk hi (by simpa using hp)⟩)
    (fun k st hk _ => he k hk) () trivial
/-- A loop that puts something behind a list for each byte. -/
theorem runL_flat {β : Type} (f : Int → List Int) (fin : List Int → β) (l st : List Int) : runL (fun st c => .inl (st ++ f c)) fin l st = fin (st ++ l.flatMap f) := by
  induction l generalizing st with
  | nil => simp [runL]
  | cons c cs ih =>
    unfold runL
    simp only [ih, List.flatMap_cons, List.append_assoc]
theorem ev_const {α : Type} {x : Option α} {r : α} (h : x = some r) : Ev (fun _ => x) r := ⟨0, fun _ _ => h⟩
theorem ev_eq {α : Type} {g : Nat → Option α} {r r' : α} (h : Ev g r) (e : r = r') : Ev g r' := e ▸ h
/-- From a number of rounds on: a law that holds at each such number. -/
theorem ev_now {α : Type} {g : Nat → Option α} {r : α} (K : Nat) (h : ∀ k, K ≤ k → g k = some r) : Ev g r := ⟨K, h⟩
theorem all_congr' {l : List Int} {p q : Int → Bool} (h : ∀ c ∈ l, p c = q c) : l.all p = l.all q := by
  induction l with
  | nil => rfl
  | cons a l ih =>
    rw [List.all_cons, List.all_cons, h a List.mem_cons_self, ih fun c hc => h c (List.mem_cons_of_mem _ hc)]
end Go.Proofs.YtkaknffeoeoajaaDoor.Q
namespace Go.Proofs.YtkaknffeoeoajaaDoor.Q
set_option linter.unusedVariables false
set_option linter.unusedSimpArgs false
open Go.RowKit Go.Proofs.YtkaknffeoeoajaaDoor.P Go.Proofs.YtkaknffeoeoajaaDoorW.PrintWords Go.Proofs.YtkaknffeoeoajaaDoorW.PrintLast Go.Proofs.YtkaknffeoeoajaaDoorW.PrintMore

/-- From some number of rounds on it answers, and the answer is as told. -/
def TotP {α : Type} (g : Nat → Option α) (P : α → Prop) : Prop := ∃ r, Ev g r ∧ P r
theorem TotP.bind {α β : Type} {g : Nat → Option α} {f : Nat → α → Option β} {P : α → Prop} {Q : β → Prop} (h : TotP g P) (k : ∀ a, P a → TotP (fun n => f n a) Q) : TotP (fun n => (g n).bind (f n)) Q := by
  obtain ⟨a, ha, pa⟩ := h
  obtain ⟨b, hb, qb⟩ := k a pa
  exact ⟨b, Ev.bind ha hb, qb⟩
theorem TotP.of {α : Type} {x : Option α} {P : α → Prop} (h : ∃ r, x = some r ∧ P r) : TotP (fun _ => x) P := by
  obtain ⟨r, e, p⟩ := h
  exact ⟨r, ev_const e, p⟩
theorem TotP.now {α : Type} {r : α} {P : α → Prop} (p : P r) : TotP (fun _ => some r) P := ⟨r, Ev.now r, p⟩
theorem TotP.imp {α : Type} {g : Nat → Option α} {P Q : α → Prop} (h : TotP g P) (pq : ∀ r, P r → Q r) : TotP g Q := by
  obtain ⟨r, e, p⟩ := h
  exact ⟨r, e, pq r p⟩
theorem TotP.step {α : Type} {g f : Nat → Option α} {P : α → Prop} (h : ∀ k, g (k + 1) = f k) (t : TotP f P) : TotP g P := by
  obtain ⟨r, e, p⟩ := t
  exact ⟨r, Ev.step h e, p⟩
theorem TotP.ite {α : Type} {c : Prop} [Decidable c] {f g : Nat → Option α} {P : α → Prop} (hf : c → TotP f P) (hg : ¬ c → TotP g P) : TotP (fun k => if c then f k else g k) P := by
  by_cases h : c
  · simp only [if_pos h]; exact hf h
  · simp only [if_neg h]; exact hg h
theorem bindOf {α β : Type} {x : Option α} {f : α → Option β} {P : α → Prop} {Q : β → Prop} (h : ∃ r, x = some r ∧ P r) (k : ∀ a, P a → ∃ r, f a = some r ∧ Q r) : ∃ r, x.bind f = some r ∧ Q r := by
  obtain ⟨a, rfl, p⟩ := h
  exact k a p

theorem and255 (a : Int) : 0 ≤ Go.bits .and .i64 a 255 ∧ Go.bits .and .i64 a 255 ≤ 255 := by
  unfold Go.bits
  have h : ((BitVec.ofInt IntKind.i64.bits a) &&& (BitVec.ofInt IntKind.i64.bits 255)).toNat ≤ 255 := by
    rw [BitVec.toNat_and]
    exact Nat.le_trans Nat.and_le_right (by decide)
  show 0 ≤ IntKind.i64.wrap ((((BitVec.ofInt IntKind.i64.bits a) &&& (BitVec.ofInt IntKind.i64.bits 255)).toNat : Nat) : Int) ∧ IntKind.i64.wrap ((((BitVec.ofInt IntKind.i64.bits a) &&& (BitVec.ofInt IntKind.i64.bits 255)).toNat : Nat) : Int) ≤ 255
  generalize ((BitVec.ofInt IntKind.i64.bits a) &&& (BitVec.ofInt IntKind.i64.bits 255)).toNat = n at h ⊢
  rw [IntKind.wrap_i64]
  omega
/-- The cursor's place is no negative number. -/
theorem byte_ok (b : List Int) (i h : Int) (h0 : 0 ≤ i) (hb : b.length ≤ 140737488351232) : ∃ r : Int × Int × Int, spec_l1Byte.f b i h = some r ∧ (0 ≤ r.1 ∧ r.1 ≤ 255 ∧ 0 ≤ r.2.1) := by
  unfold spec_l1Byte.f
  by_cases hi : i < (b.length : Int)
  · rw [if_pos hi, if_pos h0]
    exact ⟨_, rfl, (and255 _).1, (and255 _).2, by show 0 ≤ wrap64 (i + 1); rw [wrap_in (by omega) (by omega)]; omega⟩
  · rw [if_neg hi]
    exact ⟨_, rfl, (and255 _).1, (and255 _).2, h0⟩
theorem below_ok (b : List Int) (i h n : Int) (h0 : 0 ≤ i) (hb : b.length ≤ 140737488351232) :
    ∃ r : Int × Int × Int, spec_l1Below.f b i h n = some r ∧ (0 ≤ r.1 ∧ (0 < n → r.1 < n) ∧ (n ≤ 0 → r.1 = 0) ∧ 0 ≤ r.2.1) := by
  unfold spec_l1Below.f
  by_cases hn : n ≤ 0
  · rw [if_pos hn]
    exact ⟨_, rfl, by show (0 : Int) ≤ 0; omega, fun h => by omega, fun _ => rfl, h0⟩
  · rw [if_neg hn]
    by_cases h2 : n ≤ 256
    · rw [if_pos h2]
      refine bindOf (byte_ok b i h h0 hb) fun r ⟨r0, r1, r2⟩ => ?_
      rw [if_neg (by omega)]
      refine ⟨_, rfl, ?_, fun _ => ?_, fun h => by omega, r2⟩
      · show 0 ≤ Int.tmod r.1 n
        rw [Int.tmod_eq_emod_of_nonneg r0]; exact Int.emod_nonneg _ (by omega)
      · show Int.tmod r.1 n < n
        rw [Int.tmod_eq_emod_of_nonneg r0]; exact Int.emod_lt_of_pos _ (by omega)
    · rw [if_neg h2]
      refine bindOf (byte_ok b i h h0 hb) fun r ⟨r0, r1, r2⟩ => ?_
      refine bindOf (byte_ok b _ _ r2 hb) fun s ⟨s0, s1, s2⟩ => ?_
      refine bindOf (byte_ok b _ _ s2 hb) fun t ⟨t0, t1, t2⟩ => ?_
      refine bindOf (byte_ok b _ _ t2 hb) fun u ⟨u0, u1, u2⟩ => ?_
      rw [if_neg (by omega)]
      rw [wrap_in (i := r.1 * 16777216) (by omega) (by omega), wrap_in (i := s.1 * 65536) (by omega) (by omega), wrap_in (i := r.1 * 16777216 + s.1 * 65536) (by omega) (by omega), wrap_in (i := t.1 * 256) (by omega) (by omega), wrap_in (i := r.1 * 16777216 + s.1 * 65536 + t.1 * 256) (by omega) (by omega), wrap_in (i := r.1 * 16777216 + s.1 * 65536 + t.1 * 256 + u.1) (by omega) (by omega)]
      refine ⟨_, rfl, ?_, fun _ => ?_, fun h => by omega, u2⟩
      · show 0 ≤ Int.tmod _ n
        rw [Int.tmod_eq_emod_of_nonneg (by omega)]; exact Int.emod_nonneg _ (by omega)
      · show Int.tmod _ n < n
        rw [Int.tmod_eq_emod_of_nonneg (by omega)]; exact Int.emod_lt_of_pos _ (by omega)
theorem once_ok (b : List Int) (i h n : Int) (h0 : 0 ≤ i) (hb : b.length ≤ 140737488351232) :
    ∃ r : Bool × Int × Int, spec_l1Once.f b i h n = some r ∧ 0 ≤ r.2.1 := by
  unfold spec_l1Once.f
  exact bindOf (below_ok b i h n h0 hb) fun r ⟨_, _, _, r3⟩ => ⟨_, rfl, r3⟩
theorem new_loop (b : List Int) (hb : b.length ≤ 140737488351232) (d : Nat) : ∀ (i : Nat) (x : Int), i + d = b.length → ∃ h, ∀ k, d < k → spec_l1New.l0 k b x (i : Int) = some (b, 0, h) := by
  induction d with
  | zero =>
    intro i x hd
    refine ⟨x, fun k hk => ?_⟩
    obtain ⟨k, rfl⟩ : ∃ z, k = z + 1 := ⟨k - 1, by omega⟩
    simp only [spec_l1New.l0]
    rw [if_neg (by omega)]
  | succ d ih =>
    intro i x hd
    obtain ⟨h, hh⟩ := ih (i + 1) (Go.bits .and .i64 (wrap64 ((wrap64 ((wrap64 (x * 137)) + (wrap64 (rd b (i : Int))))) + 11)) 1073741823) (by omega)
    refine ⟨h, fun k hk => ?_⟩
    obtain ⟨k, rfl⟩ : ∃ z, k = z + 1 := ⟨k - 1, by omega⟩
    simp only [spec_l1New.l0]
    rw [if_pos (by omega), if_pos (by omega), wrap_in (i := (i : Int) + 1) (by omega) (by omega)]
    exact hh k (by omega)
theorem new_ok (b : List Int) (hb : b.length ≤ 140737488351232) : TotP (fun k => spec_l1New.f k b) (fun r => r.1 = b ∧ 0 ≤ r.2.1) := by
  obtain ⟨h, hh⟩ := new_loop b hb b.length 0 (wrap64 (109013 + (b.length : Int))) (by omega)
  refine ⟨(b, 0, h), ⟨b.length + 1, fun k hk => ?_⟩, rfl, by show (0 : Int) ≤ 0; omega⟩
  unfold spec_l1New.f
  exact hh k (by omega)
end Go.Proofs.YtkaknffeoeoajaaDoor.Q
namespace Go.Proofs.YtkaknffeoeoajaaDoor.P
open Go.RowKit Go.Proofs.YtkaknffeoeoajaaDoorW.PrintWords Go.Proofs.YtkaknffeoeoajaaDoorW.PrintLast Go.Proofs.YtkaknffeoeoajaaDoorW.PrintMore
attribute [local go_sem] max2_int min2_int max_two min_two max_three min_three max_four min_four   -- for this text's walks alone
set_option linter.unusedVariables false
set_option linter.unusedSimpArgs false

/-! ### laws_pick: function 12 -/
def laws_pick.l0 : Nat → List Int → Int → Int → Int → Int → Option (Int)
 | 0, _, _, _, _, _ => none
 | k + 1, x0, x1, x2, x7, x8 => if x8 < (x0.length : Int) then (if 0 ≤ x8 then (laws_pick.l0 k x0 x1 x2 (Int.tmod (wrap64 ((wrap64 ((wrap64 (x7 * 113)) + (wrap64 (rd x0 x8)))) + x1)) 1000003) (wrap64 (x8 + 1))) else (none)) else (if x2 = 0 then (none) else (some (Int.tmod x7 x2)))
def laws_pick.f (k : Nat) (l0 : List Int) (a1 : Int) (a2 : Int) : Option (Int) := laws_pick.l0 k l0 a1 a2 (wrap64 ((l0.length : Int) + (wrap64 (7919 * a1)))) 0
theorem laws_pick.mono_l : ∀ k, (∀ y0 y1 y2 y3 y4, LeO (laws_pick.l0 k y0 y1 y2 y3 y4) (laws_pick.l0 (k + 1) y0 y1 y2 y3 y4))
 | 0 => fun _ _ _ _ _ r h => by simp [laws_pick.l0] at h
 | k + 1 => by
  have ih0 := laws_pick.mono_l k
  ·
   intro y0 y1 y2 y3 y4
   unfold laws_pick.l0
   repeat' first
   | (with_reducible exact ih0 _ _ _ _ _)
   | (with_reducible exact LeO.refl _)
   | (with_reducible exact LeO.none _)
   | (with_reducible refine LeO.ite ?_ ?_)
   | (with_reducible refine LeO.bind ?_ (fun _ => ?_))
   | exact ih0 _ _ _ _ _
   | exact LeO.none _
   | refine LeO.ite ?_ ?_
   | refine LeO.bind ?_ (fun _ => ?_)
theorem laws_pick.mono : ∀ a0 a1 a2 k, LeO (laws_pick.f k a0 a1 a2) (laws_pick.f (k + 1) a0 a1 a2) := by
 intro a0 a1 a2 k
 have ih0 := laws_pick.mono_l k
 unfold laws_pick.f
 repeat' first
   | (with_reducible exact ih0 _ _ _ _ _)
   | (with_reducible exact LeO.refl _)
   | (with_reducible exact LeO.none _)
   | (with_reducible refine LeO.ite ?_ ?_)
   | (with_reducible refine LeO.bind ?_ (fun _ => ?_))
   | exact ih0 _ _ _ _ _
   | exact LeO.none _
   | refine LeO.ite ?_ ?_
   | refine LeO.bind ?_ (fun _ => ?_)
set_option maxHeartbeats 8000000 in
set_option maxRecDepth 100000 in
theorem laws_pick.calls (k : Nat) (A0 : Option Addr) (c0 : Nat) (l0 : List Int) (a1 : Int) (a2 : Int) (r : Int) (w : World) (hr0 : Kd.C (Kd.int .u8) w A0 l0.length l0) (hc0 : l0.length ≤ c0) (h : laws_pick.f k l0 a1 a2 = some r) :
  Calls Tryd.prog 12 #[.slice A0 l0.length c0, .int .i64 a1, .int .i64 a2] w fun e w' => e = .returned (.int .i64 r) ∧ Drawn0 w w' := by
 have HR0 := Aside0.mk hr0
 have HC0 := Aside0.mk hc0
 clear hr0 hc0
 have H : (laws_pick.l0 k l0 a1 a2 (wrap64 ((l0.length : Int) + (wrap64 (7919 * a1)))) 0) = some r := h
 clear h
 have H' := Aside0.mk H
 clear H
 go_enter Tryd.func12, Tryd.ntmps12
 go_wp2
 go_loopg [7, 8] k (fun kq v7 v8 w' => ∃ (x7_1 : Int) (x8_1 : Int), v7 = .int .i64 x7_1 ∧ v8 = .int .i64 x8_1 ∧ Aside0 (laws_pick.l0 kq l0 a1 a2 x7_1 x8_1 = some r) ∧ Aside0 (kq ≤ k) ∧ Drawn0 w w')
 case atStart => exact ⟨(wrap64 ((l0.length : Int) + (wrap64 (7919 * a1)))), (0), (by first | rfl | (simp; done) | (simp [*]; done)), (by first | rfl | (simp; done) | (simp [*]; done)), H', ⟨Nat.le_refl _⟩, by repeat (first | exact Drawn0.refl _ | apply Drawn0.step)⟩
 case round =>
  clear H'
  try clear c1
  try clear p2
  obtain ⟨x7_1, x8_1, rfl, rfl, HA, HK1, ⟨m1, rfl⟩⟩ := hrel
  cases gk with
  | zero => exact absurd HA.out (by simp [laws_pick.l0])
  | succ k1 =>
   have H := HA.out
   clear HA
   simp only [laws_pick.l0] at H
   by_cases c4 : x8_1 < (l0.length : Int)
   ·
    rw [if_pos c4] at H
    have c4b0 : decide (x8_1 < (l0.length : Int)) = true := decide_eq_true c4
    clear c4
    by_cases c5 : 0 ≤ x8_1
    ·
     rw [if_pos c5] at H
     have c5b0 : decide (0 ≤ x8_1) = true := decide_eq_true c5
     clear c5
     have H' := Aside0.mk H
     clear H
     have p101 : 0 ≤ (x8_1 : Int) := of_decide_eq_true (by first | (with_reducible assumption) | assumption)
     have q101 : x8_1 < (l0.length : Int) := of_decide_eq_true (by first | (with_reducible assumption) | assumption)
     obtain ⟨ad101, e101, hx101_0⟩ := Kd.at_int HR0.out x8_1 p101 q101
     cases e101
     replace p101 := eq_true p101
     replace q101 := eq_true q101
     go_wp2
     go_roundg k1
     case measure => have := HK1.out; omega
     case rel => exact ⟨(Int.tmod (wrap64 ((wrap64 ((wrap64 (x7_1 * 113)) + (wrap64 (rd l0 x8_1)))) + a1)) 1000003), (wrap64 (x8_1 + 1)), (by first | rfl | (simp; done) | (simp [*]; done)), (by first | rfl | (simp; done) | (simp [*]; done)), H', ⟨by have := HK1.out; omega⟩, by repeat (first | exact Drawn0.refl _ | apply Drawn0.step)⟩
    ·
     rw [if_neg c5] at H
     exact absurd H (by simp)
   ·
    rw [if_neg c4] at H
    have c4b0 : decide (x8_1 < (l0.length : Int)) = false := decide_eq_false c4
    clear c4
    by_cases c6 : a2 = 0
    ·
     rw [if_pos c6] at H
     exact absurd H (by simp)
    ·
     rw [if_neg c6] at H
     have c6b0 : (a2 == 0) = false := beq_eq_false_iff_ne.mpr c6
     have c6b1 : (a2 != 0) = true := bne_iff_ne.mpr c6
     obtain rfl := Option.some.inj H
     go_wp2
     go_ret
     exact ⟨by first | rfl | (simp; done) | (simp [*]; done), by repeat (first | exact Drawn0.refl _ | apply Drawn0.step)⟩
/-! ### spec_l1DrawText: function 35 -/
mutual
def spec_l1DrawText.l0 : Nat → ByteArray → List Int → Int → List Int → Int → Int → Option (ByteArray × Int × Int)
 | 0, _, _, _, _, _, _ => none
 | k + 1, x1, x7, x8, x1000, x1001, x1002 => if x8 > 0 then ((spec_l1Below.f x1000 x1001 x1002 (x1.size : Int)).bind fun bt107 => (if 0 ≤ bt107.1 then (if bt107.1 < (x1.size : Int) then (if x7.length < 140737488355328 then (spec_l1DrawText.l0 k x1 (x7 ++ [bt x1 bt107.1]) (wrap64 (x8 - 1)) x1000 bt107.2.1 bt107.2.2) else (none)) else (none)) else (none))) else ((spec_l1Once.f x1000 x1001 x1002 14).bind fun bt113 => (if bt113.1 = true then (spec_l1DrawText.j1 k x7 (decide ((x7.length : Int) > 0)) x1000 bt113.2.1 bt113.2.2) else (spec_l1DrawText.j1 k x7 false x1000 bt113.2.1 bt113.2.2)))
def spec_l1DrawText.j1 : Nat → List Int → Bool → List Int → Int → Int → Option (ByteArray × Int × Int)
 | 0, _, _, _, _, _ => none
 | k + 1, x7, x33, x1000, x1001, x1002 => if x33 = true then ((spec_l1Below.f x1000 x1001 x1002 (x7.length : Int)).bind fun bt116 => ((spec_l1Byte.f x1000 bt116.2.1 bt116.2.2).bind fun bt119 => (if 0 ≤ bt116.1 then (if bt116.1 < (x7.length : Int) then (some (strOfNums (x7.set (bt116.1 : Int).toNat ((bt119.1) % 256)), bt119.2.1, bt119.2.2)) else (none)) else (none)))) else (some (strOfNums x7, x1001, x1002))
end
def spec_l1DrawText.f (k : Nat) (s0_0 : List Int) (s0_1 : Int) (s0_2 : Int) (a1 : ByteArray) (a2 : Int) : Option (ByteArray × Int × Int) := (spec_l1Below.f s0_0 s0_1 s0_2 (wrap64 (a2 + 1))).bind fun bt104 => (spec_l1DrawText.l0 k a1 (([] : List Int)) bt104.1 s0_0 bt104.2.1 bt104.2.2)
theorem spec_l1DrawText.mono_l : ∀ k, (∀ y0 y1 y2 y3 y4 y5, LeO (spec_l1DrawText.l0 k y0 y1 y2 y3 y4 y5) (spec_l1DrawText.l0 (k + 1) y0 y1 y2 y3 y4 y5)) ∧ (∀ y0 y1 y2 y3 y4, LeO (spec_l1DrawText.j1 k y0 y1 y2 y3 y4) (spec_l1DrawText.j1 (k + 1) y0 y1 y2 y3 y4))
 | 0 => ⟨fun _ _ _ _ _ _ r h => by simp [spec_l1DrawText.l0] at h, fun _ _ _ _ _ r h => by simp [spec_l1DrawText.j1] at h⟩
 | k + 1 => by
  obtain ⟨ih0, ih1⟩ := spec_l1DrawText.mono_l k
  refine ⟨?_, ?_⟩
  ·
   intro y0 y1 y2 y3 y4 y5
   unfold spec_l1DrawText.l0
   repeat' first
   | (with_reducible exact ih0 _ _ _ _ _ _)
   | (with_reducible exact ih1 _ _ _ _ _)
   | (with_reducible exact LeO.refl _)
   | (with_reducible exact LeO.none _)
   | (with_reducible refine LeO.ite ?_ ?_)
   | (with_reducible refine LeO.bind ?_ (fun _ => ?_))
   | exact ih0 _ _ _ _ _ _
   | exact ih1 _ _ _ _ _
   | exact LeO.none _
   | refine LeO.ite ?_ ?_
   | refine LeO.bind ?_ (fun _ => ?_)
  ·
   intro y0 y1 y2 y3 y4
   unfold spec_l1DrawText.j1
   repeat' first
   | (with_reducible exact ih0 _ _ _ _ _ _)
   | (with_reducible exact ih1 _ _ _ _ _)
   | (with_reducible exact LeO.refl _)
   | (with_reducible exact LeO.none _)
   | (with_reducible refine LeO.ite ?_ ?_)
   | (with_reducible refine LeO.bind ?_ (fun _ => ?_))
   | exact ih0 _ _ _ _ _ _
   | exact ih1 _ _ _ _ _
   | exact LeO.none _
   | refine LeO.ite ?_ ?_
   | refine LeO.bind ?_ (fun _ => ?_)
theorem spec_l1DrawText.mono : ∀ a0 a1 a2 a3 a4 k, LeO (spec_l1DrawText.f k a0 a1 a2 a3 a4) (spec_l1DrawText.f (k + 1) a0 a1 a2 a3 a4) := by
 intro a0 a1 a2 a3 a4 k
 obtain ⟨ih0, ih1⟩ := spec_l1DrawText.mono_l k
 unfold spec_l1DrawText.f
 repeat' first
   | (with_reducible exact ih0 _ _ _ _ _ _)
   | (with_reducible exact ih1 _ _ _ _ _)
   | (with_reducible exact LeO.refl _)
   | (with_reducible exact LeO.none _)
   | (with_reducible refine LeO.ite ?_ ?_)
   | (with_reducible refine LeO.bind ?_ (fun _ => ?_))
   | exact ih0 _ _ _ _ _ _
   | exact ih1 _ _ _ _ _
   | exact LeO.none _
   | refine LeO.ite ?_ ?_
   | refine LeO.bind ?_ (fun _ => ?_)
set_option maxHeartbeats 8000000 in
set_option maxRecDepth 100000 in
theorem spec_l1DrawText.calls (k : Nat) (g : Nat) (s0_0 : List Int) (s0_1 : Int) (s0_2 : Int) (a1 : ByteArray) (a2 : Int) (r1 : ByteArray) (r2 : Int) (r3 : Int) (w0 w : World) (hI : IsS79 w0 w g s0_0 s0_1 s0_2) (hB : Below w0.heap.size w0 w) (h : spec_l1DrawText.f k s0_0 s0_1 s0_2 a1 a2 = some (r1, r2, r3)) :
  Calls Tryd.prog 35 #[.pointer (some ⟨g, 0, none⟩), .string a1, .int .i64 a2] w fun e w' => e = .returned (.string r1) ∧ IsS79 w0 w' g s0_0 r2 r3 ∧ Below w0.heap.size w0 w' ∧ KeepBut w w' g none := by
 have HI0 := Aside0.mk hI
 have HK := Aside0.mk (KeepBut.refl w g none)
 have HL := Aside0.mk hB.size
 clear hI
 have HW0 := Aside0.mk hB.size
 have HB := Aside0.mk hB
 clear hB
 have H : ((spec_l1Below.f s0_0 s0_1 s0_2 (wrap64 (a2 + 1))).bind fun bt104 => (spec_l1DrawText.l0 k a1 (([] : List Int)) bt104.1 s0_0 bt104.2.1 bt104.2.2)) = some (r1, r2, r3) := h
 clear h
 obtain ⟨y101, hy101⟩ : ∃ y_ : List Int, y_ = (([] : List Int)) := ⟨_, rfl⟩
 replace H : ((spec_l1Below.f s0_0 s0_1 s0_2 (wrap64 (a2 + 1))).bind fun bt104 => (spec_l1DrawText.l0 k a1 y101 bt104.1 s0_0 bt104.2.1 bt104.2.2)) = some (r1, r2, r3) := by first | (rw [hy101]; with_reducible exact H) | (have H2_ := (Option.bind_some _ _).symm.trans H; rw [hy101]; with_reducible exact H2_) | (have H2_ := (Option.bind_some _ _).symm.trans H; with_reducible exact H2_) | with_reducible exact H | (rw [hy101]; exact H) | exact H
 have Ny101 := Aside0.mk hy101
 clear hy101
 obtain ⟨⟨t104, t105, t106⟩, A40, H⟩ := Option.bind_eq_some_iff.mp H
 try dsimp only at H
 have A4 := Aside0.mk A40
 clear A40
 have H' := Aside0.mk H
 clear H
 go_enter Tryd.func35, Tryd.ntmps35
 go_wp2_with (first | ((with_reducible refine gate_dst (N := 9) rfl ?_); (try (refine gate_guard (by rfl) ?_; dsimp only)); refine Kd.R_lit (Kd.int .u8) _ 5 ?hg (N := 9) ?hd (xs := ([] : List Int)) (inner := []) (ok := fun _ => True) (okp := fun _ => True) ?hr ?hp (fun _ hk => hk) trivial (Below.refl _ _) (Nat.le_refl _) (by simp) ?_; (case hd => rfl); (case hg => rfl); (case hr => first | (go_simp; done) | (go_simp; rfl)); (case hp => exact (Reps.none _ _)); intro v102 w5 ho6 hb hg_ hnew_; clear hg_ hnew_; (first | rw [← Ny101.out] at ho6 | (simp only [Int.reduceToNat] at ho6; rw [← Ny101.out] at ho6)); have HO103 := Aside0.mk (Kd.R_lower ho6 (keep_size (w := w) (g := g) (row := none) zkk)); replace HK := Aside0.mk (KeepBut.trans zkk (KeepBut.of_below hb g none) (.inl rfl)); replace HI0 := Aside0.mk (IsS79.below zis hb); replace HB := Aside0.mk (below_step zbh hb); clear hb ho6) | ((with_reducible refine gate_callee (f := 64) rfl ?_); refine goesL_ (some 13) rfl rfl Tryd.func64 (by kernel_rfl) rfl #[.pointer (some ⟨g, 0, none⟩), .int .i64 (wrap64 (a2 + 1))] rfl mc ?_; (with_reducible refine (spec_l1Below.calls g s0_0 s0_1 s0_2 (wrap64 (a2 + 1)) t104 t105 t106 w0 _ ?side1 ?side2 A4.out).mono ?_); (case side1 => exact zis); (case side2 => exact zbh); rintro e w7 ⟨rfl, hi, hb, hk⟩; refine ⟨_, rfl, ?_⟩; replace HO103 := Aside0.mk (Kd.R_mono (Kd.R_keep (IsS79.apart (show IsS79 w0 _ g s0_0 s0_1 s0_2 from zis) (by (with_reducible repeat (first | apply Kd.R_alloc | apply Kd.R_drewN | apply Kd.R_drew)); exact HO103.out) (by decide)) hk (fun _ h => h.2)) (fun _ h => h.1)); replace HK := Aside0.mk (KeepBut.trans zkk hk (.inl rfl)); replace HI0 := Aside0.mk (hi); replace HB := Aside0.mk (hb); (try clear hb); (try clear hb2); (try clear hk); (try clear hi)))
 go_loopg [7, 8] k (fun kq v7 v8 w' => ∃ (x7_1 : List Int) (x8_1 : Int) (x1001_1 : Int) (x1002_1 : Int), v8 = .int .i64 x8_1 ∧ Aside0 (spec_l1DrawText.l0 kq a1 x7_1 x8_1 s0_0 x1001_1 x1002_1 = some (r1, r2, r3)) ∧ Aside0 (kq ≤ k) ∧ Aside0 (Kd.R (Kd.int .u8) 5 w' w.heap.size (fun _ => True) v7 x7_1) ∧ Aside0 (IsS79 w0 w' g s0_0 x1001_1 x1002_1) ∧ Aside0 (KeepBut w w' g none) ∧ Aside0 (Below w0.heap.size w0 w'))
 case atStart => exact ⟨(y101), (t104), (t105), (t106), (by first | rfl | (simp; done) | (simp [*]; done)), H', ⟨Nat.le_refl _⟩, ⟨by (with_reducible repeat (first | apply Kd.R_alloc | apply Kd.R_drewN | apply Kd.R_drew)); exact HO103.out⟩, ⟨zis⟩, ⟨zkk⟩, ⟨zbh⟩⟩
 case round =>
  clear H'
  try clear p2
  try clear c3
  try clear c6
  try clear p6
  obtain ⟨x7_1, x8_1, x1001_1, x1002_1, rfl, HA, HK1, HO_7, HI0, HK, HB⟩ := hrel
  cases gk with
  | zero => exact absurd HA.out (by simp [spec_l1DrawText.l0])
  | succ k1 =>
   have H := HA.out
   clear HA
   simp only [spec_l1DrawText.l0] at H
   by_cases c8 : x8_1 > 0
   ·
    rw [if_pos c8] at H
    have c8b0 : decide (0 < x8_1) = true := decide_eq_true c8
    clear c8
    obtain ⟨⟨t107, t108, t109⟩, A90, H⟩ := Option.bind_eq_some_iff.mp H
    try dsimp only at H
    have A9 := Aside0.mk A90
    clear A90
    by_cases c10 : 0 ≤ t107
    ·
     rw [if_pos c10] at H
     have c10b0 : decide (0 ≤ t107) = true := decide_eq_true c10
     clear c10
     by_cases c11 : t107 < (a1.size : Int)
     ·
      rw [if_pos c11] at H
      have c11b0 : decide (t107 < (a1.size : Int)) = true := decide_eq_true c11
      clear c11
      by_cases c13 : x7_1.length < 140737488355328
      ·
       rw [if_pos c13] at H
       have LMc13 := Aside0.mk c13
       clear c13
       obtain ⟨y110, hy110⟩ : ∃ y_ : List Int, y_ = (x7_1 ++ [bt a1 t107]) := ⟨_, rfl⟩
       replace H : (spec_l1DrawText.l0 k1 a1 y110 (wrap64 (x8_1 - 1)) s0_0 t108 t109) = some (r1, r2, r3) := by first | (rw [hy110]; with_reducible exact H) | (have H2_ := (Option.bind_some _ _).symm.trans H; rw [hy110]; with_reducible exact H2_) | (have H2_ := (Option.bind_some _ _).symm.trans H; with_reducible exact H2_) | with_reducible exact H | (rw [hy110]; exact H) | exact H
       have Ny110 := Aside0.mk hy110
       clear hy110
       have H' := Aside0.mk H
       clear H
       go_wp2_with (first | ((with_reducible refine gate_callee (f := 64) rfl ?_); refine goesL_ (some 23) rfl rfl Tryd.func64 (by kernel_rfl) rfl #[.pointer (some ⟨g, 0, none⟩), .int .i64 (a1.size : Int)] rfl mc ?_; (with_reducible refine (spec_l1Below.calls g s0_0 x1001_1 x1002_1 (a1.size : Int) t107 t108 t109 w0 _ ?side1 ?side2 A9.out).mono ?_); (case side1 => exact zis); (case side2 => exact zbh); rintro e w14 ⟨rfl, hi, hb, hk⟩; refine ⟨_, rfl, ?_⟩; replace HO_7 := Aside0.mk (Kd.R_mono (Kd.R_keep (IsS79.apart (show IsS79 w0 _ g s0_0 x1001_1 x1002_1 from zis) (by (with_reducible repeat (first | apply Kd.R_alloc | apply Kd.R_drewN | apply Kd.R_drew)); exact HO_7.out) (by decide)) hk (fun _ h => h.2)) (fun _ h => h.1)); replace HK := Aside0.mk (KeepBut.trans zkk hk (.inl rfl)); replace HI0 := Aside0.mk (hi); replace HB := Aside0.mk (hb); (try clear hb); (try clear hb2); (try clear hk); (try clear hi); have p12 : 0 ≤ (t107 : Int) := of_decide_eq_true (by first | (with_reducible assumption) | assumption); have q12 : t107 < (a1.size : Int) := of_decide_eq_true (by first | (with_reducible assumption) | assumption); have hx12 := bt_at a1 t107; replace p12 := eq_true p12; replace q12 := eq_true q12) | ((with_reducible refine gate_builtin (b := .append) (xs := #[.tmp 18, .tmp 25]) rfl ?_); (try (refine gate_guard (by rfl) ?_; dsimp only)); at_builtin; refine Kd.R_append (Kd.int .u8) w.heap.size rfl (.tmp 18) (.tmp 25) 22 5 (.int .u8 0) 1 rfl Tryd.underlying22 info5 rfl (by decide) (by omega) u7 x7_1 (bt a1 t107) [.int .u8 (bt a1 t107)] (fun _ => True) (fun _ => False) rfl rfl ?aP (fun _ hk => hk.elim) ?aF ?aO (Below.refl _ _) ?aS ?aL ?_; (case aP => exact rfl); (case aF => exact (fun _ _ => trivial)); (case aO => exact (by (with_reducible repeat (first | apply Kd.R_alloc | apply Kd.R_drewN | apply Kd.R_drew)); exact HO_7.out)); (case aS => exact (keep_size (w := w) (g := g) (row := none) zkk)); (case aL => have := LMc13.out; omega); intro v111 w15 ho hb hg hat; rw [← Ny110.out] at ho; have n0_ := Aside0.mk (IsS79.grown zis hg (IsS79.own_ne HI0.out HO_7.out (by decide))); have n1_ := Aside0.mk (below_weaken zbh HL.out hb); have n2_ := Aside0.mk (KeepBut.trans zkk (KeepBut.of_grown hg g) (Kd.R_base2 HO_7.out)); have n3_ := Aside0.mk (ho); clear HI0; clear HB; clear HK; clear HO_7; have HI0 := n0_; have HB := n1_; have HK := n2_; have HO112 := n3_; clear n0_ n1_ n2_ n3_; clear ho hb hg hat))
       go_roundg k1
       case measure => have := HK1.out; omega
       case rel => exact ⟨(y110), (wrap64 (x8_1 - 1)), (t108), (t109), (by first | rfl | (simp; done) | (simp [*]; done)), H', ⟨by have := HK1.out; omega⟩, ⟨by (with_reducible repeat (first | apply Kd.R_alloc | apply Kd.R_drewN | apply Kd.R_drew)); exact HO112.out⟩, ⟨zis⟩, ⟨zkk⟩, ⟨zbh⟩⟩
      ·
       rw [if_neg c13] at H
       exact absurd H (by simp)
     ·
      rw [if_neg c11] at H
      exact absurd H (by simp)
    ·
     rw [if_neg c10] at H
     exact absurd H (by simp)
   ·
    rw [if_neg c8] at H
    have c8b0 : decide (0 < x8_1) = false := decide_eq_false c8
    clear c8
    have HC16 := Aside0.mk H
    clear H
    go_upto_region 6 with (fail)
    go_cut [33] (fun v33 wc => ∃ (kq : Nat) (x33_15 : Bool) (x1001_15 : Int) (x1002_15 : Int), v33 = .bool x33_15 ∧ Aside0 (spec_l1DrawText.j1 kq x7_1 x33_15 s0_0 x1001_15 x1002_15 = some (r1, r2, r3)) ∧ Aside0 (kq ≤ k1) ∧ Aside0 (Kd.R (Kd.int .u8) 5 wc w.heap.size (fun _ => True) u7 x7_1) ∧ Aside0 (IsS79 w0 wc g s0_0 x1001_15 x1002_15) ∧ Aside0 (KeepBut w wc g none) ∧ Aside0 (Below w0.heap.size w0 wc))
    case first =>
     have H := HC16.out
     clear HC16
     obtain ⟨⟨t113, t114, t115⟩, A170, H⟩ := Option.bind_eq_some_iff.mp H
     try dsimp only at H
     have A17 := Aside0.mk A170
     clear A170
     by_cases c18 : t113 = true
     ·
      subst c18
      rw [if_pos rfl] at H
      have H' := Aside0.mk H
      clear H
      go_wp2_with (first | ((with_reducible refine gate_callee (f := 36) rfl ?_); refine goesL_ (some 28) rfl rfl Tryd.func36 (by kernel_rfl) rfl #[.pointer (some ⟨g, 0, none⟩), .int .i64 14] rfl mc ?_; (with_reducible refine (spec_l1Once.calls g s0_0 x1001_1 x1002_1 14 true t114 t115 w0 _ ?side1 ?side2 A17.out).mono ?_); (case side1 => exact zis); (case side2 => exact zbh); rintro e w19 ⟨rfl, hi, hb, hk⟩; refine ⟨_, rfl, ?_⟩; replace HO_7 := Aside0.mk (Kd.R_mono (Kd.R_keep (IsS79.apart (show IsS79 w0 _ g s0_0 x1001_1 x1002_1 from zis) (by (with_reducible repeat (first | apply Kd.R_alloc | apply Kd.R_drewN | apply Kd.R_drew)); exact HO_7.out) (by decide)) hk (fun _ h => h.2)) (fun _ h => h.1)); replace HK := Aside0.mk (KeepBut.trans zkk hk (.inl rfl)); replace HI0 := Aside0.mk (hi); replace HB := Aside0.mk (hb); (try clear hb); (try clear hb2); (try clear hk); (try clear hi); obtain ⟨Ao20, co20, eo20⟩ := Kd.R_slice HO_7.out; subst eo20))
      go_meet
      case rel => exact ⟨_, (decide ((x7_1.length : Int) > 0)), (t114), (t115), (by first | rfl | (simp; done) | (simp [*]; done)), H', ⟨by have := HK1.out; first | omega | exact Nat.le_refl _⟩, ⟨by (with_reducible repeat (first | apply Kd.R_alloc | apply Kd.R_drewN | apply Kd.R_drew)); exact HO_7.out⟩, ⟨zis⟩, ⟨zkk⟩, ⟨zbh⟩⟩
     ·
      replace c18 := Bool.eq_false_iff.mpr c18
      subst c18
      rw [if_neg (show ¬ (false = true) by decide)] at H
      have H' := Aside0.mk H
      clear H
      go_wp2_with (first | ((with_reducible refine gate_callee (f := 36) rfl ?_); refine goesL_ (some 28) rfl rfl Tryd.func36 (by kernel_rfl) rfl #[.pointer (some ⟨g, 0, none⟩), .int .i64 14] rfl mc ?_; (with_reducible refine (spec_l1Once.calls g s0_0 x1001_1 x1002_1 14 false t114 t115 w0 _ ?side1 ?side2 A17.out).mono ?_); (case side1 => exact zis); (case side2 => exact zbh); rintro e w21 ⟨rfl, hi, hb, hk⟩; refine ⟨_, rfl, ?_⟩; replace HO_7 := Aside0.mk (Kd.R_mono (Kd.R_keep (IsS79.apart (show IsS79 w0 _ g s0_0 x1001_1 x1002_1 from zis) (by (with_reducible repeat (first | apply Kd.R_alloc | apply Kd.R_drewN | apply Kd.R_drew)); exact HO_7.out) (by decide)) hk (fun _ h => h.2)) (fun _ h => h.1)); replace HK := Aside0.mk (KeepBut.trans zkk hk (.inl rfl)); replace HI0 := Aside0.mk (hi); replace HB := Aside0.mk (hb); (try clear hb); (try clear hb2); (try clear hk); (try clear hi)))
      go_meet
      case rel => exact ⟨_, (false), (t114), (t115), (by first | rfl | (simp; done) | (simp [*]; done)), H', ⟨by have := HK1.out; first | omega | exact Nat.le_refl _⟩, ⟨by (with_reducible repeat (first | apply Kd.R_alloc | apply Kd.R_drewN | apply Kd.R_drew)); exact HO_7.out⟩, ⟨zis⟩, ⟨zkk⟩, ⟨zbh⟩⟩
    case rest =>
     clear HC16
     try clear c1
     try clear p1
     try clear q1
     try clear hx1
     try clear p2
     try clear c3
     try clear c6
     try clear p6
     try clear c8
     try clear c8b0
     try clear c10
     try clear c10b0
     try clear c11
     try clear c11b0
     try clear p12
     try clear q12
     try clear hx12
     try clear c13
     try clear c18
     try clear p12
     try clear p2
     try clear p6
     try clear q12
     obtain ⟨kq, x33_15, x1001_15, x1002_15, rfl, HA, HJ15, HO_7, HI0, HK, HB⟩ := hcut
     cases kq with
     | zero => exact absurd HA.out (by simp [spec_l1DrawText.j1])
     | succ kj15 =>
      have H := HA.out
      clear HA
      simp only [spec_l1DrawText.j1] at H
      by_cases c22 : x33_15 = true
      ·
       subst c22
       rw [if_pos rfl] at H
       obtain ⟨⟨t116, t117, t118⟩, A230, H⟩ := Option.bind_eq_some_iff.mp H
       try dsimp only at H
       have A23 := Aside0.mk A230
       clear A230
       obtain ⟨⟨t119, t120, t121⟩, A240, H⟩ := Option.bind_eq_some_iff.mp H
       try dsimp only at H
       have A24 := Aside0.mk A240
       clear A240
       by_cases c25 : 0 ≤ t116
       ·
        rw [if_pos c25] at H
        have c25b0 : decide (0 ≤ t116) = true := decide_eq_true c25
        clear c25
        by_cases c26 : t116 < (x7_1.length : Int)
        ·
         rw [if_pos c26] at H
         have c26b0 : decide (t116 < (x7_1.length : Int)) = true := decide_eq_true c26
         clear c26
         obtain ⟨y122, hy122⟩ : ∃ y_ : List Int, y_ = (x7_1.set (t116 : Int).toNat ((t119) % 256)) := ⟨_, rfl⟩
         replace H : (some (strOfNums y122, t120, t121)) = some (r1, r2, r3) := by first | (rw [hy122]; with_reducible exact H) | (have H2_ := (Option.bind_some _ _).symm.trans H; rw [hy122]; with_reducible exact H2_) | (have H2_ := (Option.bind_some _ _).symm.trans H; with_reducible exact H2_) | with_reducible exact H | (rw [hy122]; exact H) | exact H
         have Ny122 := Aside0.mk hy122
         clear hy122
         simp only [Option.some.injEq, Prod.mk.injEq] at H
         obtain ⟨rfl, rfl, rfl⟩ := H
         obtain ⟨Ao28, co28, eo28⟩ := Kd.R_slice HO_7.out
         subst eo28
         go_wp2_with (first | ((with_reducible refine gate_callee (f := 64) rfl ?_); refine goesL_ (some 38) rfl rfl Tryd.func64 (by kernel_rfl) rfl #[.pointer (some ⟨g, 0, none⟩), .int .i64 (x7_1.length : Int)] rfl mc ?_; (with_reducible refine (spec_l1Below.calls g s0_0 x1001_15 x1002_15 (x7_1.length : Int) t116 t117 t118 w0 _ ?side1 ?side2 A23.out).mono ?_); (case side1 => exact zis); (case side2 => exact zbh); rintro e w29 ⟨rfl, hi, hb, hk⟩; refine ⟨_, rfl, ?_⟩; replace HO_7 := Aside0.mk (Kd.R_mono (Kd.R_keep (IsS79.apart (show IsS79 w0 _ g s0_0 x1001_15 x1002_15 from zis) (by (with_reducible repeat (first | apply Kd.R_alloc | apply Kd.R_drewN | apply Kd.R_drew)); exact HO_7.out) (by decide)) hk (fun _ h => h.2)) (fun _ h => h.1)); replace HK := Aside0.mk (KeepBut.trans zkk hk (.inl rfl)); replace HI0 := Aside0.mk (hi); replace HB := Aside0.mk (hb); (try clear hb); (try clear hb2); (try clear hk); (try clear hi)) | ((with_reducible refine gate_callee (f := 66) rfl ?_); refine goesL_ (some 40) rfl rfl Tryd.func66 (by kernel_rfl) rfl #[.pointer (some ⟨g, 0, none⟩)] rfl mc ?_; (with_reducible refine (spec_l1Byte.calls g s0_0 t117 t118 t119 t120 t121 w0 _ ?side1 ?side2 A24.out).mono ?_); (case side1 => exact zis); (case side2 => exact zbh); rintro e w30 ⟨rfl, hi, hb, hk⟩; refine ⟨_, rfl, ?_⟩; replace HO_7 := Aside0.mk (Kd.R_mono (Kd.R_keep (IsS79.apart (show IsS79 w0 _ g s0_0 t117 t118 from zis) (by (with_reducible repeat (first | apply Kd.R_alloc | apply Kd.R_drewN | apply Kd.R_drew)); exact HO_7.out) (by decide)) hk (fun _ h => h.2)) (fun _ h => h.1)); replace HK := Aside0.mk (KeepBut.trans zkk hk (.inl rfl)); replace HI0 := Aside0.mk (hi); replace HB := Aside0.mk (hb); (try clear hb); (try clear hb2); (try clear hk); (try clear hi); have p27 : 0 ≤ (t116 : Int) := of_decide_eq_true (by first | (with_reducible assumption) | assumption); have q27 : (t116 : Int) < ((x7_1.length : Int) : Int) := of_decide_eq_true (by first | (with_reducible assumption) | assumption); obtain ⟨go27, co27, eo27, gb27, gl27, cl27, HG27⟩ := Kd.R_form HO_7.out (by omega); (first | cases eo27 | (injection eo27 with ea_ en_ ec_; (first | subst ea_ | (injection ea_ with ea_; subst ea_)); subst ec_; clear en_)); have GB27 := Aside0.mk gb27; have GG27 := Aside0.mk HG27; clear gb27 gl27 HG27; obtain ⟨hx27_0, hf27_0⟩ := Kd.R_celln 0 HO_7.out (t116 : Int) p27 q27; replace p27 := eq_true p27; replace q27 := eq_true q27; obtain ⟨hy31_, hz31_⟩ := Kd.R_celln 0 HO_7.out (t116 : Int) (of_decide_eq_true (by first | (with_reducible assumption) | assumption)) (of_decide_eq_true (by first | (with_reducible assumption) | assumption)); have HP31 := Kd.R_putg HO_7.out (t116 : Int) ((t119) % 256)) | ((with_reducible refine gate_store (t := 5) (p := 42) rfl ?_); refine store_event (t := 5) (p := 42) (v := ?vo_w32) (w1 := (w30.setCell ⟨go27, (t116 : Int).toNat, none⟩ (.int .u8 ((t119) % 256)))) ?hg ?ho ?hn ?hr ?_; (case ho => rfl); (case hg => rfl); (case hn => rfl); (case hr => first | (go_simp; done) | (go_simp; rfl)); intro w32 hw; have hg : w30.grownBy w32 (some go27) := (by rw [hw]; exact HP31.2); have hp_ : Kd.R (Kd.int .u8) 5 w32 w.heap.size (fun _ => True) (.slice (some ⟨go27, 0, none⟩) x7_1.length co28) y122 := (by rw [hw, Ny122.out]; exact HP31.1); clear HP31; have n0_ := Aside0.mk (hp_); have n1_ := Aside0.mk (IsS79.grown zis hg (IsS79.own_ne HI0.out HO_7.out (by decide))); have n2_ := Aside0.mk ((by rw [hw]; exact below_set (HB.out) (Nat.le_trans HL.out GB27.out) : Below w0.heap.size w0 w32)); have n3_ := Aside0.mk (KeepBut.trans zkk (KeepBut.of_grown hg g) (Kd.R_base2 HO_7.out)); clear HO_7; clear HI0; clear HB; clear HK; have HO_7 := n0_; have HI0 := n1_; have HB := n2_; have HK := n3_; clear n0_ n1_ n2_ n3_; clear hg hw hp_; have hcv33 := own_string (P := Tryd.prog) Tryd.underlying22 Tryd.underlying5 Tryd.underlying9 (Kd.own_of_R HO_7.out)))
         go_ret
         exact ⟨er, zis, zbh, zkk⟩
        ·
         rw [if_neg c26] at H
         exact absurd H (by simp)
       ·
        rw [if_neg c25] at H
        exact absurd H (by simp)
      ·
       replace c22 := Bool.eq_false_iff.mpr c22
       subst c22
       rw [if_neg (show ¬ (false = true) by decide)] at H
       simp only [Option.some.injEq, Prod.mk.injEq] at H
       obtain ⟨rfl, rfl, rfl⟩ := H
       have hcv34 := own_string (P := Tryd.prog) Tryd.underlying22 Tryd.underlying5 Tryd.underlying9 (Kd.own_of_R HO_7.out)
       go_wp2
       go_ret
       exact ⟨er, zis, zbh, zkk⟩
end Go.Proofs.YtkaknffeoeoajaaDoor.P
namespace Go.Proofs.YtkaknffeoeoajaaDoor.Q
set_option linter.unusedVariables false
set_option linter.unusedSimpArgs false
open Go.RowKit Go.Proofs.YtkaknffeoeoajaaDoor.P Go.Proofs.YtkaknffeoeoajaaDoorW.PrintWords Go.Proofs.YtkaknffeoeoajaaDoorW.PrintLast Go.Proofs.YtkaknffeoeoajaaDoorW.PrintMore

theorem strOfNums_size (l : List Int) : (strOfNums l).size = l.length := by
  show (strOfNums l).data.size = _
  rw [← Array.length_toList, strOfNums_data, List.length_map]
theorem drawText_end (b : List Int) (hb : b.length ≤ 140737488351232) (x : List Int) (i h : Int) (h0 : 0 ≤ i) (k : Nat) : ∃ r, spec_l1DrawText.j1 (k + 1) x (decide ((x.length : Int) > 0)) b i h = some r ∧ (0 ≤ r.2.1 ∧ r.1.size = x.length) := by
  simp only [spec_l1DrawText.j1]
  by_cases hx : (x.length : Int) > 0
  · rw [decide_eq_true hx, if_pos rfl]
    refine bindOf (below_ok b i h _ h0 hb) fun r0 p0 => ?_
    refine bindOf (byte_ok b _ _ p0.2.2.2 hb) fun r1 p1 => ?_
    rw [if_pos p0.1, if_pos (p0.2.1 (by omega))]
    exact ⟨_, rfl, p1.2.2, by show (strOfNums _).size = _; rw [strOfNums_size, List.length_set]⟩
  · rw [decide_eq_false hx, if_neg (by simp)]
    exact ⟨_, rfl, h0, by show (strOfNums _).size = _; rw [strOfNums_size]⟩
theorem drawText_stop (b : List Int) (hb : b.length ≤ 140737488351232) (x : List Int) (i h : Int) (h0 : 0 ≤ i) (k : Nat) : ∃ r, spec_l1DrawText.j1 (k + 1) x false b i h = some r ∧ (0 ≤ r.2.1 ∧ r.1.size = x.length) := by
  simp only [spec_l1DrawText.j1]
  rw [if_neg (by simp)]
  exact ⟨_, rfl, h0, by show (strOfNums _).size = _; rw [strOfNums_size]⟩
theorem drawText_loop (b : List Int) (hb : b.length ≤ 140737488351232) (signs : ByteArray) (hs : 0 < signs.size) (d : Nat) : ∀ (x : List Int) (i h : Int), 0 ≤ i → x.length + d ≤ 1000000 →
    ∃ r, (0 ≤ r.2.1 ∧ r.1.size = x.length + d) ∧ ∀ k, d + 1 < k → spec_l1DrawText.l0 k signs x (d : Int) b i h = some r := by
  induction d with
  | zero =>
    intro x i h h0 hd
    obtain ⟨r0, e0, p0⟩ := once_ok b i h 14 h0 hb
    by_cases hc : r0.1 = true
    · obtain ⟨r1, _, p1⟩ := drawText_end b hb x r0.2.1 r0.2.2 p0 0
      refine ⟨r1, p1, fun k hk => ?_⟩
      obtain ⟨k, rfl⟩ : ∃ z, k = z + 2 := ⟨k - 2, by omega⟩
      simp only [spec_l1DrawText.l0]
      rw [if_neg (by omega), e0]
      simp only [Option.bind_some]
      rw [if_pos hc]
      obtain ⟨r2, e2, _⟩ := drawText_end b hb x r0.2.1 r0.2.2 p0 k
      have e3 : spec_l1DrawText.j1 (k + 1) x (decide ((x.length : Int) > 0)) b r0.2.1 r0.2.2 = spec_l1DrawText.j1 (0 + 1) x (decide ((x.length : Int) > 0)) b r0.2.1 r0.2.2 := by simp only [spec_l1DrawText.j1]
      rw [e3]
      assumption
    · refine ⟨(strOfNums x, r0.2.1, r0.2.2), ⟨p0, by show (strOfNums x).size = _; rw [strOfNums_size]; rfl⟩, fun k hk => ?_⟩
      obtain ⟨k, rfl⟩ : ∃ z, k = z + 2 := ⟨k - 2, by omega⟩
      simp only [spec_l1DrawText.l0]
      rw [if_neg (by omega), e0]
      simp only [Option.bind_some]
      rw [if_neg hc]
      simp only [spec_l1DrawText.j1]
      rw [if_neg (by simp)]
  | succ d ih =>
    intro x i h h0 hd
    obtain ⟨r0, e0, p0⟩ := below_ok b i h (signs.size : Int) h0 hb
    obtain ⟨r, p, hr⟩ := ih (x ++ [bt signs r0.1]) r0.2.1 r0.2.2 p0.2.2.2 (by rw [List.length_append, List.length_singleton]; omega)
    refine ⟨r, ⟨p.1, by rw [p.2, List.length_append, List.length_singleton]; omega⟩, fun k hk => ?_⟩
    obtain ⟨k, rfl⟩ : ∃ z, k = z + 1 := ⟨k - 1, by omega⟩
    simp only [spec_l1DrawText.l0]
    rw [if_pos (by omega), e0]
    simp only [Option.bind_some]
    rw [if_pos p0.1, if_pos (p0.2.1 (by omega)), if_pos (by omega), wrap_in (i := ((d + 1 : Nat) : Int) - 1) (by omega) (by omega), show ((d + 1 : Nat) : Int) - 1 = (d : Int) by omega]
    exact hr k (by omega)
theorem drawText_ok (b : List Int) (hb : b.length ≤ 140737488351232) (i h : Int) (h0 : 0 ≤ i) (signs : ByteArray) (hs : 0 < signs.size) (m : Int) (m0 : 0 ≤ m) (m1 : m ≤ 1000) :
    TotP (fun k => spec_l1DrawText.f k b i h signs m) (fun r => 0 ≤ r.2.1 ∧ r.1.size ≤ m.toNat) := by
  unfold spec_l1DrawText.f
  rw [wrap_in (i := m + 1) (by omega) (by omega)]
  refine TotP.bind (TotP.of (below_ok b i h _ h0 hb)) fun r0 p0 => ?_
  obtain ⟨r, p, hr⟩ := drawText_loop b hb signs hs r0.1.toNat [] r0.2.1 r0.2.2 p0.2.2.2 (by have := p0.2.1 (by omega); simp only [List.length_nil]; omega)
  refine ⟨r, ⟨r0.1.toNat + 2, fun k hk => ?_⟩, p.1, by rw [p.2]; have := p0.2.1 (by omega); simp only [List.length_nil]; omega⟩
  have := hr k (by omega)
  rw [Int.toNat_of_nonneg p0.1] at this
  exact this
theorem rd_byte (b : List Int) (hx : ∀ x ∈ b, 0 ≤ x ∧ x ≤ 255) (i : Int) : 0 ≤ rd b i ∧ rd b i ≤ 255 := by
  unfold rd
  rw [List.getD_eq_getElem?_getD]
  cases h : b[i.toNat]? with
  | none => exact ⟨by decide, by decide⟩
  | some v => exact hx v (List.mem_of_getElem? h)
theorem pick_loop (b : List Int) (hb : b.length ≤ 140737488351232) (hx : ∀ x ∈ b, 0 ≤ x ∧ x ≤ 255) (s n : Int) (hs : 0 ≤ s ∧ s ≤ 1000) (hn : 0 < n) (d : Nat) : ∀ (i : Nat) (x : Int), i + d = b.length → 0 ≤ x → x ≤ 9000000000000000 → (∃ r, (0 ≤ r ∧ r < n) ∧ ∀ k, d < k → laws_pick.l0 k b s n x (i : Int) = some r) := by
  induction d with
  | zero =>
    intro i x hd x0 x1
    refine ⟨Int.tmod x n, ?_, fun k hk => ?_⟩
    · rw [Int.tmod_eq_emod_of_nonneg x0]; exact ⟨Int.emod_nonneg _ (by omega), Int.emod_lt_of_pos _ hn⟩
    obtain ⟨k, rfl⟩ : ∃ z, k = z + 1 := ⟨k - 1, by omega⟩
    simp only [laws_pick.l0]
    rw [if_neg (by omega), if_neg (by omega)]
  | succ d ih =>
    intro i x hd x0 x1
    have hr := rd_byte b hx (i : Int)
    have e : wrap64 ((wrap64 ((wrap64 (x * 113)) + (wrap64 (rd b (i : Int))))) + s) = x * 113 + rd b (i : Int) + s := by
      rw [wrap_in (i := x * 113) (by omega) (by omega), wrap_in (i := rd b (i : Int)) (by omega) (by omega), wrap_in (i := x * 113 + rd b (i : Int)) (by omega) (by omega), wrap_in (by omega) (by omega)]
    have e1 : 0 ≤ Int.tmod (x * 113 + rd b (i : Int) + s) 1000003 ∧ Int.tmod (x * 113 + rd b (i : Int) + s) 1000003 ≤ 9000000000000000 := by
      rw [Int.tmod_eq_emod_of_nonneg (by omega)]
      omega
    obtain ⟨r, p, hr⟩ := ih (i + 1) (Int.tmod (x * 113 + rd b (i : Int) + s) 1000003) (by omega) e1.1 e1.2
    refine ⟨r, p, fun k hk => ?_⟩
    obtain ⟨k, rfl⟩ : ∃ z, k = z + 1 := ⟨k - 1, by omega⟩
    simp only [laws_pick.l0]
    rw [if_pos (by omega), if_pos (by omega), wrap_in (i := (i : Int) + 1) (by omega) (by omega), e]
    exact hr k (by omega)
theorem pick_ok (b : List Int) (hb : b.length ≤ 140737488351232) (hx : ∀ x ∈ b, 0 ≤ x ∧ x ≤ 255) (s n : Int) (hs : 0 ≤ s ∧ s ≤ 1000) (hn : 0 < n) : TotP (fun k => laws_pick.f k b s n) (fun r => 0 ≤ r ∧ r < n) := by
  have e : wrap64 ((b.length : Int) + (wrap64 (7919 * s))) = b.length + 7919 * s := by rw [wrap_in (i := 7919 * s) (by omega) (by omega), wrap_in (by omega) (by omega)]
  obtain ⟨r, p, hr⟩ := pick_loop b hb hx s n hs hn b.length 0 ((b.length : Int) + 7919 * s) (by omega) (by omega) (by omega)
  refine ⟨r, ⟨b.length + 1, fun k hk => ?_⟩, p⟩
  unfold laws_pick.f
  rw [e]
  exact hr k (by omega)
end Go.Proofs.YtkaknffeoeoajaaDoor.Q
namespace Go.Proofs.YtkaknffeoeoajaaDoor.Q
set_option linter.unusedVariables false
set_option linter.unusedSimpArgs false
open Go.RowKit Go.Proofs.YtkaknffeoeoajaaDoor.P Go.Proofs.YtkaknffeoeoajaaDoorW.PrintWords
theorem bendL_ok (b : List Int) (hb : b.length ≤ 140737488351232) (s : ByteArray) (hs : 0 < s.size) (d : Nat) : ∀ (x : List Int) (i h : Int), 0 ≤ i → x.length + d < 1000000000 → TotP (fun k => bendL s b k x (d : Int) i h) (fun r => r.1.size ≤ x.length + d ∧ 0 ≤ r.2.1) := by
  induction d with
  | zero =>
    intro x i h h0 hx
    refine TotP.step (f := fun _ => some (strOfNums x, i, h)) (fun k => ?_) (TotP.now ⟨by show (strOfNums x).size ≤ _; rw [strOfNums_size]; omega, h0⟩)
    rw [bendL, if_neg (fun q => absurd q.1 (by omega))]
  | succ d ih =>
    intro x i h h0 hx
    by_cases hn : 0 < x.length
    · have hw : wrap64 (((d + 1 : Nat) : Int) - 1) = (d : Int) := by rw [wrap_in (by omega) (by omega)]; omega
      refine TotP.step (f := fun k => (spec_l1Below.f b i h (x.length : Int)).bind fun r1 => (spec_l1Below.f b r1.2.1 r1.2.2 4).bind fun r2 =>
        if 0 ≤ r1.1 ∧ r1.1 < (x.length : Int) ∧ x.length < 1000000000 then
          if r2.1 = 0 then (spec_l1Below.f b r2.2.1 r2.2.2 (s.size : Int)).bind fun r3 => if 0 ≤ r3.1 ∧ r3.1 < (s.size : Int) then bendL s b k (x.set r1.1.toNat (bt s r3.1)) (d : Int) r3.2.1 r3.2.2 else none
          else if r2.1 = 1 then bendL s b k (x.take r1.1.toNat) (d : Int) r2.2.1 r2.2.2
          else if r2.1 = 2 then bendL s b k (x.take r1.1.toNat ++ x.drop (r1.1 + 1).toNat) (d : Int) r2.2.1 r2.2.2
          else if r2.1 = 3 then (spec_l1Below.f b r2.2.1 r2.2.2 (s.size : Int)).bind fun r3 => if 0 ≤ r3.1 ∧ r3.1 < (s.size : Int) then bendL s b k (x.take r1.1.toNat ++ [bt s r3.1] ++ x.drop r1.1.toNat) (d : Int) r3.2.1 r3.2.2 else none
          else bendL s b k x (d : Int) r2.2.1 r2.2.2
        else none) (fun k => ?_) ?_
      · rw [bendL, if_pos ⟨by omega, hn⟩, hw]
      · refine TotP.bind (TotP.of (below_ok b i h (x.length : Int) h0 hb)) fun r1 p1 => TotP.bind (TotP.of (below_ok b _ _ 4 p1.2.2.2 hb)) fun r2 p2 => ?_
        have hr1 := p1.2.1 (by omega)
        have hr0 := p1.1
        refine TotP.ite (fun _ => ?_) (fun c => absurd ⟨hr0, hr1, by omega⟩ c)
        refine TotP.ite (fun _ => ?_) fun _ => TotP.ite (fun _ => ?_) fun _ => TotP.ite (fun _ => ?_) fun _ => TotP.ite (fun _ => ?_) fun _ => ?_
        · refine TotP.bind (TotP.of (below_ok b _ _ (s.size : Int) p2.2.2.2 hb)) fun r3 p3 => TotP.ite (fun _ => ?_) (fun c => absurd ⟨p3.1, p3.2.1 (by omega)⟩ c)
          have hl : (x.set r1.1.toNat (bt s r3.1)).length = x.length := List.length_set
          exact (ih _ _ _ p3.2.2.2 (by omega)).imp fun r hr => ⟨by omega, hr.2⟩
        · have hl : (x.take r1.1.toNat).length ≤ x.length := by rw [List.length_take]; omega
          exact (ih _ _ _ p2.2.2.2 (by omega)).imp fun r hr => ⟨by omega, hr.2⟩
        · have hl : (x.take r1.1.toNat ++ x.drop (r1.1 + 1).toNat).length ≤ x.length := by rw [List.length_append, List.length_take, List.length_drop]; omega
          exact (ih _ _ _ p2.2.2.2 (by omega)).imp fun r hr => ⟨by omega, hr.2⟩
        · refine TotP.bind (TotP.of (below_ok b _ _ (s.size : Int) p2.2.2.2 hb)) fun r3 p3 => TotP.ite (fun _ => ?_) (fun c => absurd ⟨p3.1, p3.2.1 (by omega)⟩ c)
          have hl : (x.take r1.1.toNat ++ [bt s r3.1] ++ x.drop r1.1.toNat).length ≤ x.length + 1 := by rw [List.length_append, List.length_append, List.length_take, List.length_drop, List.length_singleton]; omega
          exact (ih _ _ _ p3.2.2.2 (by omega)).imp fun r hr => ⟨by omega, hr.2⟩
        · exact (ih _ _ _ p2.2.2.2 (by omega)).imp fun r hr => ⟨by omega, hr.2⟩
    · refine TotP.step (f := fun _ => some (strOfNums x, i, h)) (fun k => ?_) (TotP.now ⟨by show (strOfNums x).size ≤ _; rw [strOfNums_size]; omega, h0⟩)
      rw [bendL, if_neg (fun q => hn q.2)]
theorem bend_ok (b : List Int) (hb : b.length ≤ 140737488351232) (t s : ByteArray) (ht : t.size ≤ 100000000) (hs : 0 < s.size) (i h : Int) (h0 : 0 ≤ i) : TotP (fun k => spec_l1Bend.f k b i h t s) (fun r => r.1.size ≤ t.size + 2 ∧ 0 ≤ r.2.1) := by
  unfold spec_l1Bend.f
  refine TotP.ite (fun _ => ?_) (fun c => absurd (by omega) c)
  refine TotP.bind (TotP.of (below_ok b i h 3 h0 hb)) fun r p => ?_
  have h3 := p.2.1 (by decide)
  have h2 := p.1
  have hl := bytesOf_length t
  have := bendL_ok b hb s hs r.1.toNat (bytesOf t) r.2.1 r.2.2 p.2.2.2 (by omega)
  rw [Int.toNat_of_nonneg h2] at this
  exact this.imp fun q hq => ⟨by omega, hq.2⟩
end Go.Proofs.YtkaknffeoeoajaaDoor.Q
namespace Go.Proofs.YtkaknffeoeoajaaDoor.Q
set_option linter.unusedVariables false
set_option linter.unusedSimpArgs false
open Go.RowKit Go.Proofs.YtkaknffeoeoajaaDoor.P Go.Proofs.YtkaknffeoeoajaaDoorW.PrintWords Go.Proofs.YtkaknffeoeoajaaDoorW.PrintLast Go.Proofs.YtkaknffeoeoajaaDoorW.PrintMore

theorem bytes_extract (s : ByteArray) (a b : Nat) : bytesOf (s.extract a b) = ((bytesOf s).drop a).take (b - a) := by
  unfold bytesOf
  rw [Lib.extract_data, List.map_take, List.map_drop]
theorem bytes_last (s : ByteArray) (h : 0 < s.size) : bytesOf s = bytesOf (s.extract 0 (s.size - 1)) ++ [bt s ((s.size - 1 : Nat) : Int)] := by
  rw [bytes_extract, List.drop_zero, Nat.sub_zero]
  have h1 := drop_bt s (s.size - 1) (by omega)
  have h2 : (bytesOf s).drop (s.size - 1 + 1) = [] := List.drop_of_length_le (by rw [bytesOf_length]; omega)
  rw [h2] at h1
  rw [← h1, List.take_append_drop]
theorem bytes_first (s : ByteArray) (h : 0 < s.size) : bytesOf s = bt s 0 :: bytesOf (s.extract 1 s.size) := by
  rw [bytes_extract]
  have h1 := drop_bt s 0 h
  rw [List.drop_zero] at h1
  rw [List.take_of_length_le (by rw [List.length_drop, bytesOf_length]; exact Nat.le_refl _)]
  exact h1
theorem size_extract (s : ByteArray) (a b : Nat) (hb : b ≤ s.size) : (s.extract a b).size = b - a := by
  rw [← bytesOf_length, bytes_extract, List.length_take, List.length_drop, bytesOf_length]
  omega
theorem toList_nil (s : ByteArray) : s.toList = [] ↔ s.size = 0 := by
  rw [toList_data, ← data_length]
  exact List.length_eq_zero_iff.symm
theorem bytes_nil (s : ByteArray) (h : s.size = 0) : bytesOf s = [] := List.eq_nil_of_length_eq_zero (by rw [bytesOf_length]; exact h)
theorem bytes_ofList (l : List UInt8) : bytesOf ⟨l.toArray⟩ = l.map fun b => (b.toNat : Int) := by
  unfold bytesOf
  rfl
theorem bytes_two (s : ByteArray) (i : Nat) (h : i + 2 ≤ s.size) : bytesOf (s.extract i (i + 2)) = [bt s (i : Int), bt s ((i + 1 : Nat) : Int)] := by
  rw [bytes_extract, drop_bt s i (by omega), drop_bt s (i + 1) (by omega), show i + 2 - i = 2 from by omega]
  rfl
def inB (x a b : Int) : Bool := decide (a ≤ x) && decide (x ≤ b)
theorem spec_l1In_is (x a b : Int) : spec_l1In.f x a b = some (inB x a b) := by
  unfold spec_l1In.f inB
  by_cases h : x ≥ a
  · rw [if_pos h, decide_eq_true (by omega : a ≤ x), Bool.true_and]
  · rw [if_neg h, decide_eq_false (by omega : ¬ a ≤ x), Bool.false_and]
theorem impl_within_is (x a b : Int) : impl_within.f x a b = some (inB x a b) := by
  unfold impl_within.f inB
  by_cases h : x ≥ a
  · rw [if_pos h, decide_eq_true (by omega : a ≤ x), Bool.true_and]
  · rw [if_neg h, decide_eq_false (by omega : ¬ a ≤ x), Bool.false_and]
theorem inB_true {x a b : Int} (h : inB x a b = true) : a ≤ x ∧ x ≤ b := by unfold inB at h; simpa using h
def leapB (y : Int) : Bool := if Int.tmod y 4 = 0 then (if Int.tmod y 100 = 0 then Int.tmod y 400 == 0 else true) else Int.tmod y 400 == 0
theorem spec_Leap_is (y : Int) : spec_Leap.f y = some (leapB y) := by
  unfold spec_Leap.f leapB
  split
  · split <;> rfl
  · rfl
theorem impl_Leap_is (y : Int) : impl_Leap.f y = some (leapB y) := spec_Leap_is y
/-- How many days a month has. -/
def monthDays (y m : Int) : Int := if m = 2 then (if leapB y = true then 29 else 28) else if m = 4 ∨ m = 6 ∨ m = 9 ∨ m = 11 then 30 else 31
theorem monthDays_range (y m : Int) : 28 ≤ monthDays y m ∧ monthDays y m ≤ 31 := by
  unfold monthDays
  split
  · split <;> omega
  · split <;> omega
theorem spec_l2Month_is (y m : Int) (h0 : 1 ≤ m) (h1 : m ≤ 12) : spec_l2Month.f y m = some (monthDays y m) := by
  unfold spec_l2Month.f monthDays
  rw [spec_Leap_is]
  have hm : m = 1 ∨ m = 2 ∨ m = 3 ∨ m = 4 ∨ m = 5 ∨ m = 6 ∨ m = 7 ∨ m = 8 ∨ m = 9 ∨ m = 10 ∨ m = 11 ∨ m = 12 := by omega
  rcases hm with rfl | rfl | rfl | rfl | rfl | rfl | rfl | rfl | rfl | rfl | rfl | rfl
  all_goals
    clear h0 h1
    generalize leapB y = b
    cases b <;> decide +kernel
theorem impl_daysIn_is (y m : Int) (k : Nat) (hk : 1 ≤ k) : impl_daysIn.f k y m = some (monthDays y m) := by
  obtain ⟨k, rfl⟩ : ∃ n, k = n + 1 := ⟨k - 1, by omega⟩
  unfold impl_daysIn.f monthDays
  simp only [impl_daysIn.j0, impl_Leap_is, Option.bind_some]
  by_cases h4 : m = 4
  · subst h4; simp
  · rw [if_neg h4]
    by_cases h6 : m = 6
    · subst h6; simp
    · rw [if_neg h6]
      by_cases h9 : m = 9
      · subst h9; simp
      · rw [if_neg h9]
        by_cases h11 : m = 11
        · subst h11; simp
        · have hb : (m == 11) = false := by simpa using h11
          by_cases h2 : m = 2
          · subst h2
            cases leapB y <;> simp
          · simp [hb, h2, h4, h6, h9, h11]
def dateOk (y m d h n s : Int) : Bool := inB y 1970 9999 && (inB m 1 12 && (inB d 1 (monthDays y m) && (inB h 0 23 && (inB n 0 59 && inB s 0 59))))
theorem spec_DateOk_is (y m d h n s : Int) : spec_DateOk.f y m d h n s = some (dateOk y m d h n s) := by
  unfold spec_DateOk.f dateOk
  simp only [spec_l1In_is, Option.bind_some]
  cases h1 : inB y 1970 9999
  · simp
  · cases h2 : inB m 1 12
    · simp
    · obtain ⟨a, b⟩ := inB_true h2
      simp only [if_true, spec_l2Month_is y m a b, Option.bind_some, Bool.true_and]
      cases inB d 1 (monthDays y m) <;> cases inB h 0 23 <;> cases inB n 0 59 <;> simp
theorem impl_DateOk_is (y m d h n s : Int) (k : Nat) (hk : 1 ≤ k) : impl_DateOk.f k y m d h n s = some (dateOk y m d h n s) := by
  unfold impl_DateOk.f dateOk
  simp only [impl_within_is, impl_daysIn_is y m k hk, Option.bind_some]
  cases h1 : inB y 1970 9999
  · simp
  · cases h2 : inB m 1 12
    · simp
    · cases inB d 1 (monthDays y m) <;> cases inB h 0 23 <;> cases inB n 0 59 <;> simp
/-- The days ahead of a year. -/
def yearD (y : Int) : Int := 365 * (y - 1970) + (y - 1) / 4 - (y - 1) / 100 + (y - 1) / 400 - 477
def leapN (y : Int) : Int := if leapB y = true then 1 else 0
theorem leapB_iff (y : Int) (h : 0 ≤ y) : leapB y = true ↔ (y % 4 = 0 ∧ y % 100 ≠ 0) ∨ y % 400 = 0 := by
  unfold leapB
  rw [Int.tmod_eq_emod_of_nonneg h, Int.tmod_eq_emod_of_nonneg h, Int.tmod_eq_emod_of_nonneg h]
  by_cases h4 : y % 4 = 0
  · rw [if_pos h4]
    by_cases h1 : y % 100 = 0
    · rw [if_pos h1]; simp; omega
    · rw [if_neg h1]; simp; omega
  · rw [if_neg h4]; simp; omega
theorem yearD_next (y : Int) (h : 0 ≤ y) : yearD (y + 1) = yearD y + 365 + leapN y := by
  unfold yearD leapN
  by_cases hl : leapB y = true
  · rw [if_pos hl]
    have := (leapB_iff y h).1 hl
    omega
  · rw [if_neg hl]
    have : ¬ ((y % 4 = 0 ∧ y % 100 ≠ 0) ∨ y % 400 = 0) := fun h' => hl ((leapB_iff y h).2 h')
    omega
theorem leapN_range (y : Int) : 0 ≤ leapN y ∧ leapN y ≤ 1 := by unfold leapN; split <;> omega
theorem yearD_range (y : Int) (h0 : 1970 ≤ y) (h1 : y ≤ 10000) : 0 ≤ yearD y ∧ yearD y ≤ 2932897 := by unfold yearD; omega
theorem yearD_mono (y : Int) (n : Nat) (h : 0 ≤ y) : yearD y + 365 * n ≤ yearD (y + n) := by
  induction n with
  | zero => simp
  | succ n ih =>
    have h1 := yearD_next (y + n) (by omega)
    have h2 := leapN_range (y + n)
    rw [show y + ((n + 1 : Nat) : Int) = y + n + 1 from by omega]
    omega
theorem yearD_lt (y z : Int) (h : 0 ≤ y) (hz : y < z) : yearD (y + 1) ≤ yearD z := by
  have := yearD_mono (y + 1) (z - (y + 1)).toNat (by omega)
  rw [show y + 1 + ((z - (y + 1)).toNat : Int) = z from by omega] at this
  omega
/-- The days of a year ahead of a month. -/
def monthD (y : Int) : Nat → Int
  | 0 => 0
  | m + 1 => if m = 0 then 0 else monthD y m + monthDays y m
theorem monthD_one (y : Int) : monthD y 1 = 0 := rfl
theorem monthD_next (y : Int) (m : Nat) (h : 1 ≤ m) : monthD y (m + 1) = monthD y m + monthDays y m := by
  show (if m = 0 then 0 else monthD y m + monthDays y m) = _
  rw [if_neg (by omega)]
theorem monthD_mono (y : Int) (m n : Nat) (h : 1 ≤ m) : monthD y m + 28 * n ≤ monthD y (m + n) := by
  induction n with
  | zero => simp
  | succ n ih =>
    have h1 := monthD_next y (m + n) (by omega)
    have h2 := monthDays_range y ((m + n : Nat) : Int)
    rw [show m + (n + 1) = m + n + 1 from by omega]
    omega
theorem monthD_lt (y : Int) (m n : Nat) (h : 1 ≤ m) (hn : m < n) : monthD y (m + 1) ≤ monthD y n := by
  have := monthD_mono y (m + 1) (n - (m + 1)) (by omega)
  rw [show m + 1 + (n - (m + 1)) = n from by omega] at this
  omega
theorem monthD_all (y : Int) : monthD y 13 = 365 + leapN y := by
  simp only [monthD_next y _ (by omega : 1 ≤ 12), monthD_next y _ (by omega : 1 ≤ 11), monthD_next y _ (by omega : 1 ≤ 10), monthD_next y _ (by omega : 1 ≤ 9), monthD_next y _ (by omega : 1 ≤ 8), monthD_next y _ (by omega : 1 ≤ 7), monthD_next y _ (by omega : 1 ≤ 6), monthD_next y _ (by omega : 1 ≤ 5), monthD_next y _ (by omega : 1 ≤ 4), monthD_next y _ (by omega : 1 ≤ 3), monthD_next y _ (by omega : 1 ≤ 2), monthD_next y _ (by omega : 1 ≤ 1), monthD_one]
  unfold leapN monthDays
  cases leapB y <;> simp
theorem monthD_range (y : Int) (m : Nat) (h0 : 1 ≤ m) (h1 : m ≤ 13) : 0 ≤ monthD y m ∧ monthD y m ≤ 366 := by
  have a := monthD_mono y 1 (m - 1) (Nat.le_refl _)
  have b := monthD_mono y m (13 - m) h0
  rw [show 1 + (m - 1) = m from by omega, monthD_one] at a
  rw [show m + (13 - m) = 13 from by omega, monthD_all] at b
  have := leapN_range y
  omega
/-- The days ahead of a date, its moment. -/
def dayN (y m d : Int) : Int := yearD y + monthD y m.toNat + d - 1
def momentN (y m d h n s : Int) : Int := dayN y m d * 86400 + h * 3600 + n * 60 + s
structure Good (y m d h n s : Int) : Prop where
  y0 : 1970 ≤ y
  y1 : y ≤ 9999
  m0 : 1 ≤ m
  m1 : m ≤ 12
  d0 : 1 ≤ d
  d1 : d ≤ monthDays y m
  h0 : 0 ≤ h
  h1 : h ≤ 23
  n0 : 0 ≤ n
  n1 : n ≤ 59
  s0 : 0 ≤ s
  s1 : s ≤ 59
theorem good_iff (y m d h n s : Int) : dateOk y m d h n s = true ↔ Good y m d h n s := by
  unfold dateOk inB
  simp only [Bool.and_eq_true, decide_eq_true_eq]
  constructor
  · rintro ⟨⟨a, b⟩, ⟨c, d⟩, ⟨e, f⟩, ⟨g, h⟩, ⟨i, j⟩, k, l⟩
    exact ⟨a, b, c, d, e, f, g, h, i, j, k, l⟩
  · intro g
    exact ⟨⟨g.y0, g.y1⟩, ⟨g.m0, g.m1⟩, ⟨g.d0, g.d1⟩, ⟨g.h0, g.h1⟩, ⟨g.n0, g.n1⟩, g.s0, g.s1⟩
/-- A day of a year lies within it, a day of a month within that. -/
theorem day_in {y m d : Int} (hm0 : 1 ≤ m) (hm1 : m ≤ 12) (hd0 : 1 ≤ d) (hd1 : d ≤ monthDays y m) : 0 ≤ monthD y m.toNat + d - 1 ∧ monthD y m.toNat + d - 1 < monthD y (m.toNat + 1) ∧ monthD y (m.toNat + 1) ≤ 365 + leapN y := by
  have h1 := monthD_next y m.toNat (by omega)
  rw [show ((m.toNat : Nat) : Int) = m from by omega] at h1
  have h2 := monthD_range y m.toNat (by omega) (by omega)
  have h3 := monthD_mono y (m.toNat + 1) (12 - m.toNat) (by omega)
  rw [show m.toNat + 1 + (12 - m.toNat) = 13 from by omega, monthD_all] at h3
  omega
theorem dayN_in {y m d : Int} (hy : 0 ≤ y) (hm0 : 1 ≤ m) (hm1 : m ≤ 12) (hd0 : 1 ≤ d) (hd1 : d ≤ monthDays y m) : yearD y ≤ dayN y m d ∧ dayN y m d < yearD (y + 1) := by
  have := day_in hm0 hm1 hd0 hd1
  have h2 := yearD_next y hy
  unfold dayN
  omega
theorem dayN_range {y m d h n s : Int} (g : Good y m d h n s) : 0 ≤ dayN y m d ∧ dayN y m d ≤ 2932896 := by
  have h1 := dayN_in (by have := g.y0; omega) g.m0 g.m1 g.d0 g.d1
  have h2 := yearD_range y g.y0 (by have := g.y1; omega)
  have h3 := yearD_range (y + 1) (by have := g.y0; omega) (by have := g.y1; omega)
  omega
theorem momentN_range {y m d h n s : Int} (g : Good y m d h n s) : 0 ≤ momentN y m d h n s ∧ momentN y m d h n s ≤ 253402300799 := by
  have h1 := dayN_range g
  have := g.h0; have := g.h1; have := g.n0; have := g.n1; have := g.s0; have := g.s1
  unfold momentN
  omega
/-- Each day has its year .. -/
theorem year_of (L : Int) (h0 : 0 ≤ L) (h1 : L ≤ 2932896) : ∃ y, 1970 ≤ y ∧ y ≤ 9999 ∧ yearD y ≤ L ∧ L < yearD (y + 1) := by
  have key : ∀ n : Nat, n ≤ 8030 → L < yearD (1970 + (n : Int)) → ∃ y : Int, 1970 ≤ y ∧ y < 1970 + (n : Int) ∧ yearD y ≤ L ∧ L < yearD (y + 1) := by
    intro n
    induction n with
    | zero =>
      intro _ h
      exfalso
      have e : yearD (1970 + ((0 : Nat) : Int)) = 0 := by decide
      omega
    | succ n ih =>
      intro hn h
      by_cases hl : L < yearD (1970 + (n : Int))
      · obtain ⟨y, a, b, c, d⟩ := ih (by omega) hl
        exact ⟨y, a, by omega, c, d⟩
      · exact ⟨1970 + (n : Int), by omega, by omega, by omega, by rw [show (1970 : Int) + n + 1 = 1970 + ((n + 1 : Nat) : Int) from by omega]; exact h⟩
  have e : yearD (1970 + ((8030 : Nat) : Int)) = 2932897 := by decide
  obtain ⟨y, a, b, c, d⟩ := key 8030 (Nat.le_refl _) (by omega)
  exact ⟨y, a, by omega, c, d⟩
/-- .. and its month. -/
theorem month_of (y r : Int) (h0 : 0 ≤ r) (h1 : r < 365 + leapN y) : ∃ m : Nat, 1 ≤ m ∧ m ≤ 12 ∧ monthD y m ≤ r ∧ r < monthD y (m + 1) := by
  have key : ∀ n : Nat, n ≤ 12 → r < monthD y (1 + n) → ∃ m : Nat, 1 ≤ m ∧ m < 1 + n ∧ monthD y m ≤ r ∧ r < monthD y (m + 1) := by
    intro n
    induction n with
    | zero => intro _ h; rw [monthD_one] at h; omega
    | succ n ih =>
      intro hn h
      by_cases hl : r < monthD y (1 + n)
      · obtain ⟨m, a, b, c, d⟩ := ih (by omega) hl
        exact ⟨m, a, by omega, c, d⟩
      · exact ⟨1 + n, by omega, by omega, by omega, h⟩
  obtain ⟨m, a, b, c, d⟩ := key 12 (Nat.le_refl _) (by rw [show 1 + 12 = 13 from rfl, monthD_all]; exact h1)
  exact ⟨m, a, by omega, c, d⟩
theorem date_of (t : Int) (h0 : 0 ≤ t) (h1 : t ≤ 253402300799) : ∃ y m d h n s, Good y m d h n s ∧ momentN y m d h n s = t := by
  obtain ⟨y, y0, y1, y2, y3⟩ := year_of (t / 86400) (by omega) (by omega)
  have hn := yearD_next y (by omega)
  obtain ⟨m, m0, m1, m2, m3⟩ := month_of y (t / 86400 - yearD y) (by omega) (by omega)
  have h2 := monthD_next y m m0
  refine ⟨y, m, t / 86400 - yearD y - monthD y m + 1, t % 86400 / 3600, t % 86400 / 60 % 60, t % 86400 % 60, ⟨y0, y1, by omega, by omega, by omega, by omega, by omega, by omega, by omega, by omega, by omega, by omega⟩, ?_⟩
  unfold momentN dayN
  rw [Int.toNat_natCast]
  omega
theorem spec_l2Year_is (y : Int) (h0 : 1970 ≤ y) (h1 : y ≤ 10000) : spec_l2Year.f y = some (yearD y) := by
  unfold spec_l2Year.f yearD
  refine congrArg some ?_
  rw [wrap_in (i := y - 1970) (by omega) (by omega), wrap_in (i := y - 1) (by omega) (by omega), wrap_in (i := 365 * (y - 1970)) (by omega) (by omega)]
  rw [Int.tdiv_eq_ediv_of_nonneg (by omega), Int.tdiv_eq_ediv_of_nonneg (by omega), Int.tdiv_eq_ediv_of_nonneg (by omega)]
  rw [wrap_in (i := (y - 1) / 4) (by omega) (by omega), wrap_in (i := (y - 1) / 100) (by omega) (by omega), wrap_in (i := (y - 1) / 400) (by omega) (by omega)]
  rw [wrap_in (i := 365 * (y - 1970) + (y - 1) / 4) (by omega) (by omega), wrap_in (i := 365 * (y - 1970) + (y - 1) / 4 - (y - 1) / 100) (by omega) (by omega), wrap_in (i := 365 * (y - 1970) + (y - 1) / 4 - (y - 1) / 100 + (y - 1) / 400) (by omega) (by omega)]
  exact wrap_in (by omega) (by omega)
theorem spec_l2Days_loop (y m d h n s : Int) (m0 : 1 ≤ m) (m1 : m ≤ 12) (r : Nat) : ∀ (j : Int) (acc : Int), 1 ≤ j → j + r = m → 0 ≤ acc → acc ≤ 3000000 + monthD y j.toNat → ∀ k, r + 1 < k →
    spec_l2Days.l0 k acc j y m d h n s = some (acc + monthD y m.toNat - monthD y j.toNat) := by
  induction r with
  | zero =>
    intro j acc j0 hj a0 a1 k hk
    obtain ⟨k, rfl⟩ : ∃ z, k = z + 1 := ⟨k - 1, by omega⟩
    simp only [spec_l2Days.l0]
    rw [if_neg (by omega), show j = m from by omega]
    exact congrArg some (by omega)
  | succ r ih =>
    intro j acc j0 hj a0 a1 k hk
    obtain ⟨k, rfl⟩ : ∃ z, k = z + 1 := ⟨k - 1, by omega⟩
    have hk : 1 ≤ k := by omega
    have hr := monthDays_range y j
    have hn := monthD_next y j.toNat (by omega)
    rw [show ((j.toNat : Nat) : Int) = j from by omega] at hn
    have hg := monthD_range y j.toNat (by omega) (by omega)
    simp only [spec_l2Days.l0]
    rw [if_pos (by omega), spec_l2Month_is y j (by omega) (by omega)]
    simp only [Option.bind_some]
    rw [wrap_in (by omega) (by omega), wrap_in (by omega) (by omega)]
    have e : (j + 1).toNat = j.toNat + 1 := by omega
    rw [ih (j + 1) (acc + monthDays y j) (by omega) (by omega) (by omega) (by rw [e]; omega) k (by omega), e]
    exact congrArg some (by omega)
theorem spec_l2Days_ev {y m d h n s : Int} (g : Good y m d h n s) (k : Nat) (hk : 16 ≤ k) : spec_l2Days.f k y m d h n s = some (dayN y m d) := by
  have hr := yearD_range y g.y0 (by have := g.y1; omega)
  have hm := monthDays_range y m
  have d0 := g.d0
  have d1 := g.d1
  have m0 := g.m0
  have m1 := g.m1
  unfold spec_l2Days.f
  rw [spec_l2Year_is y g.y0 (by have := g.y1; omega)]
  simp only [Option.bind_some]
  rw [wrap_in (i := yearD y + d) (by omega) (by omega), wrap_in (by omega) (by omega)]
  rw [spec_l2Days_loop y m d h n s m0 m1 (m - 1).toNat 1 _ (by omega) (by omega) (by omega) (by rw [show (1 : Int).toNat = 1 from rfl, monthD_one]; omega) k (by omega)]
  unfold dayN
  rw [show (1 : Int).toNat = 1 from rfl, monthD_one]
  exact congrArg some (by omega)


theorem impl_yearDays_is (y : Int) (h0 : 1970 ≤ y) (h1 : y ≤ 10000) : impl_yearDays.f y = some (yearD y) := by
  unfold impl_yearDays.f yearD
  refine congrArg some ?_
  rw [wrap_in (i := y - 1970) (by omega) (by omega), wrap_in (i := y - 1) (by omega) (by omega), wrap_in (i := 365 * (y - 1970)) (by omega) (by omega)]
  rw [Int.tdiv_eq_ediv_of_nonneg (by omega), Int.tdiv_eq_ediv_of_nonneg (by omega), Int.tdiv_eq_ediv_of_nonneg (by omega)]
  rw [wrap_in (i := (y - 1) / 4) (by omega) (by omega), wrap_in (i := (y - 1) / 100) (by omega) (by omega), wrap_in (i := (y - 1) / 400) (by omega) (by omega)]
  rw [wrap_in (i := 365 * (y - 1970) + (y - 1) / 4) (by omega) (by omega), wrap_in (i := 365 * (y - 1970) + (y - 1) / 4 - (y - 1) / 100) (by omega) (by omega), wrap_in (i := 365 * (y - 1970) + (y - 1) / 4 - (y - 1) / 100 + (y - 1) / 400) (by omega) (by omega)]
  exact wrap_in (by omega) (by omega)
theorem impl_days_loop (y m d h n s : Int) (m0 : 1 ≤ m) (m1 : m ≤ 12) (r : Nat) : ∀ (j : Int) (acc : Int), 1 ≤ j → j + r = m → 0 ≤ acc → acc ≤ 3000000 + monthD y j.toNat → ∀ k, r + 1 < k →
    impl_days.l0 k acc j y m d h n s = some (acc + monthD y m.toNat - monthD y j.toNat) := by
  induction r with
  | zero =>
    intro j acc j0 hj a0 a1 k hk
    obtain ⟨k, rfl⟩ : ∃ z, k = z + 1 := ⟨k - 1, by omega⟩
    simp only [impl_days.l0]
    rw [if_neg (by omega), show j = m from by omega]
    exact congrArg some (by omega)
  | succ r ih =>
    intro j acc j0 hj a0 a1 k hk
    obtain ⟨k, rfl⟩ : ∃ z, k = z + 1 := ⟨k - 1, by omega⟩
    have hk : 1 ≤ k := by omega
    have hr := monthDays_range y j
    have hn := monthD_next y j.toNat (by omega)
    rw [show ((j.toNat : Nat) : Int) = j from by omega] at hn
    have hg := monthD_range y j.toNat (by omega) (by omega)
    simp only [impl_days.l0]
    rw [if_pos (by omega), impl_daysIn_is y j k hk]
    simp only [Option.bind_some]
    rw [wrap_in (by omega) (by omega), wrap_in (by omega) (by omega)]
    have e : (j + 1).toNat = j.toNat + 1 := by omega
    rw [ih (j + 1) (acc + monthDays y j) (by omega) (by omega) (by omega) (by rw [e]; omega) k (by omega), e]
    exact congrArg some (by omega)
theorem impl_days_ev {y m d h n s : Int} (g : Good y m d h n s) (k : Nat) (hk : 16 ≤ k) : impl_days.f k y m d h n s = some (dayN y m d) := by
  have hr := yearD_range y g.y0 (by have := g.y1; omega)
  have hm := monthDays_range y m
  have d0 := g.d0
  have d1 := g.d1
  have m0 := g.m0
  have m1 := g.m1
  unfold impl_days.f
  rw [impl_yearDays_is y g.y0 (by have := g.y1; omega)]
  simp only [Option.bind_some]
  rw [wrap_in (i := yearD y + d) (by omega) (by omega), wrap_in (by omega) (by omega)]
  rw [impl_days_loop y m d h n s m0 m1 (m - 1).toNat 1 _ (by omega) (by omega) (by omega) (by rw [show (1 : Int).toNat = 1 from rfl, monthD_one]; omega) k (by omega)]
  unfold dayN
  rw [show (1 : Int).toNat = 1 from rfl, monthD_one]
  exact congrArg some (by omega)


theorem spec_Weekday_ev (y m d h n s : Int) (k : Nat) (hk : 16 ≤ k) : spec_Weekday.f k y m d h n s = some (if dateOk y m d h n s = true then (dayN y m d + 4) % 7 else -1) := by
  unfold spec_Weekday.f
  rw [spec_DateOk_is]
  simp only [Option.bind_some]
  by_cases g : dateOk y m d h n s = true
  · have G := (good_iff ..).1 g
    have hr := dayN_range G
    rw [if_pos g, if_pos g, spec_l2Days_ev G k hk]
    simp only [Option.bind_some]
    rw [wrap_in (by omega) (by omega), Int.tmod_eq_emod_of_nonneg (by omega)]
  · rw [if_neg g, if_neg g]



theorem impl_Weekday_ev (y m d h n s : Int) (k : Nat) (hk : 16 ≤ k) : impl_Weekday.f k y m d h n s = some (if dateOk y m d h n s = true then (dayN y m d + 4) % 7 else -1) := by
  unfold impl_Weekday.f
  rw [impl_DateOk_is _ _ _ _ _ _ k (by omega)]
  simp only [Option.bind_some]
  by_cases g : dateOk y m d h n s = true
  · have G := (good_iff ..).1 g
    have hr := dayN_range G
    rw [if_pos g, if_pos g, impl_days_ev G k hk]
    simp only [Option.bind_some]
    rw [wrap_in (by omega) (by omega), Int.tmod_eq_emod_of_nonneg (by omega)]
  · rw [if_neg g, if_neg g]



theorem spec_DateAt_months (y m : Int) (L S : Int) (m0 : 1 ≤ m) (m1 : m ≤ 12) (h0 : monthD y m.toNat ≤ L) (h1 : L < monthD y (m.toNat + 1)) (s0 : 0 ≤ S) (s1 : S < 86400) (r : Nat) : ∀ (j : Int), 1 ≤ j → j + r = m → ∀ k, r + 2 < k →
    spec_DateAt.l1 k (L - monthD y j.toNat) S y j = some (y, m, L - monthD y m.toNat + 1, S / 3600, S / 60 % 60, S % 60) := by
  have g0 := monthD_range y m.toNat (by omega) (by omega)
  have g1 := monthD_range y (m.toNat + 1) (by omega) (by omega)
  induction r with
  | zero =>
    intro j j0 hj k hk
    obtain ⟨k, rfl⟩ : ∃ z, k = z + 1 := ⟨k - 1, by omega⟩
    obtain rfl : j = m := by omega
    have hn := monthD_next y j.toNat (by omega)
    rw [show ((j.toNat : Nat) : Int) = j from by omega] at hn
    simp only [spec_DateAt.l1]
    rw [spec_l2Month_is y j (by omega) (by omega)]
    simp only [Option.bind_some]
    rw [if_neg (by omega)]
    rw [Int.tdiv_eq_ediv_of_nonneg s0, Int.tdiv_eq_ediv_of_nonneg s0, Int.tmod_eq_emod_of_nonneg s0, wrap_in (i := L - monthD y j.toNat + 1) (by omega) (by omega), wrap_in (i := S / 3600) (by omega) (by omega), wrap_in (i := S / 60) (by omega) (by omega), Int.tmod_eq_emod_of_nonneg (by omega)]
  | succ r ih =>
    intro j j0 hj k hk
    obtain ⟨k, rfl⟩ : ∃ z, k = z + 1 := ⟨k - 1, by omega⟩
    have hn := monthD_next y j.toNat (by omega)
    rw [show ((j.toNat : Nat) : Int) = j from by omega] at hn
    have hl := monthD_lt y j.toNat m.toNat (by omega) (by omega)
    have gj := monthD_range y j.toNat (by omega) (by omega)
    have hr := monthDays_range y j
    have e : (j + 1).toNat = j.toNat + 1 := by omega
    have hi := ih (j + 1) (by omega) (by omega) k (by omega)
    rw [e, hn] at hi
    simp only [spec_DateAt.l1]
    rw [spec_l2Month_is y j (by omega) (by omega)]
    simp only [Option.bind_some]
    rw [if_pos (by omega), wrap_in (i := L - monthD y j.toNat - monthDays y j) (by omega) (by omega), wrap_in (i := j + 1) (by omega) (by omega)]
    rw [show L - monthD y j.toNat - monthDays y j = L - (monthD y j.toNat + monthDays y j) from by omega]
    exact hi
theorem spec_DateAt_years (y m : Int) (L S : Int) (y0 : 1970 ≤ y) (y1 : y ≤ 9999) (h0 : yearD y ≤ L) (h1 : L < yearD (y + 1)) (m0 : 1 ≤ m) (m1 : m ≤ 12) (h2 : monthD y m.toNat ≤ L - yearD y) (h3 : L - yearD y < monthD y (m.toNat + 1)) (s0 : 0 ≤ S) (s1 : S < 86400) (r : Nat) : ∀ (z : Int), 1970 ≤ z → z + r = y → ∀ k, r + 20 < k →
    spec_DateAt.l0 k L S z = some (y, m, L - yearD y - monthD y m.toNat + 1, S / 3600, S / 60 % 60, S % 60) := by
  have g0 := yearD_range y y0 (by omega)
  have g1 := yearD_range (y + 1) (by omega) (by omega)
  induction r with
  | zero =>
    intro z z0 hz k hk
    obtain ⟨k, rfl⟩ : ∃ q, k = q + 1 := ⟨k - 1, by omega⟩
    obtain rfl : z = y := by omega
    simp only [spec_DateAt.l0]
    rw [wrap_in (i := z + 1) (by omega) (by omega), spec_l2Year_is (z + 1) (by omega) (by omega)]
    simp only [Option.bind_some]
    rw [if_neg (by omega), spec_l2Year_is z (by omega) (by omega)]
    simp only [Option.bind_some]
    rw [wrap_in (i := L - yearD z) (by omega) (by omega)]
    have hm := spec_DateAt_months z m (L - yearD z) S m0 m1 h2 h3 s0 s1 (m - 1).toNat 1 (by omega) (by omega) k (by omega)
    rw [show (1 : Int).toNat = 1 from rfl, monthD_one, Int.sub_zero] at hm
    exact hm
  | succ r ih =>
    intro z z0 hz k hk
    obtain ⟨k, rfl⟩ : ∃ q, k = q + 1 := ⟨k - 1, by omega⟩
    have hl := yearD_lt z y (by omega) (by omega)
    simp only [spec_DateAt.l0]
    rw [wrap_in (i := z + 1) (by omega) (by omega), spec_l2Year_is (z + 1) (by omega) (by omega)]
    simp only [Option.bind_some]
    rw [if_pos (by omega)]
    exact ih (z + 1) (by omega) (by omega) k (by omega)
theorem spec_DateAt_at {y m d h n s : Int} (g : Good y m d h n s) (k : Nat) (hk : 9000 ≤ k) : spec_DateAt.f k (momentN y m d h n s) = some (y, m, d, h, n, s) := by
  have hr := momentN_range g
  have hd := dayN_range g
  have hy := dayN_in (by have := g.y0; omega) g.m0 g.m1 g.d0 g.d1
  have hm := day_in g.m0 g.m1 g.d0 g.d1
  have := g.h0; have := g.h1; have := g.n0; have := g.n1; have := g.s0; have := g.s1; have := g.y0; have := g.y1; have := g.d0
  have e1 : momentN y m d h n s / 86400 = dayN y m d := by unfold momentN; omega
  have e2 : momentN y m d h n s % 86400 = h * 3600 + n * 60 + s := by unfold momentN; omega
  unfold spec_DateAt.f
  rw [spec_l1In_is, show inB (momentN y m d h n s) 0 253402300799 = true from by unfold inB; simp; omega]
  simp only [Option.bind_some, if_true]
  rw [Int.tdiv_eq_ediv_of_nonneg hr.1, Int.tmod_eq_emod_of_nonneg hr.1, e1, e2, wrap_in (i := dayN y m d) (by omega) (by omega), Int.tdiv_eq_ediv_of_nonneg hd.1, wrap_in (i := dayN y m d / 366) (by omega) (by omega), wrap_in (i := 1970 + dayN y m d / 366) (by omega) (by omega)]
  have hb : 1970 + dayN y m d / 366 ≤ y := by
    have h1 := yearD_range y g.y0 (by omega)
    have h2 : yearD (y + 1) ≤ 366 * (y + 1 - 1970) := by unfold yearD; omega
    omega
  have hz := spec_DateAt_years y m (dayN y m d) (h * 3600 + n * 60 + s) g.y0 g.y1 hy.1 hy.2 g.m0 g.m1 (by unfold dayN; omega) (by unfold dayN; omega) (by omega) (by omega) (y - (1970 + dayN y m d / 366)).toNat (1970 + dayN y m d / 366) (by omega) (by omega) k (by omega)
  rw [hz]
  have e3 : dayN y m d - yearD y - monthD y m.toNat + 1 = d := by unfold dayN; omega
  rw [e3, show (h * 3600 + n * 60 + s) / 3600 = h from by omega, show (h * 3600 + n * 60 + s) / 60 % 60 = n from by omega, show (h * 3600 + n * 60 + s) % 60 = s from by omega]
theorem spec_DateAt_out (t : Int) (h : t < 0 ∨ 253402300799 < t) (k : Nat) : spec_DateAt.f k t = some (0, 0, 0, 0, 0, 0) := by
  unfold spec_DateAt.f
  rw [spec_l1In_is, show inB t 0 253402300799 = false from by unfold inB; simp; omega]
  rfl
theorem dateAt_tot (t : Int) : TotP (fun k => spec_DateAt.f k t) (fun _ => True) := by
  by_cases h : t < 0 ∨ 253402300799 < t
  · exact ⟨_, ⟨0, fun k _ => spec_DateAt_out t h k⟩, trivial⟩
  · obtain ⟨y, m, d, hh, n, s, g, rfl⟩ := date_of t (by omega) (by omega)
    exact ⟨_, ⟨9000, fun k hk => spec_DateAt_at g k hk⟩, trivial⟩
theorem l2Draw_ok (b : List Int) (i h : Int) (h0 : 0 ≤ i) (hb : b.length ≤ 140737488351232) : TotP (fun k => spec_l2Draw.f k b i h) (fun r => 0 ≤ r.2.2.2.2.2.2.1) := by
  unfold spec_l2Draw.f
  refine TotP.bind (TotP.of (once_ok b i h 2 h0 hb)) fun r0 p0 => TotP.ite (fun _ => ?_) (fun _ => ?_)
  · refine TotP.bind (TotP.of (below_ok b _ _ 2000 p0 hb)) fun r1 p1 => ?_
    refine TotP.bind (dateAt_tot _) fun r2 _ => ?_
    exact TotP.now p1.2.2.2
  · refine TotP.bind (TotP.of ⟨_, rfl, rfl⟩) fun (l : List Int) (e : ([1970, 1971, 1972, 1999, 2000, 2001, 2024, 2100, 2400, 9999] : List Int) = l) => ?_
    refine TotP.bind (TotP.of (below_ok b _ _ 10 p0 hb)) fun r1 p1 => TotP.ite (fun _ => TotP.ite (fun _ => ?_) (fun c => absurd (p1.2.1 (by omega)) (by rw [← e] at c; exact c))) (fun c => absurd p1.1 c)
    refine TotP.bind (TotP.of (below_ok b _ _ 12 p1.2.2.2 hb)) fun r2 p2 => ?_
    refine TotP.bind (TotP.of (below_ok b _ _ 31 p2.2.2.2 hb)) fun r3 p3 => ?_
    refine TotP.bind (TotP.of (below_ok b _ _ 24 p3.2.2.2 hb)) fun r4 p4 => ?_
    refine TotP.bind (TotP.of (below_ok b _ _ 60 p4.2.2.2 hb)) fun r5 p5 => ?_
    refine TotP.bind (TotP.of (below_ok b _ _ 60 p5.2.2.2 hb)) fun r6 p6 => ?_
    refine TotP.bind (TotP.of (once_ok b _ _ 4 p6.2.2.2 hb)) fun r7 p7 => TotP.ite (fun _ => ?_) (fun _ => TotP.now p7)
    refine TotP.bind (TotP.of (below_ok b _ _ 2 p7 hb)) fun r8 p8 => TotP.now p8.2.2.2
theorem l2DrawAny_ok (b : List Int) (i h : Int) (h0 : 0 ≤ i) (hb : b.length ≤ 140737488351232) : TotP (fun k => spec_l2DrawAny.f k b i h) (fun r => 0 ≤ r.2.2.2.2.2.2.1) := by
  unfold spec_l2DrawAny.f
  refine TotP.bind (l2Draw_ok b i h h0 hb) fun r0 p0 => ?_
  refine TotP.bind (TotP.of (once_ok b _ _ 10 p0 hb)) fun r1 p1 => TotP.ite (fun _ => ?_) (fun _ => TotP.now p1)
  refine TotP.bind (TotP.of (below_ok b _ _ 4 p1 hb)) fun r2 p2 => TotP.ite (fun _ => ?_) (fun _ => TotP.ite (fun _ => ?_) (fun _ => TotP.ite (fun _ => ?_) (fun _ => TotP.ite (fun _ => ?_) (fun _ => TotP.now p2.2.2.2))))
  · refine TotP.bind (TotP.of ⟨_, rfl, rfl⟩) fun (l : List Int) (e : ([1969, 10000, 0, (-9223372036854775808)] : List Int) = l) => ?_
    exact TotP.bind (TotP.of (below_ok b _ _ 4 p2.2.2.2 hb)) fun r3 p3 => TotP.ite (fun _ => TotP.ite (fun _ => TotP.now p3.2.2.2) (fun c => absurd (p3.2.1 (by omega)) (by rw [← e] at c; exact c))) (fun c => absurd p3.1 c)
  · refine TotP.bind (TotP.of ⟨_, rfl, rfl⟩) fun (l : List Int) (e : ([0, 13, (-1)] : List Int) = l) => ?_
    exact TotP.bind (TotP.of (below_ok b _ _ 3 p2.2.2.2 hb)) fun r3 p3 => TotP.ite (fun _ => TotP.ite (fun _ => TotP.now p3.2.2.2) (fun c => absurd (p3.2.1 (by omega)) (by rw [← e] at c; exact c))) (fun c => absurd p3.1 c)
  · refine TotP.bind (TotP.of ⟨_, rfl, rfl⟩) fun (l : List Int) (e : ([0, 31, 32] : List Int) = l) => ?_
    exact TotP.bind (TotP.of (below_ok b _ _ 3 p2.2.2.2 hb)) fun r3 p3 => TotP.ite (fun _ => TotP.ite (fun _ => TotP.now p3.2.2.2) (fun c => absurd (p3.2.1 (by omega)) (by rw [← e] at c; exact c))) (fun c => absurd p3.1 c)
  · refine TotP.bind (TotP.of ⟨_, rfl, rfl⟩) fun (l : List Int) (e : ([(-1), 24] : List Int) = l) => ?_
    refine TotP.bind (TotP.of (below_ok b _ _ 2 p2.2.2.2 hb)) fun r3 p3 => TotP.ite (fun _ => TotP.ite (fun _ => ?_) (fun c => absurd (p3.2.1 (by omega)) (by rw [← e] at c; exact c))) (fun c => absurd p3.1 c)
    refine TotP.bind (TotP.of ⟨_, rfl, rfl⟩) fun (l2 : List Int) (e2 : ([0, 60] : List Int) = l2) => ?_
    exact TotP.bind (TotP.of (below_ok b _ _ 2 p3.2.2.2 hb)) fun r4 p4 => TotP.ite (fun _ => TotP.ite (fun _ => TotP.now p4.2.2.2) (fun c => absurd (p4.2.1 (by omega)) (by rw [← e2] at c; exact c))) (fun c => absurd p4.1 c)
theorem drawDateOk_ok (b : List Int) (hb : b.length ≤ 140737488351232) : TotP (fun k => spec_DrawDateOk.f k b) (fun _ => True) := by
  unfold spec_DrawDateOk.f
  exact TotP.bind (new_ok b hb) fun r p => TotP.bind (l2DrawAny_ok _ _ _ p.2 (by rw [p.1]; exact hb)) fun _ _ => TotP.now trivial
theorem drawShowDate_ok (b : List Int) (hb : b.length ≤ 140737488351232) : TotP (fun k => spec_DrawShowDate.f k b) (fun _ => True) := by
  unfold spec_DrawShowDate.f
  exact TotP.bind (drawDateOk_ok b hb) fun _ _ => TotP.now trivial
end Go.Proofs.YtkaknffeoeoajaaDoor.Q
namespace Go.Proofs.YtkaknffeoeoajaaDoor.P
set_option linter.unusedVariables false
set_option linter.unusedSimpArgs false
open Go.RowKit Go.Lib Go.Proofs.YtkaknffeoeoajaaDoorW.PrintWords Go.Proofs.YtkaknffeoeoajaaDoorW.PrintLast Go.Proofs.YtkaknffeoeoajaaDoorW.PrintMore

def tokTab : List Int := [33, 35, 36, 37, 38, 39, 42, 43, 45, 46, 94, 95, 124, 126, 96]
theorem tokTab_cell (w : World) (k : Nat) (h : k < 15) : (w.alloc (.cells #[.int .u8 33, .int .u8 35, .int .u8 36, .int .u8 37, .int .u8 38, .int .u8 39, .int .u8 42, .int .u8 43, .int .u8 45, .int .u8 46, .int .u8 94, .int .u8 95, .int .u8 124, .int .u8 126, .int .u8 96] 5 (15, 16))).cell? ⟨w.heap.size, k, none⟩ = some (.int .u8 (tokTab.getD k 0)) := by
  rw [World.cell?_alloc_mark]
  have hl : k < tokTab.length := h
  have e : (#[.int .u8 33, .int .u8 35, .int .u8 36, .int .u8 37, .int .u8 38, .int .u8 39, .int .u8 42, .int .u8 43, .int .u8 45, .int .u8 46, .int .u8 94, .int .u8 95, .int .u8 124, .int .u8 126, .int .u8 96] : Array Value) = (tokTab.map (Value.int .u8)).toArray := rfl
  rw [e, List.getElem?_toArray, List.getElem?_map, List.getD_eq_getElem?_getD, List.getElem?_eq_getElem hl]
  rfl

set_option maxHeartbeats 2000000 in
theorem spec_l1Token_loop (c : Int) (w : World) (hc : c < 48 ∨ (57 < c ∧ c < 65) ∨ (90 < c ∧ c < 97) ∨ 122 < c) :
    Calls Tryd.prog 85 #[.int .u8 c] w fun e w' => e = .returned (.bool (tokTab.any fun x => x == c)) ∧ Below w.heap.size w w' := by
  have kc := fun (w : World) (C : Array Value) (n c : Nat) => Lib.run_convert_bytes_const (P := Tryd.prog) w 22 5 C n c Tryd.underlying22 Tryd.underlying5
  rcases hc with h | ⟨h, h'⟩ | ⟨h, h'⟩ | h
  all_goals
    go_enter Tryd.func85, Tryd.ntmps85
    go_wp2
    go_loop [31] (fun i => ∃ k : Nat, k ≤ 15 ∧ i = .int .i64 k ∧ Aside ((tokTab.take k).any (fun x => x == c) = false)) (fun i => 15 - (intOf i).toNat)
    case atStart => exact ⟨0, Nat.zero_le _, rfl, rfl⟩
    case round =>
      obtain ⟨k, hk, rfl, A⟩ := hrel
      by_cases hlt : k < 15
      · have hcell := tokTab_cell w k hlt
        have hltz : (k : Int) < 15 := by omega
        have hnext : tokTab.take (k + 1) = tokTab.take k ++ [tokTab.getD k 0] := by
          have h1 : k < tokTab.length := hlt
          rw [List.take_succ_eq_append_getElem h1, List.getD_eq_getElem?_getD, List.getElem?_eq_getElem h1]; rfl
        have N := Lib.hid hnext
        clear hnext
        obtain ⟨x, hx⟩ : ∃ x, tokTab.getD k 0 = x := ⟨_, rfl⟩
        rw [hx] at hcell
        have X := Lib.hid hx
        clear hx
        by_cases e : x = c
        · have eb : (x == c) = true := by simpa using e
          clear e
          go_wp2
          go_ret
          refine ⟨?_, by first | exact (Below.refl _ w).alloc (Nat.le_refl _) _ | (repeat (first | exact Below.refl _ _ | apply below_alloc))⟩
          have : tokTab.any (fun x => x == c) = true := by
            rw [← List.take_append_drop (k + 1) tokTab, List.any_append, N.out, List.any_append, X.out]
            simp [eb]
          rw [this]; rfl
        · have eb : (x == c) = false := by simpa using e
          clear e
          go_wp2
          go_round
          case rel => exact ⟨k + 1, by omega, by go_num, show Aside _ from (show ((tokTab.take (k + 1)).any fun x => x == c) = false by
            rw [N.out, List.any_append, A.out, X.out]
            simp [eb])⟩
          case measure => simp [intOf]; omega
      · have hltz : ¬ (k : Int) < 15 := by omega
        go_wp2
        go_ret
        refine ⟨?_, by first | exact (Below.refl _ w).alloc (Nat.le_refl _) _ | (repeat (first | exact Below.refl _ _ | apply below_alloc))⟩
        have : tokTab.any (fun x => x == c) = false := by
          have h2 := A.out
          rw [List.take_of_length_le (by show 15 ≤ k; omega)] at h2
          exact h2
        rw [this]; rfl

set_option maxHeartbeats 1000000 in
theorem spec_l1Token_sure (c : Int) (w : World) (hc : (48 ≤ c ∧ c ≤ 57) ∨ (65 ≤ c ∧ c ≤ 90) ∨ (97 ≤ c ∧ c ≤ 122)) :
    Calls Tryd.prog 85 #[.int .u8 c] w fun e w' => e = .returned (.bool true) ∧ Below w.heap.size w w' := by
  rcases hc with ⟨h, h'⟩ | ⟨h, h'⟩ | ⟨h, h'⟩
  all_goals
    go_enter Tryd.func85, Tryd.ntmps85
    go_wp2
    go_ret
    exact ⟨rfl, Below.refl _ _⟩

def spec_l1Token.f (a0 : Int) : Option Bool :=
  some (decide (48 ≤ a0 ∧ a0 ≤ 57) || decide (65 ≤ a0 ∧ a0 ≤ 90) || decide (97 ≤ a0 ∧ a0 ≤ 122) || tokTab.any fun x => x == a0)
theorem spec_l1Token.calls (a0 : Int) (r : Bool) (w : World) (h : spec_l1Token.f a0 = some r) :
    Calls Tryd.prog 85 #[.int .u8 a0] w fun e w' => e = .returned (.bool r) ∧ Below w.heap.size w w' := by
  obtain rfl := Option.some.inj h
  by_cases hc : (48 ≤ a0 ∧ a0 ≤ 57) ∨ (65 ≤ a0 ∧ a0 ≤ 90) ∨ (97 ≤ a0 ∧ a0 ≤ 122)
  · have : (decide (48 ≤ a0 ∧ a0 ≤ 57) || decide (65 ≤ a0 ∧ a0 ≤ 90) || decide (97 ≤ a0 ∧ a0 ≤ 122) || tokTab.any fun x => x == a0) = true := by
      rcases hc with h | h | h <;> simp [h]
    rw [this]
    exact spec_l1Token_sure a0 w hc
  · have : (decide (48 ≤ a0 ∧ a0 ≤ 57) || decide (65 ≤ a0 ∧ a0 ≤ 90) || decide (97 ≤ a0 ∧ a0 ≤ 122) || tokTab.any fun x => x == a0) = (tokTab.any fun x => x == a0) := by
      rw [decide_eq_false (fun h => hc (.inl h)), decide_eq_false (fun h => hc (.inr (.inl h))), decide_eq_false (fun h => hc (.inr (.inr h)))]
      rfl
    rw [this]
    exact spec_l1Token_loop a0 w (by omega)
end Go.Proofs.YtkaknffeoeoajaaDoor.P
namespace Go.Proofs.YtkaknffeoeoajaaDoor.Q
set_option linter.unusedVariables false
set_option linter.unusedSimpArgs false
open Go.RowKit Go.Proofs.YtkaknffeoeoajaaDoor.P Go.Proofs.YtkaknffeoeoajaaDoorW.PrintWords Go.Proofs.YtkaknffeoeoajaaDoorW.PrintLast Go.Proofs.YtkaknffeoeoajaaDoorW.PrintMore

def visB (c : Int) : Bool := decide (32 ≤ c) && decide (c ≤ 126) || decide (c = 9)
def digB (c : Int) : Bool := decide (48 ≤ c) && decide (c ≤ 57)
def letB (c : Int) : Bool := decide (97 ≤ c) && decide (c ≤ 122) || decide (65 ≤ c) && decide (c ≤ 90)
def hexB (c : Int) : Bool := digB c || decide (97 ≤ c) && decide (c ≤ 102) || decide (65 ≤ c) && decide (c ≤ 70)
def tagB (c : Int) : Bool := decide (33 ≤ c) && decide (c ≤ 126) && decide (c ≠ 34)
def tokB (c : Int) : Bool := letB c || digB c || decide (c ∈ [33, 35, 36, 37, 38, 39, 42, 43, 45, 46, 94, 95, 124, 126, 96])
def plaB (c : Int) : Bool := letB c || digB c || decide (c ∈ [45, 46, 95, 126, 47, 58, 64, 33, 36, 38, 39, 40, 41, 42, 43, 44, 59, 61])

theorem impl_isVisible_is (c : Int) : impl_isVisible.f c = some (visB c) := by
  unfold impl_isVisible.f visB
  by_cases h1 : c ≥ 32 <;> by_cases h2 : c ≤ 126 <;> simp [h1, h2] <;> (try omega) <;> (try (by_cases h3 : c = 9 <;> simp [h3] <;> omega))
theorem impl_isDigit_is (c : Int) : impl_isDigit.f c = some (digB c) := by
  unfold impl_isDigit.f digB
  by_cases h1 : c ≥ 48 <;> simp [h1] <;> omega
theorem impl_isLetter_is (c : Int) : impl_isLetter.f c = some (letB c) := by
  unfold impl_isLetter.f letB
  by_cases h1 : c ≥ 97 <;> by_cases h2 : c ≤ 122 <;> by_cases h3 : c ≥ 65 <;> by_cases h4 : c ≤ 90 <;> simp [h1, h2, h3, h4] <;> omega

/-- A law on bytes, tried at each. -/
theorem byte_cases {p : Int → Prop} (h : ∀ n : Fin 256, p (n.val : Int)) (c : Int) (h0 : 0 ≤ c) (h1 : c ≤ 255) : p c := by
  have := h ⟨c.toNat, by omega⟩
  rwa [show ((⟨c.toNat, by omega⟩ : Fin 256).val : Int) = c from by show (c.toNat : Int) = c; omega] at this
theorem impl_TokenOk_1_is (c : Int) (h0 : 0 ≤ c) (h1 : c ≤ 255) : impl_TokenOk_1.f c = some (tokB c) :=
  byte_cases (p := fun c => impl_TokenOk_1.f c = some (tokB c)) (by decide +kernel) c h0 h1
theorem spec_l1Token_is (c : Int) (h0 : 0 ≤ c) (h1 : c ≤ 255) : spec_l1Token.f c = some (tokB c) :=
  byte_cases (p := fun c => spec_l1Token.f c = some (tokB c)) (by decide +kernel) c h0 h1
/-- A hexadecimal digit's value, or -1. -/
def hexV (c : Int) : Int := if digB c = true then c - 48 else if 97 ≤ c ∧ c ≤ 102 then c - 87 else if 65 ≤ c ∧ c ≤ 70 then c - 55 else -1
theorem hexV_neg (c : Int) : decide (hexV c < 0) = !hexB c := by
  unfold hexV hexB
  cases h0 : digB c
  · by_cases h1 : 97 ≤ c ∧ c ≤ 102
    · simp [h1]; omega
    · by_cases h2 : 65 ≤ c ∧ c ≤ 70
      · have h1' : (decide (97 ≤ c) && decide (c ≤ 102)) = false := by simp; omega
        simp [h1, h1', h2]; omega
      · have h1' : (decide (97 ≤ c) && decide (c ≤ 102)) = false := by simp; omega
        have h2' : (decide (65 ≤ c) && decide (c ≤ 70)) = false := by simp; omega
        simp [h1, h1', h2, h2']
  · unfold digB at h0
    simp at h0
    simp
    omega
/-- 'all' over a predicate. -/
theorem all_vis (s : ByteArray) (hs : s.size ≤ 9223372036854775807) : impl_all.f s 84 = some ((bytesOf s).all visB) := by
  unfold impl_all.f
  rw [if_pos hs]
  simp only [Nat.reduceEqDiff, if_true, if_false, reduceIte]
  rw [all_congr' fun c hc => (by rw [impl_isVisible_is]; cases visB c <;> rfl : (impl_isVisible.f c == some true) = visB c)]
theorem all_dig (s : ByteArray) (hs : s.size ≤ 9223372036854775807) : impl_all.f s 75 = some ((bytesOf s).all digB) := by
  unfold impl_all.f
  rw [if_pos hs]
  simp only [Nat.reduceEqDiff, if_true, if_false, reduceIte]
  rw [all_congr' fun c hc => (by rw [impl_isDigit_is]; cases digB c <;> rfl : (impl_isDigit.f c == some true) = digB c)]
theorem all_tok (s : ByteArray) (hs : s.size ≤ 9223372036854775807) : impl_all.f s 81 = some ((bytesOf s).all tokB) := by
  unfold impl_all.f
  rw [if_pos hs]
  simp only [Nat.reduceEqDiff, if_true, if_false, reduceIte]
  rw [all_congr' fun c hc => (by rw [impl_TokenOk_1_is c (mem_bytes hc).1 (mem_bytes hc).2]; cases tokB c <;> rfl : (impl_TokenOk_1.f c == some true) = tokB c)]
theorem dgt_hex (c : Int) : dgt c = hexV c := by
  unfold dgt hexV digB
  by_cases h : 48 ≤ c ∧ c ≤ 57
  · rw [if_pos h, if_pos (by simp [h])]
  · have hb : (decide (48 ≤ c) && decide (c ≤ 57)) = false := by simp; omega
    rw [if_neg h, hb]
    simp
theorem hexV_lt (c : Int) : hexV c < 16 := by
  rw [← dgt_hex]
  unfold dgt
  split
  · omega
  · split
    · omega
    · split <;> omega
theorem hexB_is (c : Int) : hexB c = (decide (0 ≤ dgt c) && decide (dgt c < 16)) := by
  have h1 := hexV_neg c
  have h2 := hexV_lt c
  rw [dgt_hex, decide_eq_true h2, Bool.and_true]
  by_cases h : 0 ≤ hexV c
  · rw [decide_eq_false (by omega : ¬ hexV c < 0)] at h1
    rw [decide_eq_true h]
    cases hb : hexB c
    · rw [hb] at h1; cases h1
    · rfl
  · rw [decide_eq_true (by omega : hexV c < 0)] at h1
    rw [decide_eq_false h]
    cases hb : hexB c
    · rfl
    · rw [hb] at h1; cases h1
theorem digB_is (c : Int) : digB c = (decide (0 ≤ dgt c) && decide (dgt c < 10)) := by
  unfold digB dgt
  by_cases h : 48 ≤ c ∧ c ≤ 57
  · rw [if_pos h]
    have a : 0 ≤ c - 48 := by omega
    have b : c - 48 < 10 := by omega
    simp [h, a, b]
  · rw [if_neg h]
    have : (decide (48 ≤ c) && decide (c ≤ 57)) = false := by simp; omega
    rw [this]
    split
    · have : ¬ c - 87 < 10 := by omega
      simp [this]
    · split
      · have : ¬ c - 55 < 10 := by omega
        simp [this]
      · simp
theorem dgt_dig {c : Int} (h : digB c = true) : dgt c = c - 48 ∧ 48 ≤ c ∧ c ≤ 57 := by
  unfold digB at h
  simp at h
  unfold dgt
  rw [if_pos h]
  exact ⟨rfl, h⟩
theorem all_okB16 (l : List Int) : l.all hexB = okB 16 l := all_congr' fun c _ => hexB_is c
theorem all_okB10 (l : List Int) : l.all digB = okB 10 l := all_congr' fun c _ => digB_is c
/-- A text's number at a base, if it has one to so many digits. -/
def numOk (b : Int) (m : Nat) (p : Int → Bool) (s : ByteArray) : Int × Bool := if 1 ≤ s.size ∧ s.size ≤ m ∧ (bytesOf s).all p = true then (numB b (bytesOf s), true) else (0, false)
theorem runL_num (b : Int) (p : Int → Bool) (l : List Int) (st : Int) :
    runL (fun (st : Int) c => if p c = true then .inl (st * b + dgt c) else .inr ((0 : Int), false)) (fun st => (st, true)) l st = if l.all p = true then (l.foldl (fun n c => n * b + dgt c) st, true) else (0, false) := by
  induction l generalizing st with
  | nil => rfl
  | cons c cs ih =>
    rw [List.all_cons]
    unfold runL
    by_cases hp : p c = true
    · simp only [hp, if_true, Bool.true_and, ih, List.foldl_cons]
    · simp only [(by simpa using hp : p c = false), Bool.false_and, Bool.false_eq_true, if_false]
theorem num_next {b st d : Int} {i : Nat} (hb : 0 ≤ b) (h0 : 0 ≤ st) (h1 : st < b ^ i) (d0 : 0 ≤ d) (d1 : d < b) : 0 ≤ st * b ∧ 0 ≤ st * b + d ∧ st * b + d < b ^ (i + 1) := by
  have a := Int.mul_nonneg h0 hb
  rw [Int.pow_succ]
  have : (st + 1) * b ≤ b ^ i * b := Int.mul_le_mul_of_nonneg_right (by omega) hb
  rw [Int.add_mul, Int.one_mul] at this
  omega
theorem num_loop (b : Int) (hb : b = 10 ∨ b = 16) (m : Nat) (hm : (b = 10 ∧ m ≤ 15) ∨ (b = 16 ∧ m ≤ 13)) (p : Int → Bool) (hp : ∀ c, p c = true → 0 ≤ dgt c ∧ dgt c < b) (s : ByteArray) (hs : s.size ≤ m) (g : Nat → Int → Int → Option (Int × Bool)) (K : Nat)
    (h1 : ∀ k (st : Int) (i : Nat), K ≤ k → i < s.size → p (bt s i) = true → wrap64 (st * b) = st * b → wrap64 (st * b + dgt (bt s i)) = st * b + dgt (bt s i) → g (k + 1) st i = g k (st * b + dgt (bt s i)) ((i + 1 : Nat) : Int))
    (h0 : ∀ k (st : Int) (i : Nat), K ≤ k → i < s.size → p (bt s i) = false → g (k + 1) st i = some (0, false))
    (he : ∀ k (st : Int), K ≤ k → g (k + 1) st (s.size : Int) = some (st, true)) : Ev (fun k => g k 0 0) (if (bytesOf s).all p = true then (numB b (bytesOf s), true) else (0, false)) := by
  have hr := ev_run s (fun (st : Int) i => 0 ≤ st ∧ st < b ^ i) (fun (st : Int) c => if p c = true then .inl (st * b + dgt c) else .inr ((0 : Int), false)) (fun st => (st, true)) g K
    (fun k st i hk hi hI => ⟨fun st' e => (by
        by_cases hq : p (bt s i) = true
        · rw [if_pos hq] at e
          obtain rfl : st * b + dgt (bt s i) = st' := by injection e
          obtain ⟨d0, d1⟩ := hp _ hq
          obtain ⟨a0, a1, a2⟩ := num_next (b := b) (by omega) hI.1 hI.2 d0 d1
          have hw := pow_small hb hm (k := i + 1) (by omega)
          exact ⟨h1 k st i hk hi hq (wrap_in (by omega) (by omega)) (wrap_in (by omega) (by omega)), a1, a2⟩
        · rw [if_neg hq] at e; cases e),
      fun r e => (by
        by_cases hq : p (bt s i) = true
        · rw [if_pos hq] at e; cases e
        · rw [if_neg hq] at e
          obtain rfl : ((0 : Int), false) = r := by injection e
          exact h0 k st i hk hi (by simpa using hq))⟩)
    (fun k st hk _ => he k st hk) 0 ⟨by omega, by simp⟩
  rw [runL_num] at hr
  exact hr
theorem spec_Digits_ev (s : ByteArray) : Ev (fun k => spec_Digits.f k s) (numOk 10 15 digB s) := by
  have no : Ev (fun k => spec_Digits.j0 k s true) ((0 : Int), false) := Ev.step (f := fun _ => some (0, false)) (fun k => by simp only [spec_Digits.j0, if_true]) (Ev.now _)
  unfold spec_Digits.f numOk
  by_cases h1 : (s.size : Int) < 1
  · simp only [if_pos h1]
    rw [if_neg (by omega)]
    exact no
  · simp only [if_neg h1]
    by_cases h2 : (s.size : Int) > 15
    · rw [decide_eq_true h2, if_neg (by omega)]
      exact no
    · rw [decide_eq_false h2]
      refine Ev.step (f := fun k => spec_Digits.l0 k s 0 0) (fun k => by simp only [spec_Digits.j0, Bool.false_eq_true, if_false]) ?_
      refine ev_eq (num_loop 10 (.inl rfl) 15 (.inl ⟨rfl, Nat.le_refl _⟩) digB (fun c h => by obtain ⟨a, b, c⟩ := dgt_dig h; omega) s (by omega) (fun k st i => spec_Digits.l0 k s st i) 0 (fun k st i _ hi hq w1 w2 => ?_) (fun k st i _ hi hq => ?_) (fun k st _ => ?_)) ?_
      · obtain ⟨e, c0, c1⟩ := dgt_dig hq
        rw [e] at w2
        simp only [spec_Digits.l0]
        rw [if_pos (by omega), if_pos (by omega), if_neg (by omega), if_neg (by omega), wrap_next hi (by omega), w1, Int.emod_eq_of_lt (by omega) (by omega), w2, e]
      · unfold digB at hq
        simp at hq
        simp only [spec_Digits.l0]
        rw [if_pos (by omega), if_pos (by omega)]
        by_cases h3 : bt s i < 48
        · rw [if_pos h3]
        · rw [if_neg h3, if_pos (by omega)]
      · simp only [spec_Digits.l0]
        rw [if_neg (by omega)]
      · have a : 1 ≤ s.size := by omega
        have b : s.size ≤ 15 := by omega
        simp only [a, b, true_and]
theorem impl_Digits_is (s : ByteArray) : impl_Digits.f s = some (numOk 10 15 digB s) := by
  unfold impl_Digits.f numOk
  by_cases h1 : (s.size : Int) < 1
  · rw [if_pos h1, if_neg (by omega)]
  · rw [if_neg h1]
    by_cases h2 : (s.size : Int) > 15
    · rw [if_pos h2, if_neg (by omega)]
    · rw [if_neg h2, all_dig s (by omega)]
      simp only [Option.bind_some]
      have a : 1 ≤ s.size := by omega
      have b : s.size ≤ 15 := by omega
      by_cases h3 : (bytesOf s).all digB = true
      · rw [if_pos h3, if_pos ⟨a, b, h3⟩]
        unfold strconv_ParseInt.f
        rw [if_pos ⟨rfl, by omega, by rw [← all_okB10]; exact h3, .inr ⟨rfl, b⟩⟩]
        rfl
      · rw [if_neg h3, if_neg (by intro h; exact h3 h.2.2)]
def ofL (l : List UInt8) : ByteArray := ⟨l.toArray⟩
theorem ofL_append (a b : List UInt8) : ofL a ++ ofL b = ofL (a ++ b) := by
  apply ByteArray.ext
  apply Array.toList_inj.1
  simp [ofL, ByteArray.data_append]
theorem ofL_size (l : List UInt8) : (ofL l).size = l.length := by
  show l.toArray.size = l.length
  simp
theorem ofL_toList (l : List UInt8) : (ofL l).toList = l := by
  rw [toList_data]
  rfl
theorem ofL_data (s : ByteArray) : ofL s.data.toList = s := by
  apply ByteArray.ext
  apply Array.toList_inj.1
  rfl
theorem strOf_one (c : Int) : strOfNums [c] = ofL [UInt8.ofNat c.toNat] := by
  apply ByteArray.ext
  apply Array.toList_inj.1
  rw [strOfNums_data]
  rfl
/-- A number's decimal numeral. -/
def decT (n : Int) : ByteArray := ofL (Lib.itoa n)
theorem impl_decimal_is (n : Int) (h0 : -9223372036854775808 ≤ n) (h1 : n ≤ 9223372036854775807) : impl_decimal.f n = some (decT n) := by
  unfold impl_decimal.f strconv_FormatInt.f
  first | rw [if_pos ⟨rfl, h0, h1⟩] | rw [if_neg (by omega), if_pos ⟨rfl, h0, h1⟩]
  rfl
theorem decT_size (n : Int) (h0 : 0 ≤ n) (h1 : n ≤ 9000000000000000000) : (decT n).size ≤ 19 := by
  unfold decT
  rw [ofL_size]
  unfold Lib.itoa
  rw [if_neg (by omega), Lib.decDigits_length]
  have key : ∀ (d u : Nat), u < 10 ^ (d + 1) → Lib.nDigits u ≤ d + 1 := by
    intro d
    induction d with
    | zero => intro u hu; rw [Lib.nDigits_small (by simpa using hu)]; omega
    | succ d ih =>
      intro u hu
      by_cases h : u < 10
      · rw [Lib.nDigits_small h]; omega
      · rw [Lib.nDigits_big h]
        have := ih (u / 10) (by rw [Nat.pow_succ] at hu; omega)
        omega
  exact key 18 n.toNat (by omega)
/-- The last two digits of a number. -/
def twoL (n : Int) : List UInt8 := [UInt8.ofNat (48 + n.toNat / 10 % 10), UInt8.ofNat (48 + n.toNat % 10)]
def twoT (n : Int) : ByteArray := ofL (twoL n)
theorem twoT_size (n : Int) : (twoT n).size = 2 := by unfold twoT; rw [ofL_size]; rfl
theorem strOf_two (a b : Int) : strOfNums [a, b] = ofL [UInt8.ofNat a.toNat, UInt8.ofNat b.toNat] := by
  apply ByteArray.ext
  apply Array.toList_inj.1
  rw [strOfNums_data]
  rfl
theorem spec_l2Two_is (n : Int) (h0 : 0 ≤ n) (h1 : n ≤ 9000000000000000000) : spec_l2Two.f n = some (twoT n) := by
  unfold spec_l2Two.f twoT twoL
  rw [strOf_two, Int.tdiv_eq_ediv_of_nonneg h0, wrap_in (i := n / 10) (by omega) (by omega), Int.tmod_eq_emod_of_nonneg (by omega), Int.tmod_eq_emod_of_nonneg h0, wrap_in (by omega) (by omega), wrap_in (by omega) (by omega)]
  rw [show ((48 + n / 10 % 10) % 256).toNat = 48 + n.toNat / 10 % 10 by omega, show ((48 + n % 10) % 256).toNat = 48 + n.toNat % 10 by omega]
theorem decT_one (n : Int) (h0 : 0 ≤ n) (h1 : n < 10) : decT n = ofL [UInt8.ofNat (48 + n.toNat % 10)] := by
  unfold decT Lib.itoa
  rw [if_neg (by omega), Lib.decDigits, dif_pos (by omega), show n.toNat % 10 = n.toNat by omega]
theorem decT_two (n : Int) (h0 : 10 ≤ n) (h1 : n < 100) : decT n = twoT n := by
  unfold decT Lib.itoa twoT twoL
  rw [if_neg (by omega), Lib.decDigits, dif_neg (by omega), Lib.decDigits, dif_pos (by omega), show n.toNat / 10 % 10 = n.toNat / 10 by omega]
  rfl
theorem decT_four (n : Int) (h0 : 1000 ≤ n) (h1 : n ≤ 9999) : decT n = twoT (n / 100) ++ twoT n := by
  unfold decT Lib.itoa twoT twoL
  rw [if_neg (by omega), Lib.decDigits, dif_neg (by omega), Lib.decDigits, dif_neg (by omega), Lib.decDigits, dif_neg (by omega), Lib.decDigits, dif_pos (by omega), ofL_append,
    show (n / 100).toNat / 10 % 10 = n.toNat / 10 / 10 / 10 by omega, show (n / 100).toNat % 10 = n.toNat / 10 / 10 % 10 by omega]
  rfl
theorem impl_padded_two (n : Int) (h0 : 0 ≤ n) (h1 : n < 100) : impl_padded.f n 2 = some (twoT n) := by
  unfold impl_padded.f
  rw [impl_decimal_is n (by omega) (by omega)]
  simp only [Option.bind_some]
  by_cases h : n < 10
  · rw [decT_one n h0 h, ofL_size, show mx 0 (wrap64 (2 - (([UInt8.ofNat (48 + n.toNat % 10)].length : Nat) : Int))) = 1 by simp [mx, wrap64]]
    unfold strings_Repeat.f
    rw [if_neg (by decide), if_pos rfl]
    simp only [Option.bind_some]
    rw [if_pos (show (⟨#[48]⟩ : ByteArray).size + [UInt8.ofNat (48 + n.toNat % 10)].length ≤ 9223372036854775807 from by show 1 + 1 ≤ _; decide)]
    unfold twoT twoL
    rw [show n.toNat / 10 % 10 = 0 by omega]
    refine congrArg some ?_
    rw [show (⟨#[48]⟩ : ByteArray) = ofL [48] from rfl, ofL_append]
    rfl
  · rw [decT_two n (by omega) h1, twoT_size, show mx 0 (wrap64 (2 - ((2 : Nat) : Int))) = 0 by simp [mx, wrap64]]
    unfold strings_Repeat.f
    rw [if_pos rfl]
    simp only [Option.bind_some]
    rw [if_pos (by decide)]
    refine congrArg some ?_
    rw [show (⟨#[]⟩ : ByteArray) = ofL [] from rfl]
    unfold twoT
    rw [ofL_append]
    rfl
theorem impl_padded_four (n : Int) (h0 : 1000 ≤ n) (h1 : n ≤ 9999) : impl_padded.f n 4 = some (twoT (n / 100) ++ twoT n) := by
  unfold impl_padded.f
  rw [impl_decimal_is n (by omega) (by omega)]
  simp only [Option.bind_some]
  rw [decT_four n h0 h1, ByteArray.size_append, twoT_size, twoT_size, show mx 0 (wrap64 (4 - ((2 + 2 : Nat) : Int))) = 0 by simp [mx, wrap64]]
  unfold strings_Repeat.f
  rw [if_pos rfl]
  simp only [Option.bind_some]
  rw [if_pos (by decide)]
  refine congrArg some ?_
  rw [show (⟨#[]⟩ : ByteArray) = ofL [] from rfl]
  unfold twoT
  rw [ofL_append, ofL_append]
  rfl
def dayNames : ByteArray := ⟨#[83, 117, 110, 77, 111, 110, 84, 117, 101, 87, 101, 100, 84, 104, 117, 70, 114, 105, 83, 97, 116]⟩
def monthNames : ByteArray := ⟨#[74, 97, 110, 70, 101, 98, 77, 97, 114, 65, 112, 114, 77, 97, 121, 74, 117, 110, 74, 117, 108, 65, 117, 103, 83, 101, 112, 79, 99, 116, 78, 111, 118, 68, 101, 99]⟩
def dayT (w : Int) : ByteArray := dayNames.extract (3 * w).toNat (3 * w + 3).toNat
def monthT (m : Int) : ByteArray := monthNames.extract (3 * m - 3).toNat (3 * m).toNat
theorem dayT_size (w : Int) (h0 : 0 ≤ w) (h1 : w ≤ 6) : (dayT w).size = 3 := by
  unfold dayT
  rw [size_extract _ _ _ (by show _ ≤ 21; omega)]
  omega
theorem monthT_size (m : Int) (h0 : 1 ≤ m) (h1 : m ≤ 12) : (monthT m).size = 3 := by
  unfold monthT
  rw [size_extract _ _ _ (by show _ ≤ 36; omega)]
  omega
/-- The text of a date. -/
def showN (y m d h n s : Int) : ByteArray :=
  dayT ((dayN y m d + 4) % 7) ++ ⟨#[44, 32]⟩ ++ twoT d ++ ⟨#[32]⟩ ++ monthT m ++ ⟨#[32]⟩ ++ twoT (y / 100) ++ twoT y ++ ⟨#[32]⟩ ++ twoT h ++ ⟨#[58]⟩ ++ twoT n ++ ⟨#[58]⟩ ++ twoT s ++ ⟨#[32, 71, 77, 84]⟩
def showR (y m d h n s : Int) : ByteArray := if dateOk y m d h n s = true then showN y m d h n s else ⟨#[]⟩
theorem lit_sizes : (⟨#[44, 32]⟩ : ByteArray).size = 2 ∧ (⟨#[32]⟩ : ByteArray).size = 1 ∧ (⟨#[58]⟩ : ByteArray).size = 1 ∧ (⟨#[32, 71, 77, 84]⟩ : ByteArray).size = 4 := ⟨rfl, rfl, rfl, rfl⟩
theorem showN_size {y m d h n s : Int} (G : Good y m d h n s) : (showN y m d h n s).size = 29 := by
  unfold showN
  simp only [ByteArray.size_append, twoT_size, monthT_size m G.m0 G.m1, dayT_size _ (show 0 ≤ (dayN y m d + 4) % 7 by omega) (by omega), lit_sizes.1, lit_sizes.2.1, lit_sizes.2.2.1, lit_sizes.2.2.2]
theorem spec_l2DayName_is (w : Int) (h0 : 0 ≤ w) (h1 : w ≤ 6) : spec_l2DayName.f w = some (dayT w) := by
  unfold spec_l2DayName.f
  rw [wrap_in (i := 3 * w) (by omega) (by omega), wrap_in (by omega) (by omega), if_pos (by omega), if_pos (by omega), if_pos (by omega)]
  rfl
theorem spec_l2MonthName_is (m : Int) (h0 : 1 ≤ m) (h1 : m ≤ 12) : spec_l2MonthName.f m = some (monthT m) := by
  unfold spec_l2MonthName.f
  rw [wrap_in (i := 3 * m) (by omega) (by omega), wrap_in (by omega) (by omega), if_pos (by omega), if_pos (by omega), if_pos (by omega)]
  rfl
theorem md_bound (y m : Int) : monthDays y m ≤ 31 := (monthDays_range y m).2
set_option maxHeartbeats 2000000 in
theorem spec_ShowDate_ev (y m d h n s : Int) (k : Nat) (hk : 16 ≤ k) : spec_ShowDate.f k y m d h n s = some (showR y m d h n s) := by
  unfold spec_ShowDate.f showR
  rw [spec_DateOk_is]
  simp only [Option.bind_some]
  by_cases g : dateOk y m d h n s = true
  · have G := (good_iff ..).1 g
    have hmd := md_bound y m
    have q1 := G.y0
    have q2 := G.y1
    have q3 := G.d0
    have q4 := G.d1
    have w0 : 0 ≤ (dayN y m d + 4) % 7 := by omega
    have w1 : (dayN y m d + 4) % 7 ≤ 6 := by omega
    rw [if_pos g, if_pos g, spec_Weekday_ev y m d h n s k hk, if_pos g]
    simp only [Option.bind_some]
    rw [spec_l2DayName_is _ w0 w1, spec_l2Two_is d (by omega) (by omega), spec_l2MonthName_is m G.m0 G.m1, Int.tdiv_eq_ediv_of_nonneg (by omega), wrap_in (by omega) (by omega), spec_l2Two_is (y / 100) (by omega) (by omega), spec_l2Two_is y (by omega) (by omega), spec_l2Two_is h G.h0 (by have := G.h1; omega), spec_l2Two_is n G.n0 (by have := G.n1; omega), spec_l2Two_is s G.s0 (by have := G.s1; omega)]
    simp only [Option.bind_some, ByteArray.size_append, twoT_size, monthT_size m G.m0 G.m1, dayT_size _ w0 w1, lit_sizes.1, lit_sizes.2.1, lit_sizes.2.2.1, lit_sizes.2.2.2, Nat.reduceAdd, Nat.reduceLeDiff, if_true]
    rfl
  · rw [if_neg g, if_neg g]
set_option maxHeartbeats 4000000 in
theorem impl_ShowDate_ev (y m d h n s : Int) (k : Nat) (hk : 16 ≤ k) : impl_ShowDate.f k y m d h n s = some (showR y m d h n s) := by
  unfold impl_ShowDate.f showR
  rw [impl_DateOk_is _ _ _ _ _ _ k (by omega)]
  simp only [Option.bind_some]
  by_cases g : dateOk y m d h n s = true
  · have G := (good_iff ..).1 g
    have hmd := md_bound y m
    have q1 := G.y0
    have q2 := G.y1
    have q3 := G.d0
    have q4 := G.d1
    have m0 := G.m0
    have m1 := G.m1
    have w0 : 0 ≤ (dayN y m d + 4) % 7 := by omega
    have w1 : (dayN y m d + 4) % 7 ≤ 6 := by omega
    rw [if_pos g, if_pos g, impl_Weekday_ev y m d h n s k hk, if_pos g]
    simp only [Option.bind_some]
    have hz := dayT_size _ w0 w1
    unfold showN
    generalize (dayN y m d + 4) % 7 = W at w0 w1 hz
    have e1 : wrap64 (3 * W) = 3 * W := wrap_in (by omega) (by omega)
    have e2 : wrap64 (3 * W + 3) = 3 * W + 3 := wrap_in (by omega) (by omega)
    have e3 : wrap64 (m - 1) = m - 1 := wrap_in (by omega) (by omega)
    have e4 : wrap64 (3 * (m - 1)) = 3 * m - 3 := by rw [wrap_in (by omega) (by omega)]; omega
    have e5 : wrap64 (3 * m - 3 + 3) = 3 * m := by rw [wrap_in (by omega) (by omega)]; omega
    have hd : (⟨#[83, 117, 110, 77, 111, 110, 84, 117, 101, 87, 101, 100, 84, 104, 117, 70, 114, 105, 83, 97, 116]⟩ : ByteArray).extract (3 * W).toNat (3 * W + 3).toNat = dayT W := rfl
    have hm : (⟨#[74, 97, 110, 70, 101, 98, 77, 97, 114, 65, 112, 114, 77, 97, 121, 74, 117, 110, 74, 117, 108, 65, 117, 103, 83, 101, 112, 79, 99, 116, 78, 111, 118, 68, 101, 99]⟩ : ByteArray).extract (3 * m - 3).toNat (3 * m).toNat = monthT m := rfl
    simp only [e1, e2, e3, e4, e5, hd, hm, impl_padded_two d (by omega) (by omega), impl_padded_four y (by omega) (by omega), impl_padded_two h G.h0 (by have := G.h1; omega), impl_padded_two n G.n0 (by have := G.n1; omega), impl_padded_two s G.s0 (by have := G.s1; omega), Option.bind_some, ByteArray.size_append, twoT_size, monthT_size m G.m0 G.m1, hz, lit_sizes.1, lit_sizes.2.1, lit_sizes.2.2.1, lit_sizes.2.2.2, Nat.reduceAdd, Nat.reduceLeDiff, if_true,
      show (0 : Int) ≤ 3 * W from by omega, show 3 * W ≤ 3 * W + 3 from by omega, show 3 * W + 3 ≤ 21 from by omega, show (0 : Int) ≤ 3 * m - 3 from by omega, show 3 * m - 3 ≤ 3 * m from by omega, show 3 * m ≤ 36 from by omega]
    refine congrArg some ?_
    simp only [ByteArray.append_assoc]
  · rw [if_neg g, if_neg g]
abbrev Dt := Int × Int × Int × Int × Int × Int × Bool
/-- What is read, if the text is the one that the date is shown as. -/
def dateIf (s : ByteArray) (y m d h n c : Int) : Dt := if (showR y m d h n c).toList = s.toList then (y, m, d, h, n, c, true) else (0, 0, 0, 0, 0, 0, false)
/-- The month of a name: the last one that has it. -/
def monthL (t : List UInt8) : Nat → Int → Int → Int
  | 0, _, m => m
  | k + 1, i, m => monthL t k (i + 1) (if (monthT i).data.toList = t then i else m)
def digN (s : ByteArray) (p : Nat) : Int := (numOk 10 15 digB (s.extract p (p + 2))).1
def specY (s : ByteArray) : Int := wrap64 (wrap64 (100 * digN s 12) + digN s 14)
def specM (s : ByteArray) : Int := monthL (s.extract 8 11).data.toList 12 1 0
theorem ev_month (s : ByteArray) (hs : 11 ≤ s.size) (r : Dt) : ∀ (j : Nat) (i m : Int), i = 13 - j → j ≤ 12 → Ev (fun k => spec_ReadDate.l1 k s [] [5, 12, 14, 17, 20, 23] 6 0 0 (monthL (s.extract 8 11).data.toList j i m) 0 0 0 0) r →
    Ev (fun k => spec_ReadDate.l0 k s i 0 m 0 0 0 0) r
  | 0, i, m, hi, hj, h => by
    refine Ev.step (fun k => ?_) h
    simp only [spec_ReadDate.l0]
    rw [if_neg (by omega)]
    rfl
  | j + 1, i, m, hi, hj, h => by
    have ih := ev_month s hs r j (i + 1) (if (monthT i).data.toList = (s.extract 8 11).data.toList then i else m) (by omega) (by omega) h
    refine Ev.step (fun k => ?_) ih
    simp only [spec_ReadDate.l0]
    rw [if_pos (by omega), spec_l2MonthName_is i (by omega) (by omega)]
    simp only [Option.bind_some]
    rw [if_pos (by decide), if_pos (by omega), wrap_in (by omega) (by omega), toList_data, toList_data]
    by_cases e : (monthT i).data.toList = (s.extract 8 11).data.toList
    · rw [if_pos e, if_pos e]
    · rw [if_neg e, if_neg e]
theorem ev_num (s : ByteArray) (hs : s.size = 29) (m : Int) (acc : List Int) (i p : Nat) (hi : i < 6) (hp : rd [5, 12, 14, 17, 20, 23] (i : Int) = (p : Int)) (hp2 : p + 2 ≤ 29) (ha : acc.length < 100) (r : Dt)
    (h : Ev (fun k => spec_ReadDate.l1 k s (acc ++ [digN s p]) [5, 12, 14, 17, 20, 23] 6 ((i + 1 : Nat) : Int) 0 m 0 0 0 0) r) :
    Ev (fun k => spec_ReadDate.l1 k s acc [5, 12, 14, 17, 20, 23] 6 (i : Int) 0 m 0 0 0 0) r := by
  refine Ev.step (f := fun k => (spec_Digits.f k (s.extract p (p + 2))).bind fun b => spec_ReadDate.l1 k s (acc ++ [b.1]) [5, 12, 14, 17, 20, 23] 6 ((i + 1 : Nat) : Int) 0 m 0 0 0 0) (fun k => ?_) (Ev.bind (spec_Digits_ev _) h)
  simp only [spec_ReadDate.l1]
  rw [hp, wrap_in (i := (p : Int) + 2) (by omega) (by omega), wrap_in (i := (i : Int) + 1) (by omega) (by omega), if_pos (by omega), if_pos (by omega), if_pos (show (i : Int) < (([5, 12, 14, 17, 20, 23] : List Int).length : Int) by show (i : Int) < 6; omega), if_pos (by omega), if_pos (by omega), if_pos (by omega)]
  rw [show ((p : Int)).toNat = p by omega, show ((p : Int) + 2).toNat = p + 2 by omega]
  refine congrArg _ (funext fun b => ?_)
  rw [if_pos (by omega)]
  rfl
theorem spec_ReadDate_ev (s : ByteArray) (hs : s.size = 29) : Ev (fun k => spec_ReadDate.f k s) (dateIf s (specY s) (specM s) (digN s 5) (digN s 17) (digN s 20) (digN s 23)) := by
  unfold spec_ReadDate.f
  simp only [if_pos (show (s.size : Int) = 29 by omega)]
  refine ev_month s (by omega) _ 12 1 0 (by decide) (by decide) ?_
  show Ev (fun k => spec_ReadDate.l1 k s [] [5, 12, 14, 17, 20, 23] 6 0 0 (specM s) 0 0 0 0) _
  refine ev_num s hs _ [] 0 5 (by decide) rfl (by decide) (by decide) _ ?_
  refine ev_num s hs _ _ 1 12 (by decide) rfl (by decide) (by simp) _ ?_
  refine ev_num s hs _ _ 2 14 (by decide) rfl (by decide) (by simp) _ ?_
  refine ev_num s hs _ _ 3 17 (by decide) rfl (by decide) (by simp) _ ?_
  refine ev_num s hs _ _ 4 20 (by decide) rfl (by decide) (by simp) _ ?_
  refine ev_num s hs _ _ 5 23 (by decide) rfl (by decide) (by simp) _ ?_
  simp only [List.nil_append, List.cons_append]
  refine Ev.step (f := fun k => (spec_ShowDate.f k (specY s) (specM s) (digN s 5) (digN s 17) (digN s 20) (digN s 23)).bind fun t => if t.toList = s.toList then some (specY s, specM s, digN s 5, digN s 17, digN s 20, digN s 23, true) else some (0, 0, 0, 0, 0, 0, false)) (fun k => ?_) (Ev.bind (a := showR (specY s) (specM s) (digN s 5) (digN s 17) (digN s 20) (digN s 23)) ⟨16, fun k hk => spec_ShowDate_ev _ _ _ _ _ _ k hk⟩ ?_)
  · simp only [spec_ReadDate.l1]
    rw [if_neg (by decide)]
    rfl
  · unfold dateIf
    split
    · exact Ev.now _
    · exact Ev.now _
theorem bytes2 (s : ByteArray) (h : s.size = 2) : ∃ a b, bytesOf s = [a, b] := by
  have hl : (bytesOf s).length = 2 := by rw [bytesOf_length, h]
  match e : bytesOf s, hl with
  | [a, b], _ => exact ⟨a, b, rfl⟩
theorem bytes3 (s : ByteArray) (h : s.size = 3) : ∃ a b c, bytesOf s = [a, b, c] := by
  have hl : (bytesOf s).length = 3 := by rw [bytesOf_length, h]
  match e : bytesOf s, hl with
  | [a, b, c], _ => exact ⟨a, b, c, rfl⟩
theorem show_parts {y m d h n c : Int} (G : Good y m d h n c) :
    (showN y m d h n c).extract 5 7 = twoT d ∧ (showN y m d h n c).extract 8 11 = monthT m ∧ (showN y m d h n c).extract 12 14 = twoT (y / 100) ∧ (showN y m d h n c).extract 14 16 = twoT y ∧
    (showN y m d h n c).extract 12 16 = twoT (y / 100) ++ twoT y ∧ (showN y m d h n c).extract 17 19 = twoT h ∧ (showN y m d h n c).extract 20 22 = twoT n ∧ (showN y m d h n c).extract 23 25 = twoT c := by
  obtain ⟨a0, a1, a2, ha⟩ := bytes3 _ (dayT_size _ (show 0 ≤ (dayN y m d + 4) % 7 by omega) (by omega))
  obtain ⟨b0, b1, b2, hb⟩ := bytes3 _ (monthT_size m G.m0 G.m1)
  obtain ⟨d0, d1, hd⟩ := bytes2 _ (twoT_size d)
  obtain ⟨e0, e1, he⟩ := bytes2 _ (twoT_size (y / 100))
  obtain ⟨f0, f1, hf⟩ := bytes2 _ (twoT_size y)
  obtain ⟨g0, g1, hg⟩ := bytes2 _ (twoT_size h)
  obtain ⟨i0, i1, hi⟩ := bytes2 _ (twoT_size n)
  obtain ⟨j0, j1, hj⟩ := bytes2 _ (twoT_size c)
  have hL : bytesOf (showN y m d h n c) = [a0, a1, a2, 44, 32, d0, d1, 32, b0, b1, b2, 32, e0, e1, f0, f1, 32, g0, g1, 58, i0, i1, 58, j0, j1, 32, 71, 77, 84] := by
    unfold showN
    simp only [bytes_append, ha, hb, hd, he, hf, hg, hi, hj]
    rfl
  refine ⟨?_, ?_, ?_, ?_, ?_, ?_, ?_, ?_⟩ <;> refine bytes_inj ?_ <;> rw [bytes_extract, hL]
  · rw [hd]; rfl
  · rw [hb]; rfl
  · rw [he]; rfl
  · rw [hf]; rfl
  · rw [bytes_append, he, hf]; rfl
  · rw [hg]; rfl
  · rw [hi]; rfl
  · rw [hj]; rfl
theorem twoT_bytes (n : Int) (h0 : 0 ≤ n) : bytesOf (twoT n) = [48 + n / 10 % 10, 48 + n % 10] := by
  unfold twoT ofL
  rw [bytes_ofList]
  unfold twoL
  simp only [List.map_cons, List.map_nil, UInt8.toNat_ofNat']
  congr 1
  · omega
  · congr 1
    omega
theorem dgt_num (q : Int) (h0 : 0 ≤ q) (h1 : q ≤ 9) : dgt (48 + q) = q ∧ digB (48 + q) = true := by
  have e : digB (48 + q) = (decide (0 ≤ dgt (48 + q)) && decide (dgt (48 + q) < 10)) := digB_is _
  have d : dgt (48 + q) = q := by unfold dgt; rw [if_pos (by omega)]; omega
  refine ⟨d, ?_⟩
  rw [e, d, decide_eq_true h0, decide_eq_true (by omega)]
  rfl
theorem num_two (n : Int) (h0 : 0 ≤ n) : numOk 10 15 digB (twoT n) = (n % 100, true) := by
  have a := dgt_num (n / 10 % 10) (by omega) (by omega)
  have b := dgt_num (n % 10) (by omega) (by omega)
  unfold numOk
  rw [twoT_bytes n h0, twoT_size]
  rw [if_pos ⟨by decide, by decide, by simp only [List.all_cons, List.all_nil, a.2, b.2, Bool.and_true]⟩]
  unfold numB
  simp only [List.foldl_cons, List.foldl_nil, a.1, b.1]
  congr 1
  omega
theorem num_four (y : Int) (h0 : 0 ≤ y) (h1 : y ≤ 9999) : numOk 10 15 digB (twoT (y / 100) ++ twoT y) = (y, true) := by
  have a := dgt_num (y / 100 / 10 % 10) (by omega) (by omega)
  have b := dgt_num (y / 100 % 10) (by omega) (by omega)
  have c := dgt_num (y / 10 % 10) (by omega) (by omega)
  have d := dgt_num (y % 10) (by omega) (by omega)
  unfold numOk
  rw [bytes_append, twoT_bytes _ (by omega), twoT_bytes y h0, ByteArray.size_append, twoT_size, twoT_size]
  rw [if_pos ⟨by decide, by decide, by simp only [List.cons_append, List.nil_append, List.all_cons, List.all_nil, a.2, b.2, c.2, d.2, Bool.and_true]⟩]
  unfold numB
  simp only [List.cons_append, List.nil_append, List.foldl_cons, List.foldl_nil, a.1, b.1, c.1, d.1]
  congr 1
  omega
theorem month_spec (m : Int) (h0 : 1 ≤ m) (h1 : m ≤ 12) : monthL (monthT m).data.toList 12 1 0 = m := by
  have key : ∀ i : Fin 12, monthL (monthT ((i.1 : Int) + 1)).data.toList 12 1 0 = (i.1 : Int) + 1 := by decide +kernel
  have := key ⟨(m - 1).toNat, by omega⟩
  simp only at this
  rwa [show (((m - 1).toNat : Nat) : Int) + 1 = m by omega] at this
theorem month_impl (m : Int) (h0 : 1 ≤ m) (h1 : m ≤ 12) : wrap64 (wrap64 (Int.tdiv (Lib.index monthsB.data.toList (monthT m).data.toList) 3) + 1) = m := by
  have key : ∀ i : Fin 12, wrap64 (wrap64 (Int.tdiv (Lib.index monthsB.data.toList (monthT ((i.1 : Int) + 1)).data.toList) 3) + 1) = (i.1 : Int) + 1 := by decide +kernel
  have := key ⟨(m - 1).toNat, by omega⟩
  simp only at this
  rwa [show (((m - 1).toNat : Nat) : Int) + 1 = m by omega] at this
theorem atF_of (s : ByteArray) (i j : Nat) (n : Int) (h : numOk 10 15 digB (s.extract i j) = (n, true)) : atF s i j = some n := by
  unfold atF
  rw [impl_Digits_is, h]
  rfl
theorem atF_is (s : ByteArray) (i j : Nat) : ∃ n, atF s i j = some n := by
  unfold atF
  rw [impl_Digits_is]
  exact ⟨_, rfl⟩
/-- What is shown is read. -/
theorem read_show {y m d h n c : Int} (G : Good y m d h n c) :
    specY (showN y m d h n c) = y ∧ specM (showN y m d h n c) = m ∧ digN (showN y m d h n c) 5 = d ∧ digN (showN y m d h n c) 17 = h ∧ digN (showN y m d h n c) 20 = n ∧ digN (showN y m d h n c) 23 = c ∧
    atF (showN y m d h n c) 5 7 = some d ∧ atF (showN y m d h n c) 12 16 = some y ∧ atF (showN y m d h n c) 17 19 = some h ∧ atF (showN y m d h n c) 20 22 = some n ∧ atF (showN y m d h n c) 23 25 = some c ∧ monthF (showN y m d h n c) = m := by
  obtain ⟨p1, p2, p3, p4, p5, p6, p7, p8⟩ := show_parts G
  have hmd := md_bound y m
  have g1 := G.y0
  have g2 := G.y1
  have g3 := G.d0
  have g4 := G.d1
  have g5 := G.h0
  have g6 := G.h1
  have g7 := G.n0
  have g8 := G.n1
  have g9 := G.s0
  have g10 := G.s1
  have two : ∀ x : Int, 0 ≤ x → x ≤ 99 → numOk 10 15 digB (twoT x) = (x, true) := fun x a b => by rw [num_two x a]; congr 1; omega
  refine ⟨?_, ?_, ?_, ?_, ?_, ?_, ?_, ?_, ?_, ?_, ?_, ?_⟩
  · unfold specY digN
    rw [p3, p4, num_two _ (by omega), num_two y (by omega)]
    show wrap64 (wrap64 (100 * (y / 100 % 100)) + y % 100) = y
    rw [wrap_in (i := 100 * (y / 100 % 100)) (by omega) (by omega), wrap_in (by omega) (by omega)]
    omega
  · unfold specM
    rw [p2]
    exact month_spec m G.m0 G.m1
  · unfold digN; rw [p1, two d (by omega) (by omega)]
  · unfold digN; rw [p6, two h (by omega) (by omega)]
  · unfold digN; rw [p7, two n (by omega) (by omega)]
  · unfold digN; rw [p8, two c (by omega) (by omega)]
  · exact atF_of _ _ _ _ (by rw [p1, two d (by omega) (by omega)])
  · exact atF_of _ _ _ _ (by rw [p5, num_four y (by omega) (by omega)])
  · exact atF_of _ _ _ _ (by rw [p6, two h (by omega) (by omega)])
  · exact atF_of _ _ _ _ (by rw [p7, two n (by omega) (by omega)])
  · exact atF_of _ _ _ _ (by rw [p8, two c (by omega) (by omega)])
  · unfold monthF
    rw [p2]
    exact month_impl m G.m0 G.m1
/-- A text that is shown is no empty one. -/
theorem good_of_show {s : ByteArray} (hs : s.size = 29) {y m d h n c : Int} (e : (showR y m d h n c).toList = s.toList) : Good y m d h n c ∧ s = showN y m d h n c := by
  have e2 := eq_of_toList e
  unfold showR at e2
  by_cases g : dateOk y m d h n c = true
  · rw [if_pos g] at e2
    exact ⟨(good_iff ..).1 g, e2.symm⟩
  · rw [if_neg g] at e2
    rw [← e2] at hs
    exact absurd hs (by decide)
theorem impl_ReadDate_is (s : ByteArray) (hs : s.size = 29) : impl_ReadDate.f s = some (dateIf s (specY s) (specM s) (digN s 5) (digN s 17) (digN s 20) (digN s 23)) := by
  unfold impl_ReadDate.f
  rw [if_pos hs]
  obtain ⟨d, hd⟩ := atF_is s 5 7
  obtain ⟨y, hy⟩ := atF_is s 12 16
  obtain ⟨h, hh⟩ := atF_is s 17 19
  obtain ⟨n, hn⟩ := atF_is s 20 22
  obtain ⟨c, hc⟩ := atF_is s 23 25
  rw [hd, hy, hh, hn, hc]
  simp only [Option.bind_some]
  rw [impl_DateOk_is _ _ _ _ _ _ 16 (by decide)]
  simp only [Option.bind_some]
  by_cases q : (showR (specY s) (specM s) (digN s 5) (digN s 17) (digN s 20) (digN s 23)).toList = s.toList
  · obtain ⟨G, e⟩ := good_of_show hs q
    obtain ⟨-, -, -, -, -, -, r1, r2, r3, r4, r5, r6⟩ := read_show G
    rw [← e] at r1 r2 r3 r4 r5 r6
    rw [r1] at hd
    rw [r2] at hy
    rw [r3] at hh
    rw [r4] at hn
    rw [r5] at hc
    obtain rfl := Option.some.inj hd
    obtain rfl := Option.some.inj hy
    obtain rfl := Option.some.inj hh
    obtain rfl := Option.some.inj hn
    obtain rfl := Option.some.inj hc
    rw [r6, if_pos ((good_iff ..).2 G), impl_ShowDate_ev _ _ _ _ _ _ 16 (by decide)]
    simp only [Option.bind_some]
    unfold dateIf
    rw [if_pos q, if_pos q]
  · have hno : dateIf s (specY s) (specM s) (digN s 5) (digN s 17) (digN s 20) (digN s 23) = (0, 0, 0, 0, 0, 0, false) := by unfold dateIf; rw [if_neg q]
    rw [hno]
    by_cases g : dateOk y (monthF s) d h n c = true
    · rw [if_pos g, impl_ShowDate_ev _ _ _ _ _ _ 16 (by decide)]
      simp only [Option.bind_some]
      by_cases e : (showR y (monthF s) d h n c).toList = s.toList
      · exfalso
        obtain ⟨G, e2⟩ := good_of_show hs e
        obtain ⟨t1, t2, t3, t4, t5, t6, -⟩ := read_show G
        rw [← e2] at t1 t2 t3 t4 t5 t6
        rw [t1, t2, t3, t4, t5, t6] at q
        exact q e
      · rw [if_neg e]
    · rw [if_neg g]
end Go.Proofs.YtkaknffeoeoajaaDoor.Q
namespace Go.Proofs.YtkaknffeoeoajaaDoor.Pure
set_option linter.unusedVariables false
set_option linter.unusedSimpArgs false
open Go.RowKit Go.Proofs.YtkaknffeoeoajaaDoor.P Go.Proofs.YtkaknffeoeoajaaDoor.Q Go.Proofs.YtkaknffeoeoajaaDoorW.PrintWords
theorem showR_size (y m d h n c : Int) : (showR y m d h n c).size ≤ 29 := by
 unfold showR
 by_cases g : dateOk y m d h n c = true
 ·
  rw [if_pos g, showN_size ((good_iff ..).1 g)]
  exact Nat.le_refl _
 ·
  rw [if_neg g]
  exact Nat.zero_le _
theorem date_if_ok (s : ByteArray) (y m d h n c : Int) (hk : (dateIf s y m d h n c).2.2.2.2.2.2 = true) : (showR y m d h n c).toList = s.toList ∧ dateIf s y m d h n c = (y, m, d, h, n, c, true) := by
 by_cases q : (showR y m d h n c).toList = s.toList
 ·
  exact ⟨q, if_pos q⟩
 ·
  have e : dateIf s y m d h n c = (0, 0, 0, 0, 0, 0, false) := if_neg q
  rw [e] at hk
  cases hk
theorem date_if_no (s : ByteArray) (y m d h n c : Int) (hk : (dateIf s y m d h n c).2.2.2.2.2.2 = false) : dateIf s y m d h n c = (0, 0, 0, 0, 0, 0, false) := by
 by_cases q : (showR y m d h n c).toList = s.toList
 ·
  have e : dateIf s y m d h n c = (y, m, d, h, n, c, true) := if_pos q
  rw [e] at hk
  cases hk
 ·
  exact if_neg q
theorem read_r (s : ByteArray) : ∃ r : Dt, Ev (fun k => spec_ReadDate.f k s) r ∧ impl_ReadDate.f s = some r ∧ (r.2.2.2.2.2.2 = true → (showR r.1 r.2.1 r.2.2.1 r.2.2.2.1 r.2.2.2.2.1 r.2.2.2.2.2.1).toList = s.toList) ∧ (r.2.2.2.2.2.2 = false → r = (0, 0, 0, 0, 0, 0, false)) := by
 by_cases h : s.size = 29
 ·
  have e1 := spec_ReadDate_ev s h
  have e2 := impl_ReadDate_is s h
  generalize specY s = y at e1 e2
  generalize specM s = m at e1 e2
  generalize digN s 5 = d at e1 e2
  generalize digN s 17 = hh at e1 e2
  generalize digN s 20 = n at e1 e2
  generalize digN s 23 = c at e1 e2
  refine ⟨_, e1, e2, fun hk => ?_, date_if_no s y m d hh n c⟩
  obtain ⟨q, e⟩ := date_if_ok s y m d hh n c hk
  rw [e]
  exact q
 ·
  refine ⟨(0, 0, 0, 0, 0, 0, false), ?_, ?_, (fun x => by cases x), fun _ => rfl⟩
  ·
   unfold spec_ReadDate.f
   simp only [if_neg (show ¬ (s.size : Int) = 29 by omega)]
   exact Ev.now _
  ·
   unfold impl_ReadDate.f
   rw [if_neg h]
theorem read_good {y m d h n c : Int} (G : Q.Good y m d h n c) : impl_ReadDate.f (showN y m d h n c) = some (y, m, d, h, n, c, true) := by
 rw [impl_ReadDate_is _ (showN_size G)]
 obtain ⟨e1, e2, e3, e4, e5, e6, -⟩ := read_show G
 unfold dateIf
 rw [e1, e2, e3, e4, e5, e6, if_pos (by unfold showR; rw [if_pos ((good_iff ..).2 G)])]
theorem leap400 (y : Int) (h : 0 ≤ y) : leapB (y + 400) = leapB y := by
 have a := leapB_iff y h
 have b := leapB_iff (y + 400) (by omega)
 have e4 : (y + 400) % 4 = y % 4 := by omega
 have e100 : (y + 400) % 100 = y % 100 := by omega
 have e400 : (y + 400) % 400 = y % 400 := by omega
 rw [e4, e100, e400] at b
 exact Bool.eq_iff_iff.2 (b.trans a.symm)
theorem monthDays400 (y m : Int) (h : 0 ≤ y) : monthDays (y + 400) m = monthDays y m := by
 unfold monthDays
 rw [leap400 y h]
theorem monthD400 (y : Int) (h : 0 ≤ y) (m : Nat) : monthD (y + 400) m = monthD y m := by
 induction m with
 | zero => rfl
 | succ m ih =>
  unfold monthD
  rw [ih, monthDays400 y _ h]
theorem dayN400 (y m d : Int) (h : 0 ≤ y) : dayN (y + 400) m d = dayN y m d + 146097 := by
 unfold dayN yearD
 rw [monthD400 y h]
 omega
theorem written_j1 (l : List Int) (hb : l.length ≤ 140737488351232) : Ev (fun k => laws_FnWritten.j1 k l) true := by
 have hd : TotP (fun k => spec_DrawReadDate.f k l) (fun _ => True) := by
  unfold spec_DrawReadDate.f
  refine TotP.bind (new_ok l hb) fun c pc => ?_
  obtain ⟨c0, c1, c2⟩ := c
  obtain ⟨e, p⟩ := pc
  simp only at e p
  subst e
  refine TotP.bind (l2DrawAny_ok _ _ _ p hb) fun r1 p1 => ?_
  refine TotP.bind (P := fun r => r = showR r1.1 r1.2.1 r1.2.2.1 r1.2.2.2.1 r1.2.2.2.2.1 r1.2.2.2.2.2.1) ⟨_, ⟨16, fun k hk => spec_ShowDate_ev _ _ _ _ _ _ k hk⟩, rfl⟩ fun t pt => ?_
  have hz : t.size ≤ 29 := by rw [pt]; exact showR_size ..
  refine TotP.bind (TotP.of (once_ok _ _ _ 3 p1 hb)) fun r2 p2 => TotP.ite (fun _ => ?_) (fun _ => TotP.now trivial)
  exact TotP.bind (bend_ok _ hb _ _ (by omega) (by decide) _ _ p2) fun r3 p3 => TotP.now trivial
 obtain ⟨t, ht, -⟩ := hd
 obtain ⟨r, h1, h2, h3, h4⟩ := read_r t
 refine Ev.step (fun k => by simp only [laws_FnWritten.j1]; rfl) (Ev.bind ht ?_)
 simp only [h2, Option.bind_some]
 refine Ev.bind h1 ?_
 obtain ⟨y, m, d, h, n, c, ok⟩ := r
 simp only at h3 h4
 simp only [bne_self_eq_false, Bool.false_eq_true, if_false, beq_self_eq_true, Bool.not_true, Bool.or_self]
 cases ok with
 | true =>
  simp only [if_true]
  refine Ev.bind (g := fun k => impl_ShowDate.f k y m d h n c) ⟨16, fun k hk => impl_ShowDate_ev _ _ _ _ _ _ k hk⟩ ?_
  rw [h3 rfl, beq_self_eq_true]
  exact Ev.now _
 | false =>
  have e := h4 rfl
  simp only [Prod.mk.injEq] at e
  obtain ⟨rfl, rfl, rfl, rfl, rfl, rfl, -⟩ := e
  exact Ev.now _
theorem written_j0 (l : List Int) (hb : l.length ≤ 140737488351232) (y m d h n c : Int) : Ev (fun k => laws_FnWritten.j0 k l (showR y m d h n c) false y m d h n c) true := by
 have hj := written_j1 l hb
 by_cases g : dateOk y m d h n c = true
 ·
  have G := (good_iff ..).1 g
  have es : showR y m d h n c = showN y m d h n c := by unfold showR; rw [if_pos g]
  have hz := showN_size G
  have hne : ¬ (showN y m d h n c).toList = ([] : List UInt8) := fun e => by
   have := (toList_nil _).1 e
   omega
  have hy := G.y0
  have hy1 := G.y1
  rw [es]
  refine Ev.step (fun k => by simp only [laws_FnWritten.j0]; rw [if_neg (by simp), if_neg hne, read_good G]) ?_
  simp only [Option.bind_some, if_true, beq_self_eq_true, Bool.not_true, Bool.or_self, Bool.false_eq_true, if_false]
  have h29 : ((showN y m d h n c).size : Int) = 29 := by omega
  have hw : wrap64 (y + 400) = y + 400 := wrap_in (by omega) (by omega)
  simp only [if_pos h29, hw]
  by_cases hl : y + 400 < 10000
  ·
   simp only [if_pos hl]
   have G4 : Q.Good (y + 400) m d h n c := ⟨by omega, by omega, G.m0, G.m1, G.d0, by rw [monthDays400 y m (by omega)]; exact G.d1, G.h0, G.h1, G.n0, G.n1, G.s0, G.s1⟩
   have w1 : Ev (fun k => impl_Weekday.f k (y + 400) m d h n c) ((dayN (y + 400) m d + 4) % 7) := ⟨16, fun k hk => by
    have := impl_Weekday_ev (y + 400) m d h n c k hk
    rw [if_pos ((good_iff ..).2 G4)] at this
    exact this⟩
   have w2 : Ev (fun k => impl_Weekday.f k y m d h n c) ((dayN y m d + 4) % 7) := ⟨16, fun k hk => by
    have := impl_Weekday_ev y m d h n c k hk
    rw [if_pos g] at this
    exact this⟩
   have e : (dayN (y + 400) m d + 4) % 7 = (dayN y m d + 4) % 7 := by rw [dayN400 y m d (by omega)]; omega
   refine Ev.bind w1 (Ev.bind w2 ?_)
   simp only [if_pos e]
   exact hj
  ·
   simp only [if_neg hl]
   exact hj
 ·
  have es : showR y m d h n c = ⟨#[]⟩ := by unfold showR; rw [if_neg g]
  rw [es]
  refine Ev.step (fun k => ?_) hj
  simp only [laws_FnWritten.j0]
  rw [if_neg (by simp), if_pos ((toList_nil _).2 rfl)]
theorem FnWritten : laws_FnWritten.Pure := by
 intro l hl hs hx
 have hb : l.length ≤ 140737488351232 := by omega
 have hd : TotP (fun k => spec_DrawShowDate.f k l) (fun _ => True) := by
  unfold spec_DrawShowDate.f spec_DrawDateOk.f
  refine TotP.bind (TotP.bind (P := fun r : List Int × Int × Int => r.1 = l ∧ 0 ≤ r.2.1) (Q := fun _ => True) (new_ok l hb) fun c pc => ?_) fun _ _ => TotP.now trivial
  obtain ⟨c0, c1, c2⟩ := c
  obtain ⟨e, p⟩ := pc
  simp only at e p
  subst e
  exact TotP.bind (l2DrawAny_ok _ _ _ p hb) fun r1 p1 => TotP.now trivial
 obtain ⟨⟨y, m, d, h, n, c⟩, ht, -⟩ := hd
 have key : Ev (fun k => laws_FnWritten.f k l) true := by
  unfold laws_FnWritten.f laws_big.f
  simp only [Option.bind_some]
  by_cases hb2 : decide ((l.length : Int) > 4096) = true
  ·
   simp only [if_pos hb2]
   exact Ev.now _
  ·
   simp only [if_neg hb2]
   refine Ev.bind ht ?_
   dsimp only
   have q1 : Ev (fun k => impl_ShowDate.f k y m d h n c) (showR y m d h n c) := ⟨16, fun k hk => impl_ShowDate_ev _ _ _ _ _ _ k hk⟩
   have q2 : Ev (fun k => spec_ShowDate.f k y m d h n c) (showR y m d h n c) := ⟨16, fun k hk => spec_ShowDate_ev _ _ _ _ _ _ k hk⟩
   refine Ev.bind q1 (Ev.bind q2 ?_)
   simp only [if_true, spec_DateOk_is, Option.bind_some]
   have e : (((showR y m d h n c).toList != ([] : List UInt8)) != dateOk y m d h n c) = false := by
    unfold showR
    cases g : dateOk y m d h n c
    ·
     simp only [Bool.false_eq_true, if_false]
     rw [(toList_nil _).2 rfl]
     rfl
    ·
     simp only [if_true]
     have hz := showN_size ((good_iff ..).1 g)
     have hne : ((showN y m d h n c).toList != ([] : List UInt8)) = true := by
      rw [bne_iff_ne]
      intro e
      have := (toList_nil _).1 e
      omega
     rw [hne]
     rfl
   simp only [e]
   exact written_j0 l hb y m d h n c
 obtain ⟨K, hK⟩ := key
 exact ⟨K, hK K (Nat.le_refl _)⟩
end Go.Proofs.YtkaknffeoeoajaaDoor.Pure
