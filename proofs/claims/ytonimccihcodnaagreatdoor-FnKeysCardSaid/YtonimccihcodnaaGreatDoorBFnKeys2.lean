/- Functions of the Go program as Lean functions, and proofs about them, merged out of this session's texts by its program bundle.py; conditions: those that each theorem states. -/
import Derived.Below
import Derived.ChangeOld
import Derived.LaidMore
import Derived.Laws.BitsLemmas
import Derived.Lay
import Derived.Lib.Bytealg
import Derived.Lib.IndexMore
import Derived.Lib.ItoaNum
import Derived.Lib.SplitLaws
import Derived.Lib.Strings
import Derived.OpenShut
import Derived.ProofKit
import Derived.SevenTiedAt
import Derived.ShutString
import Derived.SizedLaws
import Derived.Sort.Walk0
import Derived.Stop.Joined
import Derived.Test.YtonimccihcodnaaGreatDoorBFnKeys1
import Derived.Test.YtonimccihcodnaaGreatDoorCards
import Derived.Test.YtonimccihcodnaaGreatDoorGJoin
import Derived.Test.YtonimccihcodnaaGreatDoorGSplit
import Derived.Test.YtonimccihcodnaaGreatDoorGspecl3Plain
import Derived.Test.YtonimccihcodnaaGreatDoorP0
import Derived.Test.YtonimccihcodnaaGreatDoorPimplDotless
import Derived.Test.YtonimccihcodnaaGreatDoorPimplisDigit
import Derived.Test.YtonimccihcodnaaGreatDoorPimplisLetter
import Derived.Test.YtonimccihcodnaaGreatDoorPimplisPath
import Derived.Test.YtonimccihcodnaaGreatDoorPspecDotless
import Derived.Test.YtonimccihcodnaaGreatDoorPspecUncoded
import Derived.Test.YtonimccihcodnaaGreatDoorPspecl1Below
import Derived.Test.YtonimccihcodnaaGreatDoorPspecl1Byte
import Derived.Test.YtonimccihcodnaaGreatDoorPspecl1DrawText
import Derived.Test.YtonimccihcodnaaGreatDoorPspecl1Hex
import Derived.Test.YtonimccihcodnaaGreatDoorPspecl1New
import Derived.Test.YtonimccihcodnaaGreatDoorPspecl1Once
import Derived.Test.YtonimccihcodnaaGreatDoorPspecl3Coded
import Derived.Test.YtonimccihcodnaaGreatDoorPspecl3Path
import Derived.Test.YtonimccihcodnaaGreatDoorPspecl3Sorted
import Derived.Test.YtonimccihcodnaaGreatDoorPspecl3Split
import Derived.Test.YtonimccihcodnaaGreatDoorPstringsHasPrefix
import Derived.Test.YtonimccihcodnaaGreatDoorPstringsliteHasPrefix
import Derived.Test.YtonimccihcodnaaGreatDoorRows
import Derived.Test.YtonimccihcodnaaGreatDoorTie
import Derived.Test.YtonimccihcodnaaGreatDoorWSized
import Derived.Test.YtonimccihcodnaaGreatDoorXA
import Derived.Test.YtonimccihcodnaaGreatDoorXW
import Derived.WalkKit
namespace Go.Proofs.YtonimccihcodnaaGreatDoor.P
open Go.RowKit Go.Proofs.YtonimccihcodnaaGreatDoorW.PrintWords Go.Proofs.YtonimccihcodnaaGreatDoorW.PrintLast Go.Proofs.YtonimccihcodnaaGreatDoorW.PrintMore
attribute [local go_sem] max2_int min2_int max_two min_two max_three min_three max_four min_four   -- for this text's walks alone
set_option linter.unusedVariables false
set_option linter.unusedSimpArgs false

/-! ### laws_FnKeys: function 4 -/
abbrev laws_FnKeys.d0 : Array Bool := #[false, false, false, false, false, false, false, false, false, false, false, false, false, false, false, false, false]
abbrev laws_FnKeys.d1 : Array Bool := #[true, false, false, false, false, false, false, false, false, false, false, false, false, false, false, false, false]
abbrev laws_FnKeys.d2 : Array Bool := #[true, true, false, false, false, false, false, false, false, false, false, false, false, false, false, false, false]
abbrev laws_FnKeys.d3 : Array Bool := #[true, true, true, false, false, false, false, false, false, false, false, false, false, false, false, false, false]
abbrev laws_FnKeys.d4 : Array Bool := #[true, true, true, false, false, false, true, false, false, false, false, false, false, false, false, false, false]
abbrev laws_FnKeys.d5 : Array Bool := #[true, true, true, false, false, false, true, true, false, false, false, false, false, false, false, false, false]
abbrev laws_FnKeys.d6 : Array Bool := #[true, true, true, false, false, false, true, true, true, false, false, false, false, false, false, false, false]
abbrev laws_FnKeys.d7 : Array Bool := #[true, true, true, true, false, false, true, true, true, false, false, false, false, false, false, false, false]
abbrev laws_FnKeys.d8 : Array Bool := #[true, true, true, true, true, false, true, true, true, false, false, false, false, false, false, false, false]
abbrev laws_FnKeys.d9 : Array Bool := #[true, true, true, true, true, true, true, true, true, false, false, false, false, false, false, false, false]
abbrev laws_FnKeys.d10 : Array Bool := #[true, true, true, true, true, true, true, true, true, true, false, false, false, false, false, false, false]
abbrev laws_FnKeys.d11 : Array Bool := #[true, true, true, true, true, true, true, true, true, true, true, false, false, false, false, false, false]
abbrev laws_FnKeys.d12 : Array Bool := #[true, true, true, true, true, true, true, true, true, true, true, true, false, false, false, false, false]
abbrev laws_FnKeys.d13 : Array Bool := #[true, true, true, true, true, true, true, true, true, true, true, true, true, false, false, false, false]
abbrev laws_FnKeys.d14 : Array Bool := #[true, true, true, true, true, true, true, true, true, true, true, true, true, true, false, false, false]
abbrev laws_FnKeys.d15 : Array Bool := #[true, true, true, true, true, true, true, true, true, true, true, true, true, true, true, false, false]
abbrev laws_FnKeys.d16 : Array Bool := #[true, true, true, true, true, true, true, true, true, true, true, true, true, true, true, true, false]
abbrev laws_FnKeys.d17 : Array Bool := #[true, true, true, true, true, true, true, true, true, true, true, true, true, true, true, true, true]
def laws_FnKeys.j0 : Nat → List Int → ByteArray → Bool → Bool → Option (Bool)
 | 0, _, _, _, _ => none
 | k + 1, x0, x7, x8, x60 => if x60 = true then (some false) else ((some (([(⟨#[120, 61, 49]⟩ : ByteArray), (⟨#[121]⟩ : ByteArray), (⟨#[107, 61, 118]⟩ : ByteArray), (⟨#[120, 61, 50]⟩ : ByteArray)] : List ByteArray) : List ByteArray)).bind fun y112 => ((laws_pick.f k x0 1 4).bind fun t115 => ((laws_pick.f k x0 2 4).bind fun t116 => (if 0 ≤ t115 then (if t115 < (y112.length : Int) then (if 8 + (rdOf ByteArray.empty y112 t115).size ≤ 9223372036854775807 then (if ((⟨#[47, 98, 47, 46, 46, 47, 99, 63]⟩ : ByteArray) ++ (rdOf ByteArray.empty y112 t115)).size + 1 ≤ 9223372036854775807 then (if 0 ≤ t116 then (if t116 < (y112.length : Int) then (if (((⟨#[47, 98, 47, 46, 46, 47, 99, 63]⟩ : ByteArray) ++ (rdOf ByteArray.empty y112 t115)) ++ (⟨#[38]⟩ : ByteArray)).size + (rdOf ByteArray.empty y112 t116).size ≤ 9223372036854775807 then ((impl_Key.f k (⟨#[72, 46, 97]⟩ : ByteArray) ((((⟨#[47, 98, 47, 46, 46, 47, 99, 63]⟩ : ByteArray) ++ (rdOf ByteArray.empty y112 t115)) ++ (⟨#[38]⟩ : ByteArray)) ++ (rdOf ByteArray.empty y112 t116))).bind fun bt119 => (if 6 + (rdOf ByteArray.empty y112 t116).size ≤ 9223372036854775807 then (if ((⟨#[47, 37, 54, 51, 63, 38]⟩ : ByteArray) ++ (rdOf ByteArray.empty y112 t116)).size + 2 ≤ 9223372036854775807 then (if (((⟨#[47, 37, 54, 51, 63, 38]⟩ : ByteArray) ++ (rdOf ByteArray.empty y112 t116)) ++ (⟨#[38, 38]⟩ : ByteArray)).size + (rdOf ByteArray.empty y112 t115).size ≤ 9223372036854775807 then ((impl_Key.f k (⟨#[104, 46, 65]⟩ : ByteArray) ((((⟨#[47, 37, 54, 51, 63, 38]⟩ : ByteArray) ++ (rdOf ByteArray.empty y112 t116)) ++ (⟨#[38, 38]⟩ : ByteArray)) ++ (rdOf ByteArray.empty y112 t115))).bind fun bt123 => (if bt119.2 = true then (if bt123.2 = true then (if bt119.1.toList = bt123.1.toList then (if x8 = true then (some true) else (some (x7.toList == ([] : List UInt8)))) else (some false)) else (some false)) else (some false))) else (none)) else (none)) else (none))) else (none)) else (none)) else (none)) else (none)) else (none)) else (none)) else (none)))))
def laws_FnKeys.f (k : Nat) (l0 : List Int) : Option (Bool) := (laws_big.f l0).bind fun t101 => (if t101 = true then (some true) else ((spec_DrawSortedQuery.f k l0).bind fun t102 => ((impl_SortedQuery.f t102).bind fun t103 => ((spec_DrawKey.f k l0).bind fun bt104 => ((impl_Key.f k bt104.1 bt104.2).bind fun bt106 => ((spec_Key.f k bt104.1 bt104.2).bind fun bt108 => (if bt106.1.toList = bt108.1.toList then (if (bt106.2 != bt108.2) = true then (laws_FnKeys.j0 k l0 bt106.1 bt106.2 true) else ((spec_SortedQuery.f k t102).bind fun t110 => (if t103.toList = t110.toList then ((impl_SortedQuery.f t103).bind fun t111 => (laws_FnKeys.j0 k l0 bt106.1 bt106.2 (t111.toList != t103.toList))) else (laws_FnKeys.j0 k l0 bt106.1 bt106.2 true)))) else (laws_FnKeys.j0 k l0 bt106.1 bt106.2 true))))))))
theorem laws_FnKeys.mono_l : ∀ k, (∀ y0 y1 y2 y3, LeO (laws_FnKeys.j0 k y0 y1 y2 y3) (laws_FnKeys.j0 (k + 1) y0 y1 y2 y3))
 | 0 => fun _ _ _ _ r h => by simp [laws_FnKeys.j0] at h
 | k + 1 => by
  have ih0 := laws_FnKeys.mono_l k
  ·
   intro y0 y1 y2 y3
   unfold laws_FnKeys.j0
   repeat' first
   | (with_reducible exact ih0 _ _ _ _)
   | (with_reducible exact impl_Key.mono _ _ _)
   | (with_reducible exact laws_pick.mono _ _ _ _)
   | (with_reducible exact spec_DrawKey.mono _ _)
   | (with_reducible exact spec_DrawSortedQuery.mono _ _)
   | (with_reducible exact spec_Key.mono _ _ _)
   | (with_reducible exact spec_SortedQuery.mono _ _)
   | (with_reducible exact LeO.refl _)
   | (with_reducible exact LeO.none _)
   | (with_reducible refine LeO.ite ?_ ?_)
   | (with_reducible refine LeO.bind ?_ (fun _ => ?_))
   | exact ih0 _ _ _ _
   | exact impl_Key.mono _ _ _
   | exact laws_pick.mono _ _ _ _
   | exact spec_DrawKey.mono _ _
   | exact spec_DrawSortedQuery.mono _ _
   | exact spec_Key.mono _ _ _
   | exact spec_SortedQuery.mono _ _
   | exact LeO.none _
   | refine LeO.ite ?_ ?_
   | refine LeO.bind ?_ (fun _ => ?_)
theorem laws_FnKeys.mono : ∀ a0 k, LeO (laws_FnKeys.f k a0) (laws_FnKeys.f (k + 1) a0) := by
 intro a0 k
 have ih0 := laws_FnKeys.mono_l k
 unfold laws_FnKeys.f
 repeat' first
   | (with_reducible exact ih0 _ _ _ _)
   | (with_reducible exact impl_Key.mono _ _ _)
   | (with_reducible exact laws_pick.mono _ _ _ _)
   | (with_reducible exact spec_DrawKey.mono _ _)
   | (with_reducible exact spec_DrawSortedQuery.mono _ _)
   | (with_reducible exact spec_Key.mono _ _ _)
   | (with_reducible exact spec_SortedQuery.mono _ _)
   | (with_reducible exact LeO.refl _)
   | (with_reducible exact LeO.none _)
   | (with_reducible refine LeO.ite ?_ ?_)
   | (with_reducible refine LeO.bind ?_ (fun _ => ?_))
   | exact ih0 _ _ _ _
   | exact impl_Key.mono _ _ _
   | exact laws_pick.mono _ _ _ _
   | exact spec_DrawKey.mono _ _
   | exact spec_DrawSortedQuery.mono _ _
   | exact spec_Key.mono _ _ _
   | exact spec_SortedQuery.mono _ _
   | exact LeO.none _
   | refine LeO.ite ?_ ?_
   | refine LeO.bind ?_ (fun _ => ?_)
def laws_FnKeys.T13 : Bool × List (List Nat × List Nat) := (true, [([], []), ([], []), ([0, 1], [0, 1]), ([2], [2]), ([3], [3]), ([4], [4]), ([], []), ([], []), ([6, 7], [6, 7]), ([8], [8]), ([5, 9], [5, 9]), ([10], [10]), ([11], [11]), ([12], [12]), ([12], [12]), ([13, 11, 0, 1, 2, 3, 4, 5, 6, 7, 8, 9, 10, 11, 12, 13], [13]), ([14, 15, 0, 1, 2, 3, 4, 5, 6, 7, 8, 9, 10, 11, 12, 13, 14, 15], [14])])
def laws_FnKeys.B13 : List Nat := [0, 0, 3, 7, 15, 31, 0, 0, 192, 448, 1023, 2047, 4095, 8191, 8191, 16383, 65535]
theorem laws_FnKeys.tab13 : rtab .any (opsOf Tryz.f4 13) = laws_FnKeys.T13 := by kernel_rfl
theorem laws_FnKeys.bits13 : waitsOk laws_FnKeys.T13.2 laws_FnKeys.B13 = true := by kernel_rfl
def laws_FnKeys.T14 : Bool × List (List Nat × List Nat) := (true, [([], []), ([], []), ([0, 1], [0, 1]), ([2], [2]), ([3], [3]), ([4], [4]), ([], []), ([], []), ([6, 7], [6, 7]), ([8], [8]), ([5, 9], [5, 9]), ([10], [10]), ([11], [11]), ([12], [12]), ([12], [12]), ([13, 11, 0, 1, 2, 3, 4, 5, 6, 7, 8, 9, 10, 11, 12, 13], [13]), ([14, 15, 0, 1, 2, 3, 4, 5, 6, 7, 8, 9, 10, 11, 12, 13, 14, 15], [14])])
def laws_FnKeys.B14 : List Nat := [0, 0, 3, 7, 15, 31, 0, 0, 192, 448, 1023, 2047, 4095, 8191, 8191, 16383, 65535]
theorem laws_FnKeys.tab14 : rtab .any (opsOf Tryz.f4 14) = laws_FnKeys.T14 := by kernel_rfl
theorem laws_FnKeys.bits14 : waitsOk laws_FnKeys.T14.2 laws_FnKeys.B14 = true := by kernel_rfl
set_option maxHeartbeats 8000000 in
set_option maxRecDepth 100000 in
theorem laws_FnKeys.calls (k : Nat) (A0 : Option Addr) (c0 : Nat) (l0 : List Int) (r : Bool) (w : World) (hX : XW 1 w) (hr0 : Kd.C (Kd.int .u8) w A0 l0.length l0) (hc0 : l0.length ≤ c0) (h : laws_FnKeys.f k l0 = some r) :
  Calls Tryz.prog 4 #[.slice A0 l0.length c0] w fun e w' => e = .returned (.bool r) ∧ Below w.heap.size w w' := by
 have HR0 := Aside0.mk hr0
 have HC0 := Aside0.mk hc0
 clear hr0 hc0
 have HB := Aside0.mk (Below.refl w.heap.size w)
 have H : ((laws_big.f l0).bind fun t101 => (if t101 = true then (some true) else ((spec_DrawSortedQuery.f k l0).bind fun t102 => ((impl_SortedQuery.f t102).bind fun t103 => ((spec_DrawKey.f k l0).bind fun bt104 => ((impl_Key.f k bt104.1 bt104.2).bind fun bt106 => ((spec_Key.f k bt104.1 bt104.2).bind fun bt108 => (if bt106.1.toList = bt108.1.toList then (if (bt106.2 != bt108.2) = true then (laws_FnKeys.j0 k l0 bt106.1 bt106.2 true) else ((spec_SortedQuery.f k t102).bind fun t110 => (if t103.toList = t110.toList then ((impl_SortedQuery.f t103).bind fun t111 => (laws_FnKeys.j0 k l0 bt106.1 bt106.2 (t111.toList != t103.toList))) else (laws_FnKeys.j0 k l0 bt106.1 bt106.2 true)))) else (laws_FnKeys.j0 k l0 bt106.1 bt106.2 true))))))))) = some r := h
 clear h
 obtain ⟨t101, A20, H⟩ := Option.bind_eq_some_iff.mp H
 try dsimp only at H
 have A2 := Aside0.mk A20
 clear A20
 by_cases c3 : t101 = true
 ·
  subst c3
  have H1 : (some true) = some r := by rw [if_pos rfl] at H; exact H
  clear H
  have H := H1
  clear H1
  obtain rfl := Option.some.inj H
  go_enter Tryz.func4, Tryz.ntmps4
  go_wp2_with (first | ((with_reducible refine gate_callee (f := 7) rfl ?_); refine goesL_ (some 19) rfl rfl Tryz.func7 (by kernel_rfl) rfl #[.slice A0 l0.length c0] rfl mc ?_; (with_reducible refine (laws_big.calls _ _ l0 true _ ?side1 ?side2 A2.out).mono ?_); (case side1 => repeat (first | exact HR0.out | (with_reducible refine Kd.C_alloc ?_ _) | (with_reducible refine Kd.C_drewN ?_ _) | (with_reducible refine Kd.C_drew ?_))); (case side2 => exact HC0.out); rintro e w' ⟨rfl, ⟨nd, rfl⟩⟩; refine ⟨_, rfl, ?_⟩))
  go_ret
  exact ⟨er, bh⟩
 ·
  replace c3 := Bool.eq_false_iff.mpr c3
  subst c3
  rw [if_neg (show ¬ (false = true) by decide)] at H
  obtain ⟨t102, A40, H⟩ := Option.bind_eq_some_iff.mp H
  try dsimp only at H
  have A4 := Aside0.mk A40
  clear A40
  obtain ⟨t103, A50, H⟩ := Option.bind_eq_some_iff.mp H
  try dsimp only at H
  have A5 := Aside0.mk A50
  clear A50
  obtain ⟨⟨t104, t105⟩, A60, H⟩ := Option.bind_eq_some_iff.mp H
  try dsimp only at H
  have A6 := Aside0.mk A60
  clear A60
  obtain ⟨⟨t106, t107⟩, A70, H⟩ := Option.bind_eq_some_iff.mp H
  try dsimp only at H
  have A7 := Aside0.mk A70
  clear A70
  obtain ⟨⟨t108, t109⟩, A80, H⟩ := Option.bind_eq_some_iff.mp H
  try dsimp only at H
  have A8 := Aside0.mk A80
  clear A80
  have HC9 := Aside0.mk H
  clear H
  go_enter Tryz.func4, Tryz.ntmps4
  go_upto_region 8 with (first | ((with_reducible refine gate_callee (f := 7) rfl ?_); refine goesL_ (some 19) rfl rfl Tryz.func7 (by kernel_rfl) rfl #[.slice A0 l0.length c0] rfl mc ?_; (with_reducible refine (laws_big.calls _ _ l0 false _ ?side1 ?side2 A2.out).mono ?_); (case side1 => repeat (first | exact HR0.out | (with_reducible refine Kd.C_alloc ?_ _) | (with_reducible refine Kd.C_drewN ?_ _) | (with_reducible refine Kd.C_drew ?_))); (case side2 => exact HC0.out); rintro e w' ⟨rfl, ⟨nd, rfl⟩⟩; refine ⟨_, rfl, ?_⟩) | ((with_reducible refine gate_callee (f := 8) rfl ?_); refine goesL_ (some 21) rfl rfl Tryz.func8 (by kernel_rfl) rfl #[.slice A0 l0.length c0] rfl mc ?_; (with_reducible refine (spec_DrawSortedQuery.calls k _ _ l0 t102 _ ?side1 ?side2 A4.out).mono ?_); (case side1 => repeat (first | exact HR0.out | (with_reducible refine Kd.C_alloc ?_ _) | (with_reducible refine Kd.C_drewN ?_ _) | (with_reducible refine Kd.C_drew ?_))); (case side2 => exact HC0.out); rintro e w10 ⟨rfl, hb⟩; refine ⟨_, rfl, ?_⟩; replace HB := Aside0.mk (below_step bh hb); (try clear hb); (try clear hb2); (try clear hk); (try clear hi)) | ((with_reducible refine gate_callee (f := 9) rfl ?_); refine goesL_ (some 23) rfl rfl Tryz.func9 (by kernel_rfl) rfl #[.string t102] rfl mc ?_; (with_reducible refine (impl_SortedQuery.calls t102 t103 _ ?side1 A5.out).mono ?_); (case side1 => exact XW.to (XW.stays hX bh) (by decide)); rintro e w11 ⟨rfl, hb⟩; refine ⟨_, rfl, ?_⟩; replace HB := Aside0.mk (below_step bh hb); (try clear hb); (try clear hb2); (try clear hk); (try clear hi)) | ((with_reducible refine gate_callee (f := 10) rfl ?_); refine goesL_ (some 26) rfl rfl Tryz.func10 (by kernel_rfl) rfl #[.slice A0 l0.length c0] rfl mc ?_; (with_reducible refine (spec_DrawKey.calls k _ _ l0 t104 t105 _ ?side1 ?side2 A6.out).mono ?_); (case side1 => repeat (first | exact (Kd.C_below HR0.out HB.out) | (with_reducible refine Kd.C_alloc ?_ _) | (with_reducible refine Kd.C_drewN ?_ _) | (with_reducible refine Kd.C_drew ?_))); (case side2 => exact HC0.out); rintro e w12 ⟨rfl, hb⟩; refine ⟨_, rfl, ?_⟩; replace HB := Aside0.mk (below_step bh hb); (try clear hb); (try clear hb2); (try clear hk); (try clear hi)) | ((with_reducible refine gate_callee (f := 6) rfl ?_); refine goesL_ (some 32) rfl rfl Tryz.func6 (by kernel_rfl) rfl #[.string t104, .string t105] rfl mc ?_; (with_reducible refine (impl_Key.calls k t104 t105 t106 t107 _ ?side1 A7.out).mono ?_); (case side1 => exact XW.to (XW.stays hX bh) (by decide)); rintro e w13 ⟨rfl, hb⟩; refine ⟨_, rfl, ?_⟩; replace HB := Aside0.mk (below_step bh hb); (try clear hb); (try clear hb2); (try clear hk); (try clear hi)) | ((with_reducible refine gate_callee (f := 5) rfl ?_); refine goesL_ (some 38) rfl rfl Tryz.func5 (by kernel_rfl) rfl #[.string t104, .string t105] rfl mc ?_; (with_reducible refine (spec_Key.calls k t104 t105 t108 t109 _ A8.out).mono ?_); rintro e w14 ⟨rfl, hb⟩; refine ⟨_, rfl, ?_⟩; replace HB := Aside0.mk (below_step bh hb); (try clear hb); (try clear hb2); (try clear hk); (try clear hi)))
  (try simp only [Act.put, List.setIfInBounds_toArray, List.set_cons_zero, List.set_cons_succ])
  go_cut [60] (fun v60 wc => ∃ (kq : Nat) (x60_8 : Bool), v60 = .bool x60_8 ∧ Aside0 (laws_FnKeys.j0 kq l0 t106 t107 x60_8 = some r) ∧ Aside0 (kq ≤ k) ∧ Aside0 (Below w.heap.size w wc))
  case first =>
   have H := HC9.out
   clear HC9
   by_cases c15 : t106.toList = t108.toList
   ·
    rw [if_pos c15] at H
    have c15b0 : (t106.toList == t108.toList) = true := beq_iff_eq.mpr c15
    have c15b1 : (t106.toList != t108.toList) = false := bne_eq_false_iff_eq.mpr c15
    clear c15
    (first | rw [c15b0] | (simp only [i64_w, i32_w]; rw [c15b0]) | skip)
    by_cases c16 : (t107 != t109) = true
    ·
     rw [if_pos c16] at H
     have c16b0 : (t107 != t109) = true := c16
     (try (have c16b1 : decide (t107 = t109) = false := by simpa using c16))
     (try (have c16b2 : (t107 == t109) = false := by simpa using c16))
     (try (have c16b3 : ¬ (t107 = t109) := by simpa using c16))
     clear c16
     have H' := Aside0.mk H
     clear H
     go_wp2
     go_meet
     case rel => exact ⟨_, (true), (by first | rfl | (simp; done) | (simp [*]; done)), H', ⟨by first | omega | exact Nat.le_refl _⟩, ⟨bh⟩⟩
    ·
     rw [if_neg c16] at H
     have c16b0 : (t107 != t109) = false := by simpa using c16
     (try (have c16b1 : decide (t107 = t109) = true := by simpa using c16))
     (try (have c16b2 : (t107 == t109) = true := by simpa using c16))
     clear c16
     obtain ⟨t110, A170, H⟩ := Option.bind_eq_some_iff.mp H
     try dsimp only at H
     have A17 := Aside0.mk A170
     clear A170
     by_cases c18 : t103.toList = t110.toList
     ·
      rw [if_pos c18] at H
      have c18b0 : (t103.toList == t110.toList) = true := beq_iff_eq.mpr c18
      have c18b1 : (t103.toList != t110.toList) = false := bne_eq_false_iff_eq.mpr c18
      clear c18
      obtain ⟨t111, A190, H⟩ := Option.bind_eq_some_iff.mp H
      try dsimp only at H
      have A19 := Aside0.mk A190
      clear A190
      have H' := Aside0.mk H
      clear H
      go_wp2_with (first | (go_at_call 11; (with_reducible refine (spec_SortedQuery.calls k t102 t110 _ A17.out).mono ?_); rintro e w20 ⟨rfl, hb⟩; replace HB := Aside0.mk (below_step bh hb); (try clear hb); (try clear hb2); (try clear hk); (try clear hi)) | (go_at_call 9; (with_reducible refine (impl_SortedQuery.calls t103 t111 _ ?side1 A19.out).mono ?_); (case side1 => exact XW.to (XW.stays hX bh) (by decide)); rintro e w21 ⟨rfl, hb⟩; replace HB := Aside0.mk (below_step bh hb); (try clear hb); (try clear hb2); (try clear hk); (try clear hi)))
      go_meet
      case rel => exact ⟨_, ((t111.toList != t103.toList)), (by first | rfl | (simp; done) | (simp [*]; done)), H', ⟨by first | omega | exact Nat.le_refl _⟩, ⟨bh⟩⟩
     ·
      rw [if_neg c18] at H
      have c18b0 : (t103.toList == t110.toList) = false := beq_eq_false_iff_ne.mpr c18
      have c18b1 : (t103.toList != t110.toList) = true := bne_iff_ne.mpr c18
      have H' := Aside0.mk H
      clear H
      go_wp2_with (first | (go_at_call 11; (with_reducible refine (spec_SortedQuery.calls k t102 t110 _ A17.out).mono ?_); rintro e w22 ⟨rfl, hb⟩; replace HB := Aside0.mk (below_step bh hb); (try clear hb); (try clear hb2); (try clear hk); (try clear hi)))
      go_meet
      case rel => exact ⟨_, (true), (by first | rfl | (simp; done) | (simp [*]; done)), H', ⟨by first | omega | exact Nat.le_refl _⟩, ⟨bh⟩⟩
   ·
    rw [if_neg c15] at H
    have c15b0 : (t106.toList == t108.toList) = false := beq_eq_false_iff_ne.mpr c15
    have c15b1 : (t106.toList != t108.toList) = true := bne_iff_ne.mpr c15
    (first | rw [c15b0] | (simp only [i64_w, i32_w]; rw [c15b0]) | skip)
    have H' := Aside0.mk H
    clear H
    go_wp2
    go_meet
    case rel => exact ⟨_, (true), (by first | rfl | (simp; done) | (simp [*]; done)), H', ⟨by first | omega | exact Nat.le_refl _⟩, ⟨bh⟩⟩
  case rest =>
   clear HC9
   try clear c1
   try clear p2
   try clear c3
   try clear c4
   try clear c5
   try clear c6
   try clear c7
   try clear c8
   try clear c9
   try clear c10
   try clear c15
   try clear c15b0
   try clear c15b1
   try clear c16
   try clear c16b0
   try clear c16b1
   try clear c16b2
   try clear c18
   try clear c18b0
   try clear c18b1
   obtain ⟨kq, x60_8, rfl, HA, HJ8, HB⟩ := hcut
   cases kq with
   | zero => exact absurd HA.out (by simp [laws_FnKeys.j0])
   | succ kj8 =>
    have H := HA.out
    clear HA
    simp only [laws_FnKeys.j0] at H
    by_cases c23 : x60_8 = true
    ·
     subst c23
     have H1 : (some false) = some r := by rw [if_pos rfl] at H; exact H
     clear H
     have H := H1
     clear H1
     obtain rfl := Option.some.inj H
     go_wp2
     go_ret
     exact ⟨er, bh⟩
    ·
     replace c23 := Bool.eq_false_iff.mpr c23
     subst c23
     rw [if_neg (show ¬ (false = true) by decide)] at H
     obtain ⟨y112, hy112⟩ : ∃ y_ : List ByteArray, y_ = (([(⟨#[120, 61, 49]⟩ : ByteArray), (⟨#[121]⟩ : ByteArray), (⟨#[107, 61, 118]⟩ : ByteArray), (⟨#[120, 61, 50]⟩ : ByteArray)] : List ByteArray)) := ⟨_, rfl⟩
     replace H : ((laws_pick.f kj8 l0 1 4).bind fun t115 => ((laws_pick.f kj8 l0 2 4).bind fun t116 => (if 0 ≤ t115 then (if t115 < (y112.length : Int) then (if 8 + (rdOf ByteArray.empty y112 t115).size ≤ 9223372036854775807 then (if ((⟨#[47, 98, 47, 46, 46, 47, 99, 63]⟩ : ByteArray) ++ (rdOf ByteArray.empty y112 t115)).size + 1 ≤ 9223372036854775807 then (if 0 ≤ t116 then (if t116 < (y112.length : Int) then (if (((⟨#[47, 98, 47, 46, 46, 47, 99, 63]⟩ : ByteArray) ++ (rdOf ByteArray.empty y112 t115)) ++ (⟨#[38]⟩ : ByteArray)).size + (rdOf ByteArray.empty y112 t116).size ≤ 9223372036854775807 then ((impl_Key.f kj8 (⟨#[72, 46, 97]⟩ : ByteArray) ((((⟨#[47, 98, 47, 46, 46, 47, 99, 63]⟩ : ByteArray) ++ (rdOf ByteArray.empty y112 t115)) ++ (⟨#[38]⟩ : ByteArray)) ++ (rdOf ByteArray.empty y112 t116))).bind fun bt119 => (if 6 + (rdOf ByteArray.empty y112 t116).size ≤ 9223372036854775807 then (if ((⟨#[47, 37, 54, 51, 63, 38]⟩ : ByteArray) ++ (rdOf ByteArray.empty y112 t116)).size + 2 ≤ 9223372036854775807 then (if (((⟨#[47, 37, 54, 51, 63, 38]⟩ : ByteArray) ++ (rdOf ByteArray.empty y112 t116)) ++ (⟨#[38, 38]⟩ : ByteArray)).size + (rdOf ByteArray.empty y112 t115).size ≤ 9223372036854775807 then ((impl_Key.f kj8 (⟨#[104, 46, 65]⟩ : ByteArray) ((((⟨#[47, 37, 54, 51, 63, 38]⟩ : ByteArray) ++ (rdOf ByteArray.empty y112 t116)) ++ (⟨#[38, 38]⟩ : ByteArray)) ++ (rdOf ByteArray.empty y112 t115))).bind fun bt123 => (if bt119.2 = true then (if bt123.2 = true then (if bt119.1.toList = bt123.1.toList then (if t107 = true then (some true) else (some (t106.toList == ([] : List UInt8)))) else (some false)) else (some false)) else (some false))) else (none)) else (none)) else (none))) else (none)) else (none)) else (none)) else (none)) else (none)) else (none)) else (none)))) = some r := by first | (rw [hy112]; with_reducible exact H) | (have H2_ := (Option.bind_some _ _).symm.trans H; rw [hy112]; with_reducible exact H2_) | (have H2_ := (Option.bind_some _ _).symm.trans H; with_reducible exact H2_) | with_reducible exact H | (rw [hy112]; exact H) | exact H
     have Ny112 := Aside0.mk hy112
     clear hy112
     obtain ⟨t115, A240, H⟩ := Option.bind_eq_some_iff.mp H
     try dsimp only at H
     have A24 := Aside0.mk A240
     clear A240
     obtain ⟨t116, A250, H⟩ := Option.bind_eq_some_iff.mp H
     try dsimp only at H
     have A25 := Aside0.mk A250
     clear A250
     by_cases c26 : 0 ≤ t115
     ·
      rw [if_pos c26] at H
      have c26b0 : decide (0 ≤ t115) = true := decide_eq_true c26
      clear c26
      by_cases c27 : t115 < (y112.length : Int)
      ·
       rw [if_pos c27] at H
       have c27b0 : decide (t115 < (y112.length : Int)) = true := decide_eq_true c27
       clear c27
       by_cases c28 : 8 + (rdOf ByteArray.empty y112 t115).size ≤ 9223372036854775807
       ·
        rw [if_pos c28] at H
        have c28b0 := eq_true c28
        have c28b1 : decide (8 + (rdOf ByteArray.empty y112 t115).size ≤ 9223372036854775807) = true := decide_eq_true c28
        try have c28b2 : (9223372036854775807 < 8 + (rdOf ByteArray.empty y112 t115).size) = False := eq_false (Nat.not_lt.2 c28)
        by_cases c29 : ((⟨#[47, 98, 47, 46, 46, 47, 99, 63]⟩ : ByteArray) ++ (rdOf ByteArray.empty y112 t115)).size + 1 ≤ 9223372036854775807
        ·
         rw [if_pos c29] at H
         have c29b0 := eq_true c29
         have c29b1 : decide (((⟨#[47, 98, 47, 46, 46, 47, 99, 63]⟩ : ByteArray) ++ (rdOf ByteArray.empty y112 t115)).size + 1 ≤ 9223372036854775807) = true := decide_eq_true c29
         try have c29b2 : (9223372036854775807 < ((⟨#[47, 98, 47, 46, 46, 47, 99, 63]⟩ : ByteArray) ++ (rdOf ByteArray.empty y112 t115)).size + 1) = False := eq_false (Nat.not_lt.2 c29)
         try have c29n3 := by have z_ := c29b2; simp only [ByteArray.size_append', ByteArray.size_mk', List.size_toArray, List.length_cons, List.length_nil, Nat.zero_add, Nat.reduceAdd] at z_; exact z_
         by_cases c30 : 0 ≤ t116
         ·
          rw [if_pos c30] at H
          have c30b0 : decide (0 ≤ t116) = true := decide_eq_true c30
          clear c30
          by_cases c31 : t116 < (y112.length : Int)
          ·
           rw [if_pos c31] at H
           have c31b0 : decide (t116 < (y112.length : Int)) = true := decide_eq_true c31
           clear c31
           by_cases c32 : (((⟨#[47, 98, 47, 46, 46, 47, 99, 63]⟩ : ByteArray) ++ (rdOf ByteArray.empty y112 t115)) ++ (⟨#[38]⟩ : ByteArray)).size + (rdOf ByteArray.empty y112 t116).size ≤ 9223372036854775807
           ·
            rw [if_pos c32] at H
            have c32b0 := eq_true c32
            have c32b1 : decide ((((⟨#[47, 98, 47, 46, 46, 47, 99, 63]⟩ : ByteArray) ++ (rdOf ByteArray.empty y112 t115)) ++ (⟨#[38]⟩ : ByteArray)).size + (rdOf ByteArray.empty y112 t116).size ≤ 9223372036854775807) = true := decide_eq_true c32
            try have c32b2 : (9223372036854775807 < (((⟨#[47, 98, 47, 46, 46, 47, 99, 63]⟩ : ByteArray) ++ (rdOf ByteArray.empty y112 t115)) ++ (⟨#[38]⟩ : ByteArray)).size + (rdOf ByteArray.empty y112 t116).size) = False := eq_false (Nat.not_lt.2 c32)
            try have c32n3 := by have z_ := c32b2; simp only [ByteArray.size_append', ByteArray.size_mk', List.size_toArray, List.length_cons, List.length_nil, Nat.zero_add, Nat.reduceAdd] at z_; exact z_
            obtain ⟨⟨t119, t120⟩, A330, H⟩ := Option.bind_eq_some_iff.mp H
            try dsimp only at H
            have A33 := Aside0.mk A330
            clear A330
            by_cases c34 : 6 + (rdOf ByteArray.empty y112 t116).size ≤ 9223372036854775807
            ·
             rw [if_pos c34] at H
             have c34b0 := eq_true c34
             have c34b1 : decide (6 + (rdOf ByteArray.empty y112 t116).size ≤ 9223372036854775807) = true := decide_eq_true c34
             try have c34b2 : (9223372036854775807 < 6 + (rdOf ByteArray.empty y112 t116).size) = False := eq_false (Nat.not_lt.2 c34)
             by_cases c35 : ((⟨#[47, 37, 54, 51, 63, 38]⟩ : ByteArray) ++ (rdOf ByteArray.empty y112 t116)).size + 2 ≤ 9223372036854775807
             ·
              rw [if_pos c35] at H
              have c35b0 := eq_true c35
              have c35b1 : decide (((⟨#[47, 37, 54, 51, 63, 38]⟩ : ByteArray) ++ (rdOf ByteArray.empty y112 t116)).size + 2 ≤ 9223372036854775807) = true := decide_eq_true c35
              try have c35b2 : (9223372036854775807 < ((⟨#[47, 37, 54, 51, 63, 38]⟩ : ByteArray) ++ (rdOf ByteArray.empty y112 t116)).size + 2) = False := eq_false (Nat.not_lt.2 c35)
              try have c35n3 := by have z_ := c35b2; simp only [ByteArray.size_append', ByteArray.size_mk', List.size_toArray, List.length_cons, List.length_nil, Nat.zero_add, Nat.reduceAdd] at z_; exact z_
              by_cases c36 : (((⟨#[47, 37, 54, 51, 63, 38]⟩ : ByteArray) ++ (rdOf ByteArray.empty y112 t116)) ++ (⟨#[38, 38]⟩ : ByteArray)).size + (rdOf ByteArray.empty y112 t115).size ≤ 9223372036854775807
              ·
               rw [if_pos c36] at H
               have c36b0 := eq_true c36
               have c36b1 : decide ((((⟨#[47, 37, 54, 51, 63, 38]⟩ : ByteArray) ++ (rdOf ByteArray.empty y112 t116)) ++ (⟨#[38, 38]⟩ : ByteArray)).size + (rdOf ByteArray.empty y112 t115).size ≤ 9223372036854775807) = true := decide_eq_true c36
               try have c36b2 : (9223372036854775807 < (((⟨#[47, 37, 54, 51, 63, 38]⟩ : ByteArray) ++ (rdOf ByteArray.empty y112 t116)) ++ (⟨#[38, 38]⟩ : ByteArray)).size + (rdOf ByteArray.empty y112 t115).size) = False := eq_false (Nat.not_lt.2 c36)
               try have c36n3 := by have z_ := c36b2; simp only [ByteArray.size_append', ByteArray.size_mk', List.size_toArray, List.length_cons, List.length_nil, Nat.zero_add, Nat.reduceAdd] at z_; exact z_
               obtain ⟨⟨t123, t124⟩, A370, H⟩ := Option.bind_eq_some_iff.mp H
               try dsimp only at H
               have A37 := Aside0.mk A370
               clear A370
               by_cases c38 : t120 = true
               ·
                subst c38
                rw [if_pos rfl] at H
                by_cases c39 : t124 = true
                ·
                 subst c39
                 rw [if_pos rfl] at H
                 by_cases c40 : t119.toList = t123.toList
                 ·
                  rw [if_pos c40] at H
                  have c40b0 : (t119.toList == t123.toList) = true := beq_iff_eq.mpr c40
                  have c40b1 : (t119.toList != t123.toList) = false := bne_eq_false_iff_eq.mpr c40
                  clear c40
                  by_cases c41 : t107 = true
                  ·
                   subst c41
                   have H1 : (some true) = some r := by rw [if_pos rfl] at H; exact H
                   clear H
                   have H := H1
                   clear H1
                   obtain rfl := Option.some.inj H
                   try go_wp2_with (first | ((with_reducible refine gate_dst (N := 61) rfl ?_); refine Kd.R_lit Kd.string _ 9 ?hg (N := 61) ?hd (xs := ([(⟨#[120, 61, 49]⟩ : ByteArray), (⟨#[121]⟩ : ByteArray), (⟨#[107, 61, 118]⟩ : ByteArray), (⟨#[120, 61, 50]⟩ : ByteArray)] : List ByteArray)) (inner := [.string (⟨#[120, 61, 49]⟩ : ByteArray), .string (⟨#[121]⟩ : ByteArray), .string (⟨#[107, 61, 118]⟩ : ByteArray), .string (⟨#[120, 61, 50]⟩ : ByteArray)]) (ok := fun _ => True) (okp := fun _ => True) ?hr ?hp (fun _ hk => hk) trivial (Below.refl _ _) (Nat.le_refl _) (by simp) ?_; (case hd => rfl); (case hg => rfl); (case hr => first | (go_simp; done) | (go_simp; rfl)); (case hp => exact (Reps.one (show Kd.M Kd.string _ _ _ (⟨#[120, 61, 49]⟩ : ByteArray) [.string (⟨#[120, 61, 49]⟩ : ByteArray)] from rfl) (Reps.one (show Kd.M Kd.string _ _ _ (⟨#[121]⟩ : ByteArray) [.string (⟨#[121]⟩ : ByteArray)] from rfl) (Reps.one (show Kd.M Kd.string _ _ _ (⟨#[107, 61, 118]⟩ : ByteArray) [.string (⟨#[107, 61, 118]⟩ : ByteArray)] from rfl) (Reps.one (show Kd.M Kd.string _ _ _ (⟨#[120, 61, 50]⟩ : ByteArray) [.string (⟨#[120, 61, 50]⟩ : ByteArray)] from rfl) (Reps.none _ _)))))); intro v113 w42 ho43 hb hg_ hnew_; clear hg_ hnew_; (first | rw [← Ny112.out] at ho43 | (simp only [Int.reduceToNat] at ho43; rw [← Ny112.out] at ho43)); have HO114 := Aside0.mk (Kd.R_lower ho43 (below_size bh)); replace HB := Aside0.mk (below_step bh hb); clear hb ho43) | ((with_reducible refine gate_callee (f := 12) rfl ?_); refine goesL_ (some 63) rfl rfl Tryz.func12 (by kernel_rfl) rfl #[.slice A0 l0.length c0, .int .i64 1, .int .i64 4] rfl mc ?_; (with_reducible refine (laws_pick.calls kj8 _ _ l0 1 4 t115 _ ?side1 ?side2 A24.out).mono ?_); (case side1 => repeat (first | exact (Kd.C_below HR0.out HB.out) | (with_reducible refine Kd.C_alloc ?_ _) | (with_reducible refine Kd.C_drewN ?_ _) | (with_reducible refine Kd.C_drew ?_))); (case side2 => exact HC0.out); rintro e w' ⟨rfl, ⟨nd, rfl⟩⟩; refine ⟨_, rfl, ?_⟩) | ((with_reducible refine gate_callee (f := 12) rfl ?_); refine goesL_ (some 65) rfl rfl Tryz.func12 (by kernel_rfl) rfl #[.slice A0 l0.length c0, .int .i64 2, .int .i64 4] rfl mc ?_; (with_reducible refine (laws_pick.calls kj8 _ _ l0 2 4 t116 _ ?side1 ?side2 A25.out).mono ?_); (case side1 => repeat (first | exact (Kd.C_below HR0.out bh) | (with_reducible refine Kd.C_alloc ?_ _) | (with_reducible refine Kd.C_drewN ?_ _) | (with_reducible refine Kd.C_drew ?_))); (case side2 => exact HC0.out); rintro e w' ⟨rfl, ⟨nd, rfl⟩⟩; refine ⟨_, rfl, ?_⟩))
                   (try (rw [drewN_self w42]; generalize hq_ : World.drewN w42 _ = w42; have n0_ : Aside0 (Kd.R Kd.string 9 w42 w.heap.size (fun _ => True) v113 y112) := ⟨by rw [← hq_]; exact (by (with_reducible repeat (first | apply Kd.R_alloc | apply Kd.R_drewN | apply Kd.R_drew)); exact HO114.out)⟩; have n1_ : Aside0 (Below w.heap.size w w42) := ⟨by rw [← hq_]; exact bh⟩; clear HO114 HB hq_; have HO114 := n0_; have HB := n1_; clear n0_ n1_))
                   replace HO114 := Aside0.mk (Kd.R_drew HO114.out)
                   replace HB := Aside0.mk (below_drew1 HB.out)
                   obtain ⟨Ao45, co45, eo45⟩ := Kd.R_slice HO114.out
                   (first | subst eo45 | (injection eo45 with f1_ f2_ f3_; have f4_ := f1_.symm; have f5_ := f3_.symm; clear f1_ f2_ f3_; subst f4_; subst f5_))
                   have p117 : 0 ≤ (t115 : Int) := of_decide_eq_true (by first | (with_reducible assumption) | assumption)
                   have q117 : t115 < (y112.length : Int) := of_decide_eq_true (by first | (with_reducible assumption) | assumption)
                   obtain ⟨ad117, e117, hx117_0⟩ := Kd.at_string (Kd.R_reads' HO114.out).2.2 t115 p117 q117
                   cases e117
                   replace p117 := eq_true p117
                   replace q117 := eq_true q117
                   have p118 : 0 ≤ (t116 : Int) := of_decide_eq_true (by first | (with_reducible assumption) | assumption)
                   have q118 : t116 < (y112.length : Int) := of_decide_eq_true (by first | (with_reducible assumption) | assumption)
                   obtain ⟨ad118, e118, hx118_0⟩ := Kd.at_string (Kd.R_reads' HO114.out).2.2 t116 p118 q118
                   obtain rfl : ad117 = ad118 := (by injection e118)
                   replace p118 := eq_true p118
                   replace q118 := eq_true q118
                   refine start_ (n := 17) (S := fun w' => w'.cell? (ad117.add (t115).toNat) = some (.string (rdOf ByteArray.empty y112 t115)) ∧ w'.cell? (ad117.add (t116).toNat) = some (.string (rdOf ByteArray.empty y112 t116))) (ds := []) laws_FnKeys.d0 (by kernel_rfl) rfl rfl ⟨hx117_0, hx118_0⟩ (fun hHeld => ?_); refine with_tabW laws_FnKeys.tab13 laws_FnKeys.bits13 (fun HT_ HW_ => ?_)
                   generalize w42.drew = w44 at HO114 HB hx117_0 hx118_0 hHeld ⊢
                   refine pu 0 67 laws_FnKeys.d1 HT_ ?_
                   refine pu 1 68 laws_FnKeys.d2 HT_ ?_
                   refine pu 2 69 laws_FnKeys.d3 HT_ ?_
                   refine pu 6 73 laws_FnKeys.d4 HT_ ?_
                   refine pu 7 74 laws_FnKeys.d5 HT_ ?_
                   refine pu 8 75 laws_FnKeys.d6 HT_ ?_
                   refine tk 3 70 laws_FnKeys.d7 HT_ HW_ hHeld ?_
                   refine pu 4 71 laws_FnKeys.d8 HT_ ?_
                   refine pu 5 72 laws_FnKeys.d9 HT_ ?_
                   refine tk 9 76 laws_FnKeys.d10 HT_ HW_ hHeld ?_
                   refine pu 10 77 laws_FnKeys.d11 HT_ ?_
                   refine onx 11 78 laws_FnKeys.d12 HT_ (fun K hK => ?_)
                   refine gs Tryz.func6 #[.string (⟨#[72, 46, 97]⟩ : ByteArray), .string ((((⟨#[47, 98, 47, 46, 46, 47, 99, 63]⟩ : ByteArray) ++ (rdOf ByteArray.empty y112 t115)) ++ (⟨#[38]⟩ : ByteArray)) ++ (rdOf ByteArray.empty y112 t116))] ?_
                   with_reducible refine (impl_Key.calls kj8 (⟨#[72, 46, 97]⟩ : ByteArray) ((((⟨#[47, 98, 47, 46, 46, 47, 99, 63]⟩ : ByteArray) ++ (rdOf ByteArray.empty y112 t115)) ++ (⟨#[38]⟩ : ByteArray)) ++ (rdOf ByteArray.empty y112 t116)) t119 true _ ?side1 A33.out).mono ?_
                   (case side1 => exact XW.to (XW.stays hX bh) (by decide))
                   rintro e w46 ⟨rfl, hb⟩
                   have HS0_ := (hb.cell (World.block_lt_of_cell? _ _ (hHeld.1))).trans (hHeld.1)
                   have HS1_ := (hb.cell (World.block_lt_of_cell? _ _ (hHeld.2))).trans (hHeld.2)
                   refine ⟨_, rfl, ?_⟩
                   replace HO114 := Aside0.mk (Kd.R_below (by (with_reducible repeat (first | apply Kd.R_alloc | apply Kd.R_drewN | apply Kd.R_drew)); exact HO114.out) hb)
                   replace HB := Aside0.mk (below_step bh hb)
                   (try clear hb)
                   (try clear hb2)
                   (try clear hk)
                   (try clear hi)
                   refine hK.out _ _ ⟨HS0_, HS1_⟩ (fun hHeld => ?_)
                   clear hK K
                   refine nm 78 ?_
                   refine pu 12 66 laws_FnKeys.d13 HT_ ?_
                   refine pu 13 79 laws_FnKeys.d14 HT_ ?_
                   refine pu 14 80 laws_FnKeys.d15 HT_ ?_
                   refine pu 15 14 laws_FnKeys.d16 HT_ ?_
                   refine pu 16 15 laws_FnKeys.d17 HT_ ?_
                   refine dn HT_ ?_
                   try go_wp2
                   replace HO114 := Aside0.mk (Kd.R_drew HO114.out)
                   replace HB := Aside0.mk (below_drew1 HB.out)
                   have p121 : 0 ≤ (t116 : Int) := of_decide_eq_true (by first | (with_reducible assumption) | assumption)
                   have q121 : t116 < (y112.length : Int) := of_decide_eq_true (by first | (with_reducible assumption) | assumption)
                   obtain ⟨ad121, e121, hx121_0⟩ := Kd.at_string (Kd.R_reads' HO114.out).2.2 t116 p121 q121
                   obtain rfl : ad117 = ad121 := (by injection e121)
                   replace p121 := eq_true p121
                   replace q121 := eq_true q121
                   have p122 : 0 ≤ (t115 : Int) := of_decide_eq_true (by first | (with_reducible assumption) | assumption)
                   have q122 : t115 < (y112.length : Int) := of_decide_eq_true (by first | (with_reducible assumption) | assumption)
                   obtain ⟨ad122, e122, hx122_0⟩ := Kd.at_string (Kd.R_reads' HO114.out).2.2 t115 p122 q122
                   obtain rfl : ad117 = ad122 := (by injection e122)
                   replace p122 := eq_true p122
                   replace q122 := eq_true q122
                   refine start_ (n := 17) (S := fun w' => w'.cell? (ad117.add (t116).toNat) = some (.string (rdOf ByteArray.empty y112 t116)) ∧ w'.cell? (ad117.add (t115).toNat) = some (.string (rdOf ByteArray.empty y112 t115))) (ds := []) laws_FnKeys.d0 (by kernel_rfl) rfl rfl ⟨hx121_0, hx122_0⟩ (fun hHeld => ?_); refine with_tabW laws_FnKeys.tab14 laws_FnKeys.bits14 (fun HT_ HW_ => ?_)
                   generalize w46.drew = w47 at HO114 HB hx121_0 hx122_0 hHeld ⊢
                   refine pu 0 82 laws_FnKeys.d1 HT_ ?_
                   refine pu 1 83 laws_FnKeys.d2 HT_ ?_
                   refine pu 2 84 laws_FnKeys.d3 HT_ ?_
                   refine pu 6 88 laws_FnKeys.d4 HT_ ?_
                   refine pu 7 89 laws_FnKeys.d5 HT_ ?_
                   refine pu 8 90 laws_FnKeys.d6 HT_ ?_
                   refine tk 3 85 laws_FnKeys.d7 HT_ HW_ hHeld ?_
                   refine pu 4 86 laws_FnKeys.d8 HT_ ?_
                   refine pu 5 87 laws_FnKeys.d9 HT_ ?_
                   refine tk 9 91 laws_FnKeys.d10 HT_ HW_ hHeld ?_
                   refine pu 10 92 laws_FnKeys.d11 HT_ ?_
                   refine onx 11 93 laws_FnKeys.d12 HT_ (fun K hK => ?_)
                   refine gs Tryz.func6 #[.string (⟨#[104, 46, 65]⟩ : ByteArray), .string ((((⟨#[47, 37, 54, 51, 63, 38]⟩ : ByteArray) ++ (rdOf ByteArray.empty y112 t116)) ++ (⟨#[38, 38]⟩ : ByteArray)) ++ (rdOf ByteArray.empty y112 t115))] ?_
                   with_reducible refine (impl_Key.calls kj8 (⟨#[104, 46, 65]⟩ : ByteArray) ((((⟨#[47, 37, 54, 51, 63, 38]⟩ : ByteArray) ++ (rdOf ByteArray.empty y112 t116)) ++ (⟨#[38, 38]⟩ : ByteArray)) ++ (rdOf ByteArray.empty y112 t115)) t123 true _ ?side1 A37.out).mono ?_
                   (case side1 => exact XW.to (XW.stays hX bh) (by decide))
                   rintro e w48 ⟨rfl, hb⟩
                   have HS0_ := (hb.cell (World.block_lt_of_cell? _ _ (hHeld.1))).trans (hHeld.1)
                   have HS1_ := (hb.cell (World.block_lt_of_cell? _ _ (hHeld.2))).trans (hHeld.2)
                   refine ⟨_, rfl, ?_⟩
                   replace HO114 := Aside0.mk (Kd.R_below (by (with_reducible repeat (first | apply Kd.R_alloc | apply Kd.R_drewN | apply Kd.R_drew)); exact HO114.out) hb)
                   replace HB := Aside0.mk (below_step bh hb)
                   (try clear hb)
                   (try clear hb2)
                   (try clear hk)
                   (try clear hi)
                   refine hK.out _ _ ⟨HS0_, HS1_⟩ (fun hHeld => ?_)
                   clear hK K
                   refine nm 93 ?_
                   refine pu 12 81 laws_FnKeys.d13 HT_ ?_
                   refine pu 13 94 laws_FnKeys.d14 HT_ ?_
                   refine pu 14 95 laws_FnKeys.d15 HT_ ?_
                   refine pu 15 16 laws_FnKeys.d16 HT_ ?_
                   refine pu 16 17 laws_FnKeys.d17 HT_ ?_
                   refine dn HT_ ?_
                   try go_wp2
                   go_ret
                   exact ⟨er, bh⟩
                  ·
                   replace c41 := Bool.eq_false_iff.mpr c41
                   subst c41
                   have H1 : (some (t106.toList == ([] : List UInt8))) = some r := by rw [if_neg (show ¬ (false = true) by decide)] at H; exact H
                   clear H
                   have H := H1
                   clear H1
                   obtain rfl := Option.some.inj H
                   try go_wp2_with (first | ((with_reducible refine gate_dst (N := 61) rfl ?_); refine Kd.R_lit Kd.string _ 9 ?hg (N := 61) ?hd (xs := ([(⟨#[120, 61, 49]⟩ : ByteArray), (⟨#[121]⟩ : ByteArray), (⟨#[107, 61, 118]⟩ : ByteArray), (⟨#[120, 61, 50]⟩ : ByteArray)] : List ByteArray)) (inner := [.string (⟨#[120, 61, 49]⟩ : ByteArray), .string (⟨#[121]⟩ : ByteArray), .string (⟨#[107, 61, 118]⟩ : ByteArray), .string (⟨#[120, 61, 50]⟩ : ByteArray)]) (ok := fun _ => True) (okp := fun _ => True) ?hr ?hp (fun _ hk => hk) trivial (Below.refl _ _) (Nat.le_refl _) (by simp) ?_; (case hd => rfl); (case hg => rfl); (case hr => first | (go_simp; done) | (go_simp; rfl)); (case hp => exact (Reps.one (show Kd.M Kd.string _ _ _ (⟨#[120, 61, 49]⟩ : ByteArray) [.string (⟨#[120, 61, 49]⟩ : ByteArray)] from rfl) (Reps.one (show Kd.M Kd.string _ _ _ (⟨#[121]⟩ : ByteArray) [.string (⟨#[121]⟩ : ByteArray)] from rfl) (Reps.one (show Kd.M Kd.string _ _ _ (⟨#[107, 61, 118]⟩ : ByteArray) [.string (⟨#[107, 61, 118]⟩ : ByteArray)] from rfl) (Reps.one (show Kd.M Kd.string _ _ _ (⟨#[120, 61, 50]⟩ : ByteArray) [.string (⟨#[120, 61, 50]⟩ : ByteArray)] from rfl) (Reps.none _ _)))))); intro v113 w49 ho50 hb hg_ hnew_; clear hg_ hnew_; (first | rw [← Ny112.out] at ho50 | (simp only [Int.reduceToNat] at ho50; rw [← Ny112.out] at ho50)); have HO114 := Aside0.mk (Kd.R_lower ho50 (below_size bh)); replace HB := Aside0.mk (below_step bh hb); clear hb ho50) | ((with_reducible refine gate_callee (f := 12) rfl ?_); refine goesL_ (some 63) rfl rfl Tryz.func12 (by kernel_rfl) rfl #[.slice A0 l0.length c0, .int .i64 1, .int .i64 4] rfl mc ?_; (with_reducible refine (laws_pick.calls kj8 _ _ l0 1 4 t115 _ ?side1 ?side2 A24.out).mono ?_); (case side1 => repeat (first | exact (Kd.C_below HR0.out HB.out) | (with_reducible refine Kd.C_alloc ?_ _) | (with_reducible refine Kd.C_drewN ?_ _) | (with_reducible refine Kd.C_drew ?_))); (case side2 => exact HC0.out); rintro e w' ⟨rfl, ⟨nd, rfl⟩⟩; refine ⟨_, rfl, ?_⟩) | ((with_reducible refine gate_callee (f := 12) rfl ?_); refine goesL_ (some 65) rfl rfl Tryz.func12 (by kernel_rfl) rfl #[.slice A0 l0.length c0, .int .i64 2, .int .i64 4] rfl mc ?_; (with_reducible refine (laws_pick.calls kj8 _ _ l0 2 4 t116 _ ?side1 ?side2 A25.out).mono ?_); (case side1 => repeat (first | exact (Kd.C_below HR0.out bh) | (with_reducible refine Kd.C_alloc ?_ _) | (with_reducible refine Kd.C_drewN ?_ _) | (with_reducible refine Kd.C_drew ?_))); (case side2 => exact HC0.out); rintro e w' ⟨rfl, ⟨nd, rfl⟩⟩; refine ⟨_, rfl, ?_⟩))
                   (try (rw [drewN_self w49]; generalize hq_ : World.drewN w49 _ = w49; have n0_ : Aside0 (Kd.R Kd.string 9 w49 w.heap.size (fun _ => True) v113 y112) := ⟨by rw [← hq_]; exact (by (with_reducible repeat (first | apply Kd.R_alloc | apply Kd.R_drewN | apply Kd.R_drew)); exact HO114.out)⟩; have n1_ : Aside0 (Below w.heap.size w w49) := ⟨by rw [← hq_]; exact bh⟩; clear HO114 HB hq_; have HO114 := n0_; have HB := n1_; clear n0_ n1_))
                   replace HO114 := Aside0.mk (Kd.R_drew HO114.out)
                   replace HB := Aside0.mk (below_drew1 HB.out)
                   obtain ⟨Ao52, co52, eo52⟩ := Kd.R_slice HO114.out
                   (first | subst eo52 | (injection eo52 with f1_ f2_ f3_; have f4_ := f1_.symm; have f5_ := f3_.symm; clear f1_ f2_ f3_; subst f4_; subst f5_))
                   have p117 : 0 ≤ (t115 : Int) := of_decide_eq_true (by first | (with_reducible assumption) | assumption)
                   have q117 : t115 < (y112.length : Int) := of_decide_eq_true (by first | (with_reducible assumption) | assumption)
                   obtain ⟨ad117, e117, hx117_0⟩ := Kd.at_string (Kd.R_reads' HO114.out).2.2 t115 p117 q117
                   cases e117
                   replace p117 := eq_true p117
                   replace q117 := eq_true q117
                   have p118 : 0 ≤ (t116 : Int) := of_decide_eq_true (by first | (with_reducible assumption) | assumption)
                   have q118 : t116 < (y112.length : Int) := of_decide_eq_true (by first | (with_reducible assumption) | assumption)
                   obtain ⟨ad118, e118, hx118_0⟩ := Kd.at_string (Kd.R_reads' HO114.out).2.2 t116 p118 q118
                   obtain rfl : ad117 = ad118 := (by injection e118)
                   replace p118 := eq_true p118
                   replace q118 := eq_true q118
                   refine start_ (n := 17) (S := fun w' => w'.cell? (ad117.add (t115).toNat) = some (.string (rdOf ByteArray.empty y112 t115)) ∧ w'.cell? (ad117.add (t116).toNat) = some (.string (rdOf ByteArray.empty y112 t116))) (ds := []) laws_FnKeys.d0 (by kernel_rfl) rfl rfl ⟨hx117_0, hx118_0⟩ (fun hHeld => ?_); refine with_tabW laws_FnKeys.tab13 laws_FnKeys.bits13 (fun HT_ HW_ => ?_)
                   generalize w49.drew = w51 at HO114 HB hx117_0 hx118_0 hHeld ⊢
                   refine pu 0 67 laws_FnKeys.d1 HT_ ?_
                   refine pu 1 68 laws_FnKeys.d2 HT_ ?_
                   refine pu 2 69 laws_FnKeys.d3 HT_ ?_
                   refine pu 6 73 laws_FnKeys.d4 HT_ ?_
                   refine pu 7 74 laws_FnKeys.d5 HT_ ?_
                   refine pu 8 75 laws_FnKeys.d6 HT_ ?_
                   refine tk 3 70 laws_FnKeys.d7 HT_ HW_ hHeld ?_
                   refine pu 4 71 laws_FnKeys.d8 HT_ ?_
                   refine pu 5 72 laws_FnKeys.d9 HT_ ?_
                   refine tk 9 76 laws_FnKeys.d10 HT_ HW_ hHeld ?_
                   refine pu 10 77 laws_FnKeys.d11 HT_ ?_
                   refine onx 11 78 laws_FnKeys.d12 HT_ (fun K hK => ?_)
                   refine gs Tryz.func6 #[.string (⟨#[72, 46, 97]⟩ : ByteArray), .string ((((⟨#[47, 98, 47, 46, 46, 47, 99, 63]⟩ : ByteArray) ++ (rdOf ByteArray.empty y112 t115)) ++ (⟨#[38]⟩ : ByteArray)) ++ (rdOf ByteArray.empty y112 t116))] ?_
                   with_reducible refine (impl_Key.calls kj8 (⟨#[72, 46, 97]⟩ : ByteArray) ((((⟨#[47, 98, 47, 46, 46, 47, 99, 63]⟩ : ByteArray) ++ (rdOf ByteArray.empty y112 t115)) ++ (⟨#[38]⟩ : ByteArray)) ++ (rdOf ByteArray.empty y112 t116)) t119 true _ ?side1 A33.out).mono ?_
                   (case side1 => exact XW.to (XW.stays hX bh) (by decide))
                   rintro e w53 ⟨rfl, hb⟩
                   have HS0_ := (hb.cell (World.block_lt_of_cell? _ _ (hHeld.1))).trans (hHeld.1)
                   have HS1_ := (hb.cell (World.block_lt_of_cell? _ _ (hHeld.2))).trans (hHeld.2)
                   refine ⟨_, rfl, ?_⟩
                   replace HO114 := Aside0.mk (Kd.R_below (by (with_reducible repeat (first | apply Kd.R_alloc | apply Kd.R_drewN | apply Kd.R_drew)); exact HO114.out) hb)
                   replace HB := Aside0.mk (below_step bh hb)
                   (try clear hb)
                   (try clear hb2)
                   (try clear hk)
                   (try clear hi)
                   refine hK.out _ _ ⟨HS0_, HS1_⟩ (fun hHeld => ?_)
                   clear hK K
                   refine nm 78 ?_
                   refine pu 12 66 laws_FnKeys.d13 HT_ ?_
                   refine pu 13 79 laws_FnKeys.d14 HT_ ?_
                   refine pu 14 80 laws_FnKeys.d15 HT_ ?_
                   refine pu 15 14 laws_FnKeys.d16 HT_ ?_
                   refine pu 16 15 laws_FnKeys.d17 HT_ ?_
                   refine dn HT_ ?_
                   try go_wp2
                   replace HO114 := Aside0.mk (Kd.R_drew HO114.out)
                   replace HB := Aside0.mk (below_drew1 HB.out)
                   have p121 : 0 ≤ (t116 : Int) := of_decide_eq_true (by first | (with_reducible assumption) | assumption)
                   have q121 : t116 < (y112.length : Int) := of_decide_eq_true (by first | (with_reducible assumption) | assumption)
                   obtain ⟨ad121, e121, hx121_0⟩ := Kd.at_string (Kd.R_reads' HO114.out).2.2 t116 p121 q121
                   obtain rfl : ad117 = ad121 := (by injection e121)
                   replace p121 := eq_true p121
                   replace q121 := eq_true q121
                   have p122 : 0 ≤ (t115 : Int) := of_decide_eq_true (by first | (with_reducible assumption) | assumption)
                   have q122 : t115 < (y112.length : Int) := of_decide_eq_true (by first | (with_reducible assumption) | assumption)
                   obtain ⟨ad122, e122, hx122_0⟩ := Kd.at_string (Kd.R_reads' HO114.out).2.2 t115 p122 q122
                   obtain rfl : ad117 = ad122 := (by injection e122)
                   replace p122 := eq_true p122
                   replace q122 := eq_true q122
                   refine start_ (n := 17) (S := fun w' => w'.cell? (ad117.add (t116).toNat) = some (.string (rdOf ByteArray.empty y112 t116)) ∧ w'.cell? (ad117.add (t115).toNat) = some (.string (rdOf ByteArray.empty y112 t115))) (ds := []) laws_FnKeys.d0 (by kernel_rfl) rfl rfl ⟨hx121_0, hx122_0⟩ (fun hHeld => ?_); refine with_tabW laws_FnKeys.tab14 laws_FnKeys.bits14 (fun HT_ HW_ => ?_)
                   generalize w53.drew = w54 at HO114 HB hx121_0 hx122_0 hHeld ⊢
                   refine pu 0 82 laws_FnKeys.d1 HT_ ?_
                   refine pu 1 83 laws_FnKeys.d2 HT_ ?_
                   refine pu 2 84 laws_FnKeys.d3 HT_ ?_
                   refine pu 6 88 laws_FnKeys.d4 HT_ ?_
                   refine pu 7 89 laws_FnKeys.d5 HT_ ?_
                   refine pu 8 90 laws_FnKeys.d6 HT_ ?_
                   refine tk 3 85 laws_FnKeys.d7 HT_ HW_ hHeld ?_
                   refine pu 4 86 laws_FnKeys.d8 HT_ ?_
                   refine pu 5 87 laws_FnKeys.d9 HT_ ?_
                   refine tk 9 91 laws_FnKeys.d10 HT_ HW_ hHeld ?_
                   refine pu 10 92 laws_FnKeys.d11 HT_ ?_
                   refine onx 11 93 laws_FnKeys.d12 HT_ (fun K hK => ?_)
                   refine gs Tryz.func6 #[.string (⟨#[104, 46, 65]⟩ : ByteArray), .string ((((⟨#[47, 37, 54, 51, 63, 38]⟩ : ByteArray) ++ (rdOf ByteArray.empty y112 t116)) ++ (⟨#[38, 38]⟩ : ByteArray)) ++ (rdOf ByteArray.empty y112 t115))] ?_
                   with_reducible refine (impl_Key.calls kj8 (⟨#[104, 46, 65]⟩ : ByteArray) ((((⟨#[47, 37, 54, 51, 63, 38]⟩ : ByteArray) ++ (rdOf ByteArray.empty y112 t116)) ++ (⟨#[38, 38]⟩ : ByteArray)) ++ (rdOf ByteArray.empty y112 t115)) t123 true _ ?side1 A37.out).mono ?_
                   (case side1 => exact XW.to (XW.stays hX bh) (by decide))
                   rintro e w55 ⟨rfl, hb⟩
                   have HS0_ := (hb.cell (World.block_lt_of_cell? _ _ (hHeld.1))).trans (hHeld.1)
                   have HS1_ := (hb.cell (World.block_lt_of_cell? _ _ (hHeld.2))).trans (hHeld.2)
                   refine ⟨_, rfl, ?_⟩
                   replace HO114 := Aside0.mk (Kd.R_below (by (with_reducible repeat (first | apply Kd.R_alloc | apply Kd.R_drewN | apply Kd.R_drew)); exact HO114.out) hb)
                   replace HB := Aside0.mk (below_step bh hb)
                   (try clear hb)
                   (try clear hb2)
                   (try clear hk)
                   (try clear hi)
                   refine hK.out _ _ ⟨HS0_, HS1_⟩ (fun hHeld => ?_)
                   clear hK K
                   refine nm 93 ?_
                   refine pu 12 81 laws_FnKeys.d13 HT_ ?_
                   refine pu 13 94 laws_FnKeys.d14 HT_ ?_
                   refine pu 14 95 laws_FnKeys.d15 HT_ ?_
                   refine pu 15 16 laws_FnKeys.d16 HT_ ?_
                   refine pu 16 17 laws_FnKeys.d17 HT_ ?_
                   refine dn HT_ ?_
                   try go_wp2
                   go_ret
                   exact ⟨er, bh⟩
                 ·
                  rw [if_neg c40] at H
                  have c40b0 : (t119.toList == t123.toList) = false := beq_eq_false_iff_ne.mpr c40
                  have c40b1 : (t119.toList != t123.toList) = true := bne_iff_ne.mpr c40
                  obtain rfl := Option.some.inj H
                  try go_wp2_with (first | ((with_reducible refine gate_dst (N := 61) rfl ?_); refine Kd.R_lit Kd.string _ 9 ?hg (N := 61) ?hd (xs := ([(⟨#[120, 61, 49]⟩ : ByteArray), (⟨#[121]⟩ : ByteArray), (⟨#[107, 61, 118]⟩ : ByteArray), (⟨#[120, 61, 50]⟩ : ByteArray)] : List ByteArray)) (inner := [.string (⟨#[120, 61, 49]⟩ : ByteArray), .string (⟨#[121]⟩ : ByteArray), .string (⟨#[107, 61, 118]⟩ : ByteArray), .string (⟨#[120, 61, 50]⟩ : ByteArray)]) (ok := fun _ => True) (okp := fun _ => True) ?hr ?hp (fun _ hk => hk) trivial (Below.refl _ _) (Nat.le_refl _) (by simp) ?_; (case hd => rfl); (case hg => rfl); (case hr => first | (go_simp; done) | (go_simp; rfl)); (case hp => exact (Reps.one (show Kd.M Kd.string _ _ _ (⟨#[120, 61, 49]⟩ : ByteArray) [.string (⟨#[120, 61, 49]⟩ : ByteArray)] from rfl) (Reps.one (show Kd.M Kd.string _ _ _ (⟨#[121]⟩ : ByteArray) [.string (⟨#[121]⟩ : ByteArray)] from rfl) (Reps.one (show Kd.M Kd.string _ _ _ (⟨#[107, 61, 118]⟩ : ByteArray) [.string (⟨#[107, 61, 118]⟩ : ByteArray)] from rfl) (Reps.one (show Kd.M Kd.string _ _ _ (⟨#[120, 61, 50]⟩ : ByteArray) [.string (⟨#[120, 61, 50]⟩ : ByteArray)] from rfl) (Reps.none _ _)))))); intro v113 w56 ho57 hb hg_ hnew_; clear hg_ hnew_; (first | rw [← Ny112.out] at ho57 | (simp only [Int.reduceToNat] at ho57; rw [← Ny112.out] at ho57)); have HO114 := Aside0.mk (Kd.R_lower ho57 (below_size bh)); replace HB := Aside0.mk (below_step bh hb); clear hb ho57) | ((with_reducible refine gate_callee (f := 12) rfl ?_); refine goesL_ (some 63) rfl rfl Tryz.func12 (by kernel_rfl) rfl #[.slice A0 l0.length c0, .int .i64 1, .int .i64 4] rfl mc ?_; (with_reducible refine (laws_pick.calls kj8 _ _ l0 1 4 t115 _ ?side1 ?side2 A24.out).mono ?_); (case side1 => repeat (first | exact (Kd.C_below HR0.out HB.out) | (with_reducible refine Kd.C_alloc ?_ _) | (with_reducible refine Kd.C_drewN ?_ _) | (with_reducible refine Kd.C_drew ?_))); (case side2 => exact HC0.out); rintro e w' ⟨rfl, ⟨nd, rfl⟩⟩; refine ⟨_, rfl, ?_⟩) | ((with_reducible refine gate_callee (f := 12) rfl ?_); refine goesL_ (some 65) rfl rfl Tryz.func12 (by kernel_rfl) rfl #[.slice A0 l0.length c0, .int .i64 2, .int .i64 4] rfl mc ?_; (with_reducible refine (laws_pick.calls kj8 _ _ l0 2 4 t116 _ ?side1 ?side2 A25.out).mono ?_); (case side1 => repeat (first | exact (Kd.C_below HR0.out bh) | (with_reducible refine Kd.C_alloc ?_ _) | (with_reducible refine Kd.C_drewN ?_ _) | (with_reducible refine Kd.C_drew ?_))); (case side2 => exact HC0.out); rintro e w' ⟨rfl, ⟨nd, rfl⟩⟩; refine ⟨_, rfl, ?_⟩))
                  (try (rw [drewN_self w56]; generalize hq_ : World.drewN w56 _ = w56; have n0_ : Aside0 (Kd.R Kd.string 9 w56 w.heap.size (fun _ => True) v113 y112) := ⟨by rw [← hq_]; exact (by (with_reducible repeat (first | apply Kd.R_alloc | apply Kd.R_drewN | apply Kd.R_drew)); exact HO114.out)⟩; have n1_ : Aside0 (Below w.heap.size w w56) := ⟨by rw [← hq_]; exact bh⟩; clear HO114 HB hq_; have HO114 := n0_; have HB := n1_; clear n0_ n1_))
                  replace HO114 := Aside0.mk (Kd.R_drew HO114.out)
                  replace HB := Aside0.mk (below_drew1 HB.out)
                  obtain ⟨Ao59, co59, eo59⟩ := Kd.R_slice HO114.out
                  (first | subst eo59 | (injection eo59 with f1_ f2_ f3_; have f4_ := f1_.symm; have f5_ := f3_.symm; clear f1_ f2_ f3_; subst f4_; subst f5_))
                  have p117 : 0 ≤ (t115 : Int) := of_decide_eq_true (by first | (with_reducible assumption) | assumption)
                  have q117 : t115 < (y112.length : Int) := of_decide_eq_true (by first | (with_reducible assumption) | assumption)
                  obtain ⟨ad117, e117, hx117_0⟩ := Kd.at_string (Kd.R_reads' HO114.out).2.2 t115 p117 q117
                  cases e117
                  replace p117 := eq_true p117
                  replace q117 := eq_true q117
                  have p118 : 0 ≤ (t116 : Int) := of_decide_eq_true (by first | (with_reducible assumption) | assumption)
                  have q118 : t116 < (y112.length : Int) := of_decide_eq_true (by first | (with_reducible assumption) | assumption)
                  obtain ⟨ad118, e118, hx118_0⟩ := Kd.at_string (Kd.R_reads' HO114.out).2.2 t116 p118 q118
                  obtain rfl : ad117 = ad118 := (by injection e118)
                  replace p118 := eq_true p118
                  replace q118 := eq_true q118
                  refine start_ (n := 17) (S := fun w' => w'.cell? (ad117.add (t115).toNat) = some (.string (rdOf ByteArray.empty y112 t115)) ∧ w'.cell? (ad117.add (t116).toNat) = some (.string (rdOf ByteArray.empty y112 t116))) (ds := []) laws_FnKeys.d0 (by kernel_rfl) rfl rfl ⟨hx117_0, hx118_0⟩ (fun hHeld => ?_); refine with_tabW laws_FnKeys.tab13 laws_FnKeys.bits13 (fun HT_ HW_ => ?_)
                  generalize w56.drew = w58 at HO114 HB hx117_0 hx118_0 hHeld ⊢
                  refine pu 0 67 laws_FnKeys.d1 HT_ ?_
                  refine pu 1 68 laws_FnKeys.d2 HT_ ?_
                  refine pu 2 69 laws_FnKeys.d3 HT_ ?_
                  refine pu 6 73 laws_FnKeys.d4 HT_ ?_
                  refine pu 7 74 laws_FnKeys.d5 HT_ ?_
                  refine pu 8 75 laws_FnKeys.d6 HT_ ?_
                  refine tk 3 70 laws_FnKeys.d7 HT_ HW_ hHeld ?_
                  refine pu 4 71 laws_FnKeys.d8 HT_ ?_
                  refine pu 5 72 laws_FnKeys.d9 HT_ ?_
                  refine tk 9 76 laws_FnKeys.d10 HT_ HW_ hHeld ?_
                  refine pu 10 77 laws_FnKeys.d11 HT_ ?_
                  refine onx 11 78 laws_FnKeys.d12 HT_ (fun K hK => ?_)
                  refine gs Tryz.func6 #[.string (⟨#[72, 46, 97]⟩ : ByteArray), .string ((((⟨#[47, 98, 47, 46, 46, 47, 99, 63]⟩ : ByteArray) ++ (rdOf ByteArray.empty y112 t115)) ++ (⟨#[38]⟩ : ByteArray)) ++ (rdOf ByteArray.empty y112 t116))] ?_
                  with_reducible refine (impl_Key.calls kj8 (⟨#[72, 46, 97]⟩ : ByteArray) ((((⟨#[47, 98, 47, 46, 46, 47, 99, 63]⟩ : ByteArray) ++ (rdOf ByteArray.empty y112 t115)) ++ (⟨#[38]⟩ : ByteArray)) ++ (rdOf ByteArray.empty y112 t116)) t119 true _ ?side1 A33.out).mono ?_
                  (case side1 => exact XW.to (XW.stays hX bh) (by decide))
                  rintro e w60 ⟨rfl, hb⟩
                  have HS0_ := (hb.cell (World.block_lt_of_cell? _ _ (hHeld.1))).trans (hHeld.1)
                  have HS1_ := (hb.cell (World.block_lt_of_cell? _ _ (hHeld.2))).trans (hHeld.2)
                  refine ⟨_, rfl, ?_⟩
                  replace HO114 := Aside0.mk (Kd.R_below (by (with_reducible repeat (first | apply Kd.R_alloc | apply Kd.R_drewN | apply Kd.R_drew)); exact HO114.out) hb)
                  replace HB := Aside0.mk (below_step bh hb)
                  (try clear hb)
                  (try clear hb2)
                  (try clear hk)
                  (try clear hi)
                  refine hK.out _ _ ⟨HS0_, HS1_⟩ (fun hHeld => ?_)
                  clear hK K
                  refine nm 78 ?_
                  refine pu 12 66 laws_FnKeys.d13 HT_ ?_
                  refine pu 13 79 laws_FnKeys.d14 HT_ ?_
                  refine pu 14 80 laws_FnKeys.d15 HT_ ?_
                  refine pu 15 14 laws_FnKeys.d16 HT_ ?_
                  refine pu 16 15 laws_FnKeys.d17 HT_ ?_
                  refine dn HT_ ?_
                  try go_wp2
                  replace HO114 := Aside0.mk (Kd.R_drew HO114.out)
                  replace HB := Aside0.mk (below_drew1 HB.out)
                  have p121 : 0 ≤ (t116 : Int) := of_decide_eq_true (by first | (with_reducible assumption) | assumption)
                  have q121 : t116 < (y112.length : Int) := of_decide_eq_true (by first | (with_reducible assumption) | assumption)
                  obtain ⟨ad121, e121, hx121_0⟩ := Kd.at_string (Kd.R_reads' HO114.out).2.2 t116 p121 q121
                  obtain rfl : ad117 = ad121 := (by injection e121)
                  replace p121 := eq_true p121
                  replace q121 := eq_true q121
                  have p122 : 0 ≤ (t115 : Int) := of_decide_eq_true (by first | (with_reducible assumption) | assumption)
                  have q122 : t115 < (y112.length : Int) := of_decide_eq_true (by first | (with_reducible assumption) | assumption)
                  obtain ⟨ad122, e122, hx122_0⟩ := Kd.at_string (Kd.R_reads' HO114.out).2.2 t115 p122 q122
                  obtain rfl : ad117 = ad122 := (by injection e122)
                  replace p122 := eq_true p122
                  replace q122 := eq_true q122
                  refine start_ (n := 17) (S := fun w' => w'.cell? (ad117.add (t116).toNat) = some (.string (rdOf ByteArray.empty y112 t116)) ∧ w'.cell? (ad117.add (t115).toNat) = some (.string (rdOf ByteArray.empty y112 t115))) (ds := []) laws_FnKeys.d0 (by kernel_rfl) rfl rfl ⟨hx121_0, hx122_0⟩ (fun hHeld => ?_); refine with_tabW laws_FnKeys.tab14 laws_FnKeys.bits14 (fun HT_ HW_ => ?_)
                  generalize w60.drew = w61 at HO114 HB hx121_0 hx122_0 hHeld ⊢
                  refine pu 0 82 laws_FnKeys.d1 HT_ ?_
                  refine pu 1 83 laws_FnKeys.d2 HT_ ?_
                  refine pu 2 84 laws_FnKeys.d3 HT_ ?_
                  refine pu 6 88 laws_FnKeys.d4 HT_ ?_
                  refine pu 7 89 laws_FnKeys.d5 HT_ ?_
                  refine pu 8 90 laws_FnKeys.d6 HT_ ?_
                  refine tk 3 85 laws_FnKeys.d7 HT_ HW_ hHeld ?_
                  refine pu 4 86 laws_FnKeys.d8 HT_ ?_
                  refine pu 5 87 laws_FnKeys.d9 HT_ ?_
                  refine tk 9 91 laws_FnKeys.d10 HT_ HW_ hHeld ?_
                  refine pu 10 92 laws_FnKeys.d11 HT_ ?_
                  refine onx 11 93 laws_FnKeys.d12 HT_ (fun K hK => ?_)
                  refine gs Tryz.func6 #[.string (⟨#[104, 46, 65]⟩ : ByteArray), .string ((((⟨#[47, 37, 54, 51, 63, 38]⟩ : ByteArray) ++ (rdOf ByteArray.empty y112 t116)) ++ (⟨#[38, 38]⟩ : ByteArray)) ++ (rdOf ByteArray.empty y112 t115))] ?_
                  with_reducible refine (impl_Key.calls kj8 (⟨#[104, 46, 65]⟩ : ByteArray) ((((⟨#[47, 37, 54, 51, 63, 38]⟩ : ByteArray) ++ (rdOf ByteArray.empty y112 t116)) ++ (⟨#[38, 38]⟩ : ByteArray)) ++ (rdOf ByteArray.empty y112 t115)) t123 true _ ?side1 A37.out).mono ?_
                  (case side1 => exact XW.to (XW.stays hX bh) (by decide))
                  rintro e w62 ⟨rfl, hb⟩
                  have HS0_ := (hb.cell (World.block_lt_of_cell? _ _ (hHeld.1))).trans (hHeld.1)
                  have HS1_ := (hb.cell (World.block_lt_of_cell? _ _ (hHeld.2))).trans (hHeld.2)
                  refine ⟨_, rfl, ?_⟩
                  replace HO114 := Aside0.mk (Kd.R_below (by (with_reducible repeat (first | apply Kd.R_alloc | apply Kd.R_drewN | apply Kd.R_drew)); exact HO114.out) hb)
                  replace HB := Aside0.mk (below_step bh hb)
                  (try clear hb)
                  (try clear hb2)
                  (try clear hk)
                  (try clear hi)
                  refine hK.out _ _ ⟨HS0_, HS1_⟩ (fun hHeld => ?_)
                  clear hK K
                  refine nm 93 ?_
                  refine pu 12 81 laws_FnKeys.d13 HT_ ?_
                  refine pu 13 94 laws_FnKeys.d14 HT_ ?_
                  refine pu 14 95 laws_FnKeys.d15 HT_ ?_
                  refine pu 15 16 laws_FnKeys.d16 HT_ ?_
                  refine pu 16 17 laws_FnKeys.d17 HT_ ?_
                  refine dn HT_ ?_
                  try go_wp2
                  go_ret
                  exact ⟨er, bh⟩
                ·
                 replace c39 := Bool.eq_false_iff.mpr c39
                 subst c39
                 have H1 : (some false) = some r := by rw [if_neg (show ¬ (false = true) by decide)] at H; exact H
                 clear H
                 have H := H1
                 clear H1
                 obtain rfl := Option.some.inj H
                 try go_wp2_with (first | ((with_reducible refine gate_dst (N := 61) rfl ?_); refine Kd.R_lit Kd.string _ 9 ?hg (N := 61) ?hd (xs := ([(⟨#[120, 61, 49]⟩ : ByteArray), (⟨#[121]⟩ : ByteArray), (⟨#[107, 61, 118]⟩ : ByteArray), (⟨#[120, 61, 50]⟩ : ByteArray)] : List ByteArray)) (inner := [.string (⟨#[120, 61, 49]⟩ : ByteArray), .string (⟨#[121]⟩ : ByteArray), .string (⟨#[107, 61, 118]⟩ : ByteArray), .string (⟨#[120, 61, 50]⟩ : ByteArray)]) (ok := fun _ => True) (okp := fun _ => True) ?hr ?hp (fun _ hk => hk) trivial (Below.refl _ _) (Nat.le_refl _) (by simp) ?_; (case hd => rfl); (case hg => rfl); (case hr => first | (go_simp; done) | (go_simp; rfl)); (case hp => exact (Reps.one (show Kd.M Kd.string _ _ _ (⟨#[120, 61, 49]⟩ : ByteArray) [.string (⟨#[120, 61, 49]⟩ : ByteArray)] from rfl) (Reps.one (show Kd.M Kd.string _ _ _ (⟨#[121]⟩ : ByteArray) [.string (⟨#[121]⟩ : ByteArray)] from rfl) (Reps.one (show Kd.M Kd.string _ _ _ (⟨#[107, 61, 118]⟩ : ByteArray) [.string (⟨#[107, 61, 118]⟩ : ByteArray)] from rfl) (Reps.one (show Kd.M Kd.string _ _ _ (⟨#[120, 61, 50]⟩ : ByteArray) [.string (⟨#[120, 61, 50]⟩ : ByteArray)] from rfl) (Reps.none _ _)))))); intro v113 w63 ho64 hb hg_ hnew_; clear hg_ hnew_; (first | rw [← Ny112.out] at ho64 | (simp only [Int.reduceToNat] at ho64; rw [← Ny112.out] at ho64)); have HO114 := Aside0.mk (Kd.R_lower ho64 (below_size bh)); replace HB := Aside0.mk (below_step bh hb); clear hb ho64) | ((with_reducible refine gate_callee (f := 12) rfl ?_); refine goesL_ (some 63) rfl rfl Tryz.func12 (by kernel_rfl) rfl #[.slice A0 l0.length c0, .int .i64 1, .int .i64 4] rfl mc ?_; (with_reducible refine (laws_pick.calls kj8 _ _ l0 1 4 t115 _ ?side1 ?side2 A24.out).mono ?_); (case side1 => repeat (first | exact (Kd.C_below HR0.out HB.out) | (with_reducible refine Kd.C_alloc ?_ _) | (with_reducible refine Kd.C_drewN ?_ _) | (with_reducible refine Kd.C_drew ?_))); (case side2 => exact HC0.out); rintro e w' ⟨rfl, ⟨nd, rfl⟩⟩; refine ⟨_, rfl, ?_⟩) | ((with_reducible refine gate_callee (f := 12) rfl ?_); refine goesL_ (some 65) rfl rfl Tryz.func12 (by kernel_rfl) rfl #[.slice A0 l0.length c0, .int .i64 2, .int .i64 4] rfl mc ?_; (with_reducible refine (laws_pick.calls kj8 _ _ l0 2 4 t116 _ ?side1 ?side2 A25.out).mono ?_); (case side1 => repeat (first | exact (Kd.C_below HR0.out bh) | (with_reducible refine Kd.C_alloc ?_ _) | (with_reducible refine Kd.C_drewN ?_ _) | (with_reducible refine Kd.C_drew ?_))); (case side2 => exact HC0.out); rintro e w' ⟨rfl, ⟨nd, rfl⟩⟩; refine ⟨_, rfl, ?_⟩))
                 (try (rw [drewN_self w63]; generalize hq_ : World.drewN w63 _ = w63; have n0_ : Aside0 (Kd.R Kd.string 9 w63 w.heap.size (fun _ => True) v113 y112) := ⟨by rw [← hq_]; exact (by (with_reducible repeat (first | apply Kd.R_alloc | apply Kd.R_drewN | apply Kd.R_drew)); exact HO114.out)⟩; have n1_ : Aside0 (Below w.heap.size w w63) := ⟨by rw [← hq_]; exact bh⟩; clear HO114 HB hq_; have HO114 := n0_; have HB := n1_; clear n0_ n1_))
                 replace HO114 := Aside0.mk (Kd.R_drew HO114.out)
                 replace HB := Aside0.mk (below_drew1 HB.out)
                 obtain ⟨Ao66, co66, eo66⟩ := Kd.R_slice HO114.out
                 (first | subst eo66 | (injection eo66 with f1_ f2_ f3_; have f4_ := f1_.symm; have f5_ := f3_.symm; clear f1_ f2_ f3_; subst f4_; subst f5_))
                 have p117 : 0 ≤ (t115 : Int) := of_decide_eq_true (by first | (with_reducible assumption) | assumption)
                 have q117 : t115 < (y112.length : Int) := of_decide_eq_true (by first | (with_reducible assumption) | assumption)
                 obtain ⟨ad117, e117, hx117_0⟩ := Kd.at_string (Kd.R_reads' HO114.out).2.2 t115 p117 q117
                 cases e117
                 replace p117 := eq_true p117
                 replace q117 := eq_true q117
                 have p118 : 0 ≤ (t116 : Int) := of_decide_eq_true (by first | (with_reducible assumption) | assumption)
                 have q118 : t116 < (y112.length : Int) := of_decide_eq_true (by first | (with_reducible assumption) | assumption)
                 obtain ⟨ad118, e118, hx118_0⟩ := Kd.at_string (Kd.R_reads' HO114.out).2.2 t116 p118 q118
                 obtain rfl : ad117 = ad118 := (by injection e118)
                 replace p118 := eq_true p118
                 replace q118 := eq_true q118
                 refine start_ (n := 17) (S := fun w' => w'.cell? (ad117.add (t115).toNat) = some (.string (rdOf ByteArray.empty y112 t115)) ∧ w'.cell? (ad117.add (t116).toNat) = some (.string (rdOf ByteArray.empty y112 t116))) (ds := []) laws_FnKeys.d0 (by kernel_rfl) rfl rfl ⟨hx117_0, hx118_0⟩ (fun hHeld => ?_); refine with_tabW laws_FnKeys.tab13 laws_FnKeys.bits13 (fun HT_ HW_ => ?_)
                 generalize w63.drew = w65 at HO114 HB hx117_0 hx118_0 hHeld ⊢
                 refine pu 0 67 laws_FnKeys.d1 HT_ ?_
                 refine pu 1 68 laws_FnKeys.d2 HT_ ?_
                 refine pu 2 69 laws_FnKeys.d3 HT_ ?_
                 refine pu 6 73 laws_FnKeys.d4 HT_ ?_
                 refine pu 7 74 laws_FnKeys.d5 HT_ ?_
                 refine pu 8 75 laws_FnKeys.d6 HT_ ?_
                 refine tk 3 70 laws_FnKeys.d7 HT_ HW_ hHeld ?_
                 refine pu 4 71 laws_FnKeys.d8 HT_ ?_
                 refine pu 5 72 laws_FnKeys.d9 HT_ ?_
                 refine tk 9 76 laws_FnKeys.d10 HT_ HW_ hHeld ?_
                 refine pu 10 77 laws_FnKeys.d11 HT_ ?_
                 refine onx 11 78 laws_FnKeys.d12 HT_ (fun K hK => ?_)
                 refine gs Tryz.func6 #[.string (⟨#[72, 46, 97]⟩ : ByteArray), .string ((((⟨#[47, 98, 47, 46, 46, 47, 99, 63]⟩ : ByteArray) ++ (rdOf ByteArray.empty y112 t115)) ++ (⟨#[38]⟩ : ByteArray)) ++ (rdOf ByteArray.empty y112 t116))] ?_
                 with_reducible refine (impl_Key.calls kj8 (⟨#[72, 46, 97]⟩ : ByteArray) ((((⟨#[47, 98, 47, 46, 46, 47, 99, 63]⟩ : ByteArray) ++ (rdOf ByteArray.empty y112 t115)) ++ (⟨#[38]⟩ : ByteArray)) ++ (rdOf ByteArray.empty y112 t116)) t119 true _ ?side1 A33.out).mono ?_
                 (case side1 => exact XW.to (XW.stays hX bh) (by decide))
                 rintro e w67 ⟨rfl, hb⟩
                 have HS0_ := (hb.cell (World.block_lt_of_cell? _ _ (hHeld.1))).trans (hHeld.1)
                 have HS1_ := (hb.cell (World.block_lt_of_cell? _ _ (hHeld.2))).trans (hHeld.2)
                 refine ⟨_, rfl, ?_⟩
                 replace HO114 := Aside0.mk (Kd.R_below (by (with_reducible repeat (first | apply Kd.R_alloc | apply Kd.R_drewN | apply Kd.R_drew)); exact HO114.out) hb)
                 replace HB := Aside0.mk (below_step bh hb)
                 (try clear hb)
                 (try clear hb2)
                 (try clear hk)
                 (try clear hi)
                 refine hK.out _ _ ⟨HS0_, HS1_⟩ (fun hHeld => ?_)
                 clear hK K
                 refine nm 78 ?_
                 refine pu 12 66 laws_FnKeys.d13 HT_ ?_
                 refine pu 13 79 laws_FnKeys.d14 HT_ ?_
                 refine pu 14 80 laws_FnKeys.d15 HT_ ?_
                 refine pu 15 14 laws_FnKeys.d16 HT_ ?_
                 refine pu 16 15 laws_FnKeys.d17 HT_ ?_
                 refine dn HT_ ?_
                 try go_wp2
                 replace HO114 := Aside0.mk (Kd.R_drew HO114.out)
                 replace HB := Aside0.mk (below_drew1 HB.out)
                 have p121 : 0 ≤ (t116 : Int) := of_decide_eq_true (by first | (with_reducible assumption) | assumption)
                 have q121 : t116 < (y112.length : Int) := of_decide_eq_true (by first | (with_reducible assumption) | assumption)
                 obtain ⟨ad121, e121, hx121_0⟩ := Kd.at_string (Kd.R_reads' HO114.out).2.2 t116 p121 q121
                 obtain rfl : ad117 = ad121 := (by injection e121)
                 replace p121 := eq_true p121
                 replace q121 := eq_true q121
                 have p122 : 0 ≤ (t115 : Int) := of_decide_eq_true (by first | (with_reducible assumption) | assumption)
                 have q122 : t115 < (y112.length : Int) := of_decide_eq_true (by first | (with_reducible assumption) | assumption)
                 obtain ⟨ad122, e122, hx122_0⟩ := Kd.at_string (Kd.R_reads' HO114.out).2.2 t115 p122 q122
                 obtain rfl : ad117 = ad122 := (by injection e122)
                 replace p122 := eq_true p122
                 replace q122 := eq_true q122
                 refine start_ (n := 17) (S := fun w' => w'.cell? (ad117.add (t116).toNat) = some (.string (rdOf ByteArray.empty y112 t116)) ∧ w'.cell? (ad117.add (t115).toNat) = some (.string (rdOf ByteArray.empty y112 t115))) (ds := []) laws_FnKeys.d0 (by kernel_rfl) rfl rfl ⟨hx121_0, hx122_0⟩ (fun hHeld => ?_); refine with_tabW laws_FnKeys.tab14 laws_FnKeys.bits14 (fun HT_ HW_ => ?_)
                 generalize w67.drew = w68 at HO114 HB hx121_0 hx122_0 hHeld ⊢
                 refine pu 0 82 laws_FnKeys.d1 HT_ ?_
                 refine pu 1 83 laws_FnKeys.d2 HT_ ?_
                 refine pu 2 84 laws_FnKeys.d3 HT_ ?_
                 refine pu 6 88 laws_FnKeys.d4 HT_ ?_
                 refine pu 7 89 laws_FnKeys.d5 HT_ ?_
                 refine pu 8 90 laws_FnKeys.d6 HT_ ?_
                 refine tk 3 85 laws_FnKeys.d7 HT_ HW_ hHeld ?_
                 refine pu 4 86 laws_FnKeys.d8 HT_ ?_
                 refine pu 5 87 laws_FnKeys.d9 HT_ ?_
                 refine tk 9 91 laws_FnKeys.d10 HT_ HW_ hHeld ?_
                 refine pu 10 92 laws_FnKeys.d11 HT_ ?_
                 refine onx 11 93 laws_FnKeys.d12 HT_ (fun K hK => ?_)
                 refine gs Tryz.func6 #[.string (⟨#[104, 46, 65]⟩ : ByteArray), .string ((((⟨#[47, 37, 54, 51, 63, 38]⟩ : ByteArray) ++ (rdOf ByteArray.empty y112 t116)) ++ (⟨#[38, 38]⟩ : ByteArray)) ++ (rdOf ByteArray.empty y112 t115))] ?_
                 with_reducible refine (impl_Key.calls kj8 (⟨#[104, 46, 65]⟩ : ByteArray) ((((⟨#[47, 37, 54, 51, 63, 38]⟩ : ByteArray) ++ (rdOf ByteArray.empty y112 t116)) ++ (⟨#[38, 38]⟩ : ByteArray)) ++ (rdOf ByteArray.empty y112 t115)) t123 false _ ?side1 A37.out).mono ?_
                 (case side1 => exact XW.to (XW.stays hX bh) (by decide))
                 rintro e w69 ⟨rfl, hb⟩
                 have HS0_ := (hb.cell (World.block_lt_of_cell? _ _ (hHeld.1))).trans (hHeld.1)
                 have HS1_ := (hb.cell (World.block_lt_of_cell? _ _ (hHeld.2))).trans (hHeld.2)
                 refine ⟨_, rfl, ?_⟩
                 replace HO114 := Aside0.mk (Kd.R_below (by (with_reducible repeat (first | apply Kd.R_alloc | apply Kd.R_drewN | apply Kd.R_drew)); exact HO114.out) hb)
                 replace HB := Aside0.mk (below_step bh hb)
                 (try clear hb)
                 (try clear hb2)
                 (try clear hk)
                 (try clear hi)
                 refine hK.out _ _ ⟨HS0_, HS1_⟩ (fun hHeld => ?_)
                 clear hK K
                 refine nm 93 ?_
                 refine pu 12 81 laws_FnKeys.d13 HT_ ?_
                 refine pu 13 94 laws_FnKeys.d14 HT_ ?_
                 refine pu 14 95 laws_FnKeys.d15 HT_ ?_
                 refine pu 15 16 laws_FnKeys.d16 HT_ ?_
                 refine pu 16 17 laws_FnKeys.d17 HT_ ?_
                 refine dn HT_ ?_
                 try go_wp2
                 go_ret
                 exact ⟨er, bh⟩
               ·
                replace c38 := Bool.eq_false_iff.mpr c38
                subst c38
                have H1 : (some false) = some r := by rw [if_neg (show ¬ (false = true) by decide)] at H; exact H
                clear H
                have H := H1
                clear H1
                obtain rfl := Option.some.inj H
                try go_wp2_with (first | ((with_reducible refine gate_dst (N := 61) rfl ?_); refine Kd.R_lit Kd.string _ 9 ?hg (N := 61) ?hd (xs := ([(⟨#[120, 61, 49]⟩ : ByteArray), (⟨#[121]⟩ : ByteArray), (⟨#[107, 61, 118]⟩ : ByteArray), (⟨#[120, 61, 50]⟩ : ByteArray)] : List ByteArray)) (inner := [.string (⟨#[120, 61, 49]⟩ : ByteArray), .string (⟨#[121]⟩ : ByteArray), .string (⟨#[107, 61, 118]⟩ : ByteArray), .string (⟨#[120, 61, 50]⟩ : ByteArray)]) (ok := fun _ => True) (okp := fun _ => True) ?hr ?hp (fun _ hk => hk) trivial (Below.refl _ _) (Nat.le_refl _) (by simp) ?_; (case hd => rfl); (case hg => rfl); (case hr => first | (go_simp; done) | (go_simp; rfl)); (case hp => exact (Reps.one (show Kd.M Kd.string _ _ _ (⟨#[120, 61, 49]⟩ : ByteArray) [.string (⟨#[120, 61, 49]⟩ : ByteArray)] from rfl) (Reps.one (show Kd.M Kd.string _ _ _ (⟨#[121]⟩ : ByteArray) [.string (⟨#[121]⟩ : ByteArray)] from rfl) (Reps.one (show Kd.M Kd.string _ _ _ (⟨#[107, 61, 118]⟩ : ByteArray) [.string (⟨#[107, 61, 118]⟩ : ByteArray)] from rfl) (Reps.one (show Kd.M Kd.string _ _ _ (⟨#[120, 61, 50]⟩ : ByteArray) [.string (⟨#[120, 61, 50]⟩ : ByteArray)] from rfl) (Reps.none _ _)))))); intro v113 w70 ho71 hb hg_ hnew_; clear hg_ hnew_; (first | rw [← Ny112.out] at ho71 | (simp only [Int.reduceToNat] at ho71; rw [← Ny112.out] at ho71)); have HO114 := Aside0.mk (Kd.R_lower ho71 (below_size bh)); replace HB := Aside0.mk (below_step bh hb); clear hb ho71) | ((with_reducible refine gate_callee (f := 12) rfl ?_); refine goesL_ (some 63) rfl rfl Tryz.func12 (by kernel_rfl) rfl #[.slice A0 l0.length c0, .int .i64 1, .int .i64 4] rfl mc ?_; (with_reducible refine (laws_pick.calls kj8 _ _ l0 1 4 t115 _ ?side1 ?side2 A24.out).mono ?_); (case side1 => repeat (first | exact (Kd.C_below HR0.out HB.out) | (with_reducible refine Kd.C_alloc ?_ _) | (with_reducible refine Kd.C_drewN ?_ _) | (with_reducible refine Kd.C_drew ?_))); (case side2 => exact HC0.out); rintro e w' ⟨rfl, ⟨nd, rfl⟩⟩; refine ⟨_, rfl, ?_⟩) | ((with_reducible refine gate_callee (f := 12) rfl ?_); refine goesL_ (some 65) rfl rfl Tryz.func12 (by kernel_rfl) rfl #[.slice A0 l0.length c0, .int .i64 2, .int .i64 4] rfl mc ?_; (with_reducible refine (laws_pick.calls kj8 _ _ l0 2 4 t116 _ ?side1 ?side2 A25.out).mono ?_); (case side1 => repeat (first | exact (Kd.C_below HR0.out bh) | (with_reducible refine Kd.C_alloc ?_ _) | (with_reducible refine Kd.C_drewN ?_ _) | (with_reducible refine Kd.C_drew ?_))); (case side2 => exact HC0.out); rintro e w' ⟨rfl, ⟨nd, rfl⟩⟩; refine ⟨_, rfl, ?_⟩))
                (try (rw [drewN_self w70]; generalize hq_ : World.drewN w70 _ = w70; have n0_ : Aside0 (Kd.R Kd.string 9 w70 w.heap.size (fun _ => True) v113 y112) := ⟨by rw [← hq_]; exact (by (with_reducible repeat (first | apply Kd.R_alloc | apply Kd.R_drewN | apply Kd.R_drew)); exact HO114.out)⟩; have n1_ : Aside0 (Below w.heap.size w w70) := ⟨by rw [← hq_]; exact bh⟩; clear HO114 HB hq_; have HO114 := n0_; have HB := n1_; clear n0_ n1_))
                replace HO114 := Aside0.mk (Kd.R_drew HO114.out)
                replace HB := Aside0.mk (below_drew1 HB.out)
                obtain ⟨Ao73, co73, eo73⟩ := Kd.R_slice HO114.out
                (first | subst eo73 | (injection eo73 with f1_ f2_ f3_; have f4_ := f1_.symm; have f5_ := f3_.symm; clear f1_ f2_ f3_; subst f4_; subst f5_))
                have p117 : 0 ≤ (t115 : Int) := of_decide_eq_true (by first | (with_reducible assumption) | assumption)
                have q117 : t115 < (y112.length : Int) := of_decide_eq_true (by first | (with_reducible assumption) | assumption)
                obtain ⟨ad117, e117, hx117_0⟩ := Kd.at_string (Kd.R_reads' HO114.out).2.2 t115 p117 q117
                cases e117
                replace p117 := eq_true p117
                replace q117 := eq_true q117
                have p118 : 0 ≤ (t116 : Int) := of_decide_eq_true (by first | (with_reducible assumption) | assumption)
                have q118 : t116 < (y112.length : Int) := of_decide_eq_true (by first | (with_reducible assumption) | assumption)
                obtain ⟨ad118, e118, hx118_0⟩ := Kd.at_string (Kd.R_reads' HO114.out).2.2 t116 p118 q118
                obtain rfl : ad117 = ad118 := (by injection e118)
                replace p118 := eq_true p118
                replace q118 := eq_true q118
                refine start_ (n := 17) (S := fun w' => w'.cell? (ad117.add (t115).toNat) = some (.string (rdOf ByteArray.empty y112 t115)) ∧ w'.cell? (ad117.add (t116).toNat) = some (.string (rdOf ByteArray.empty y112 t116))) (ds := []) laws_FnKeys.d0 (by kernel_rfl) rfl rfl ⟨hx117_0, hx118_0⟩ (fun hHeld => ?_); refine with_tabW laws_FnKeys.tab13 laws_FnKeys.bits13 (fun HT_ HW_ => ?_)
                generalize w70.drew = w72 at HO114 HB hx117_0 hx118_0 hHeld ⊢
                refine pu 0 67 laws_FnKeys.d1 HT_ ?_
                refine pu 1 68 laws_FnKeys.d2 HT_ ?_
                refine pu 2 69 laws_FnKeys.d3 HT_ ?_
                refine pu 6 73 laws_FnKeys.d4 HT_ ?_
                refine pu 7 74 laws_FnKeys.d5 HT_ ?_
                refine pu 8 75 laws_FnKeys.d6 HT_ ?_
                refine tk 3 70 laws_FnKeys.d7 HT_ HW_ hHeld ?_
                refine pu 4 71 laws_FnKeys.d8 HT_ ?_
                refine pu 5 72 laws_FnKeys.d9 HT_ ?_
                refine tk 9 76 laws_FnKeys.d10 HT_ HW_ hHeld ?_
                refine pu 10 77 laws_FnKeys.d11 HT_ ?_
                refine onx 11 78 laws_FnKeys.d12 HT_ (fun K hK => ?_)
                refine gs Tryz.func6 #[.string (⟨#[72, 46, 97]⟩ : ByteArray), .string ((((⟨#[47, 98, 47, 46, 46, 47, 99, 63]⟩ : ByteArray) ++ (rdOf ByteArray.empty y112 t115)) ++ (⟨#[38]⟩ : ByteArray)) ++ (rdOf ByteArray.empty y112 t116))] ?_
                with_reducible refine (impl_Key.calls kj8 (⟨#[72, 46, 97]⟩ : ByteArray) ((((⟨#[47, 98, 47, 46, 46, 47, 99, 63]⟩ : ByteArray) ++ (rdOf ByteArray.empty y112 t115)) ++ (⟨#[38]⟩ : ByteArray)) ++ (rdOf ByteArray.empty y112 t116)) t119 false _ ?side1 A33.out).mono ?_
                (case side1 => exact XW.to (XW.stays hX bh) (by decide))
                rintro e w74 ⟨rfl, hb⟩
                have HS0_ := (hb.cell (World.block_lt_of_cell? _ _ (hHeld.1))).trans (hHeld.1)
                have HS1_ := (hb.cell (World.block_lt_of_cell? _ _ (hHeld.2))).trans (hHeld.2)
                refine ⟨_, rfl, ?_⟩
                replace HO114 := Aside0.mk (Kd.R_below (by (with_reducible repeat (first | apply Kd.R_alloc | apply Kd.R_drewN | apply Kd.R_drew)); exact HO114.out) hb)
                replace HB := Aside0.mk (below_step bh hb)
                (try clear hb)
                (try clear hb2)
                (try clear hk)
                (try clear hi)
                refine hK.out _ _ ⟨HS0_, HS1_⟩ (fun hHeld => ?_)
                clear hK K
                refine nm 78 ?_
                refine pu 12 66 laws_FnKeys.d13 HT_ ?_
                refine pu 13 79 laws_FnKeys.d14 HT_ ?_
                refine pu 14 80 laws_FnKeys.d15 HT_ ?_
                refine pu 15 14 laws_FnKeys.d16 HT_ ?_
                refine pu 16 15 laws_FnKeys.d17 HT_ ?_
                refine dn HT_ ?_
                try go_wp2
                replace HO114 := Aside0.mk (Kd.R_drew HO114.out)
                replace HB := Aside0.mk (below_drew1 HB.out)
                have p121 : 0 ≤ (t116 : Int) := of_decide_eq_true (by first | (with_reducible assumption) | assumption)
                have q121 : t116 < (y112.length : Int) := of_decide_eq_true (by first | (with_reducible assumption) | assumption)
                obtain ⟨ad121, e121, hx121_0⟩ := Kd.at_string (Kd.R_reads' HO114.out).2.2 t116 p121 q121
                obtain rfl : ad117 = ad121 := (by injection e121)
                replace p121 := eq_true p121
                replace q121 := eq_true q121
                have p122 : 0 ≤ (t115 : Int) := of_decide_eq_true (by first | (with_reducible assumption) | assumption)
                have q122 : t115 < (y112.length : Int) := of_decide_eq_true (by first | (with_reducible assumption) | assumption)
                obtain ⟨ad122, e122, hx122_0⟩ := Kd.at_string (Kd.R_reads' HO114.out).2.2 t115 p122 q122
                obtain rfl : ad117 = ad122 := (by injection e122)
                replace p122 := eq_true p122
                replace q122 := eq_true q122
                refine start_ (n := 17) (S := fun w' => w'.cell? (ad117.add (t116).toNat) = some (.string (rdOf ByteArray.empty y112 t116)) ∧ w'.cell? (ad117.add (t115).toNat) = some (.string (rdOf ByteArray.empty y112 t115))) (ds := []) laws_FnKeys.d0 (by kernel_rfl) rfl rfl ⟨hx121_0, hx122_0⟩ (fun hHeld => ?_); refine with_tabW laws_FnKeys.tab14 laws_FnKeys.bits14 (fun HT_ HW_ => ?_)
                generalize w74.drew = w75 at HO114 HB hx121_0 hx122_0 hHeld ⊢
                refine pu 0 82 laws_FnKeys.d1 HT_ ?_
                refine pu 1 83 laws_FnKeys.d2 HT_ ?_
                refine pu 2 84 laws_FnKeys.d3 HT_ ?_
                refine pu 6 88 laws_FnKeys.d4 HT_ ?_
                refine pu 7 89 laws_FnKeys.d5 HT_ ?_
                refine pu 8 90 laws_FnKeys.d6 HT_ ?_
                refine tk 3 85 laws_FnKeys.d7 HT_ HW_ hHeld ?_
                refine pu 4 86 laws_FnKeys.d8 HT_ ?_
                refine pu 5 87 laws_FnKeys.d9 HT_ ?_
                refine tk 9 91 laws_FnKeys.d10 HT_ HW_ hHeld ?_
                refine pu 10 92 laws_FnKeys.d11 HT_ ?_
                refine onx 11 93 laws_FnKeys.d12 HT_ (fun K hK => ?_)
                refine gs Tryz.func6 #[.string (⟨#[104, 46, 65]⟩ : ByteArray), .string ((((⟨#[47, 37, 54, 51, 63, 38]⟩ : ByteArray) ++ (rdOf ByteArray.empty y112 t116)) ++ (⟨#[38, 38]⟩ : ByteArray)) ++ (rdOf ByteArray.empty y112 t115))] ?_
                with_reducible refine (impl_Key.calls kj8 (⟨#[104, 46, 65]⟩ : ByteArray) ((((⟨#[47, 37, 54, 51, 63, 38]⟩ : ByteArray) ++ (rdOf ByteArray.empty y112 t116)) ++ (⟨#[38, 38]⟩ : ByteArray)) ++ (rdOf ByteArray.empty y112 t115)) t123 t124 _ ?side1 A37.out).mono ?_
                (case side1 => exact XW.to (XW.stays hX bh) (by decide))
                rintro e w76 ⟨rfl, hb⟩
                have HS0_ := (hb.cell (World.block_lt_of_cell? _ _ (hHeld.1))).trans (hHeld.1)
                have HS1_ := (hb.cell (World.block_lt_of_cell? _ _ (hHeld.2))).trans (hHeld.2)
                refine ⟨_, rfl, ?_⟩
                replace HO114 := Aside0.mk (Kd.R_below (by (with_reducible repeat (first | apply Kd.R_alloc | apply Kd.R_drewN | apply Kd.R_drew)); exact HO114.out) hb)
                replace HB := Aside0.mk (below_step bh hb)
                (try clear hb)
                (try clear hb2)
                (try clear hk)
                (try clear hi)
                refine hK.out _ _ ⟨HS0_, HS1_⟩ (fun hHeld => ?_)
                clear hK K
                refine nm 93 ?_
                refine pu 12 81 laws_FnKeys.d13 HT_ ?_
                refine pu 13 94 laws_FnKeys.d14 HT_ ?_
                refine pu 14 95 laws_FnKeys.d15 HT_ ?_
                refine pu 15 16 laws_FnKeys.d16 HT_ ?_
                refine pu 16 17 laws_FnKeys.d17 HT_ ?_
                refine dn HT_ ?_
                try go_wp2
                go_ret
                exact ⟨er, bh⟩
              ·
               rw [if_neg c36] at H
               exact absurd H (by simp)
             ·
              rw [if_neg c35] at H
              exact absurd H (by simp)
            ·
             rw [if_neg c34] at H
             exact absurd H (by simp)
           ·
            rw [if_neg c32] at H
            exact absurd H (by simp)
          ·
           rw [if_neg c31] at H
           exact absurd H (by simp)
         ·
          rw [if_neg c30] at H
          exact absurd H (by simp)
        ·
         rw [if_neg c29] at H
         exact absurd H (by simp)
       ·
        rw [if_neg c28] at H
        exact absurd H (by simp)
      ·
       rw [if_neg c27] at H
       exact absurd H (by simp)
     ·
      rw [if_neg c26] at H
      exact absurd H (by simp)

/-- THE ONE PURE STATEMENT of laws_FnKeys: yours. -/
def laws_FnKeys.Pure : Prop := ∀ (l0 : List Int), l0.length ≤ maxLen → l0.length * 1 ≤ 140737488351232 → (∀ x ∈ l0, (Lit.int .u8 x).wf = true) → ∃ k, laws_FnKeys.f k l0 = some true
theorem laws_FnKeys.walk (P : laws_FnKeys.Pure) (a0 : Option Addr) (len0 cap0 : Nat) (z0 : List Int) (w : World) (hX : XW 1 w) (w0 : (a0 = none ∧ len0 = 0 ∧ cap0 = 0 ∧ z0 = []) ∨ ∃ x, a0 = some x ∧ len0 ≤ cap0 ∧ cap0 ≤ maxLen ∧ z0.length = cap0 ∧ (∀ i, i < z0.length → w.cell? (x.add i) = some (.int .u8 (z0.getD i 0))) ∧ ∀ n ∈ z0, (Lit.int .u8 n).wf = true) (y0 : len0 * 1 ≤ 140737488351232) :
  Calls Tryz.prog 4 #[.slice a0 len0 cap0] w fun e w' => e = .returned (.bool true) ∧ Below w.heap.size w w' := by
 obtain ⟨l0, rfl, hr0, hm0, hw0, hc0⟩ := ReadsInt.ofRowC w0
 obtain ⟨k, h⟩ := P l0 hm0 y0 hw0
 refine (laws_FnKeys.calls k _ _ l0 true w hX (Kd.C_of_reads (d := (0 : Int)) (h1 := fun _ => rfl) hr0) hc0 h).mono ?_
 rintro e w' ⟨rfl, hd⟩
 exact ⟨rfl, hd⟩
end Go.Proofs.YtonimccihcodnaaGreatDoor.P
namespace Go.Proofs.YtonimccihcodnaaGreatDoor.Q
open Go.RowKit Go.Proofs.YtonimccihcodnaaGreatDoorW.PrintWords Go.Proofs.YtonimccihcodnaaGreatDoorW.PrintLast Go.Proofs.YtonimccihcodnaaGreatDoorW.PrintMore

theorem wrap_in {i : Int} (h0 : -9223372036854775808 ≤ i) (h1 : i ≤ 9223372036854775807) : wrap64 i = i := by unfold wrap64; omega
theorem wrap_next {i : Nat} {n : Nat} (h : i < n) (hn : n ≤ 4611686018427387904) : wrap64 ((i : Int) + 1) = ((i + 1 : Nat) : Int) := by unfold wrap64; omega

theorem toList_data (s : ByteArray) : s.toList = s.data.toList := ByteArray.toList_eq s
theorem eq_of_toList {a b : ByteArray} (h : a.toList = b.toList) : a = b := by
  rw [toList_data, toList_data] at h
  exact ByteArray.ext (Array.toList_inj.1 h)
theorem bt_get (s : ByteArray) (i : Nat) (h : i < s.size) : (bytesOf s)[i]? = some (bt s i) := by
  rw [← rd_bytesOf]
  have h1 : i < (bytesOf s).length := by rw [bytesOf_length]; exact h
  simp [rd, List.getD_eq_getElem?_getD, List.getElem?_eq_getElem h1]
theorem drop_bt (s : ByteArray) (i : Nat) (h : i < s.size) : (bytesOf s).drop i = bt s i :: (bytesOf s).drop (i + 1) := by
  have h1 : i < (bytesOf s).length := by rw [bytesOf_length]; exact h
  rw [List.drop_eq_getElem_cons h1]
  have := bt_get s i h
  rw [List.getElem?_eq_getElem h1] at this
  rw [Option.some.inj this]
theorem mem_bytes {s : ByteArray} {c : Int} (h : c ∈ bytesOf s) : 0 ≤ c ∧ c ≤ 255 := by
  unfold bytesOf at h
  obtain ⟨b, _, rfl⟩ := List.mem_map.1 h
  have := b.toNat_lt
  omega
theorem bytes_nums (l : List Int) (h : ∀ c ∈ l, 0 ≤ c ∧ c ≤ 255) : bytesOf (strOfNums l) = l := by
  unfold bytesOf
  rw [strOfNums_data, List.map_map]
  refine (List.map_congr_left fun c hc => ?_).trans (List.map_id l)
  have := h c hc
  simp only [Function.comp, UInt8.toNat_ofNat', id]
  omega
theorem nums_bytes (s : ByteArray) : strOfNums (bytesOf s) = s := by
  apply ByteArray.ext
  apply Array.toList_inj.1
  rw [strOfNums_data]
  unfold bytesOf
  rw [List.map_map]
  refine (List.map_congr_left fun c hc => ?_).trans (List.map_id _)
  simp
theorem bytes_inj {a b : ByteArray} (h : bytesOf a = bytesOf b) : a = b := by rw [← nums_bytes a, ← nums_bytes b, h]
theorem bytes_append (a b : ByteArray) : bytesOf (a ++ b) = bytesOf a ++ bytesOf b := by
  unfold bytesOf
  rw [← List.map_append]
  simp [ByteArray.data_append]

/-- A loop over bytes: what a round does with its state and a byte; an end ahead of time. -/
def runL {σ β : Type} (f : σ → Int → σ ⊕ β) (fin : σ → β) : List Int → σ → β
  | [], st => fin st
  | c :: cs, st => match f st c with
    | .inl st' => runL f fin cs st'
    | .inr b => b
/-- The printed loop comes to what 'runL' comes to, from some number of rounds on. -/
theorem ev_run {σ β : Type} (s : ByteArray) (I : σ → Nat → Prop) (f : σ → Int → σ ⊕ β) (fin : σ → β) (g : Nat → σ → Int → Option β) (K : Nat)
    (hstep : ∀ k st (i : Nat), K ≤ k → i < s.size → I st i → (∀ st', f st (bt s i) = .inl st' → g (k + 1) st i = g k st' ((i + 1 : Nat) : Int) ∧ I st' (i + 1)) ∧ (∀ b, f st (bt s i) = .inr b → g (k + 1) st i = some b))
    (hend : ∀ k st, K ≤ k → I st s.size → g (k + 1) st (s.size : Int) = some (fin st)) (st : σ) (h0 : I st 0) :
    Ev (fun k => g k st 0) (runL f fin (bytesOf s) st) := by
  have key : ∀ (d i : Nat) (st : σ), i + d = s.size → I st i → ∀ k, K + d < k → g k st (i : Int) = some (runL f fin ((bytesOf s).drop i) st) := by
    intro d
    induction d with
    | zero =>
      intro i st hd hI k hk
      obtain ⟨k, rfl⟩ : ∃ m, k = m + 1 := ⟨k - 1, by omega⟩
      have e : i = s.size := by omega
      subst e
      rw [hend k st (by omega) hI, List.drop_of_length_le (by rw [bytesOf_length]; exact Nat.le_refl _)]
      rfl
    | succ d ih =>
      intro i st hd hI k hk
      obtain ⟨k, rfl⟩ : ∃ m, k = m + 1 := ⟨k - 1, by omega⟩
      obtain ⟨h1, h2⟩ := hstep k st i (by omega) (by omega) hI
      rw [drop_bt s i (by omega)]
      show g (k + 1) st i = some (match f st (bt s i) with | .inl st' => runL f fin ((bytesOf s).drop (i + 1)) st' | .inr b => b)
      cases hf : f st (bt s i) with
      | inl st' =>
        obtain ⟨e, hI'⟩ := h1 st' hf
        rw [e]
        exact ih (i + 1) st' (by omega) hI' k (by omega)
      | inr b => exact h2 b hf
  refine ⟨K + s.size + 1, fun k hk => ?_⟩
  have := key s.size 0 st (by omega) h0 k (by omega)
  rw [List.drop_zero] at this
  exact this

/-- A loop that asks each byte. -/
theorem ev_all (s : ByteArray) (p : Int → Bool) (g : Nat → Int → Option Bool) (K : Nat)
    (h1 : ∀ k (i : Nat), K ≤ k → i < s.size → p (bt s i) = true → g (k + 1) i = g k ((i + 1 : Nat) : Int))
    (h0 : ∀ k (i : Nat), K ≤ k → i < s.size → p (bt s i) = false → g (k + 1) i = some false)
    (he : ∀ k, K ≤ k → g (k + 1) (s.size : Int) = some true) : Ev (fun k => g k 0) ((bytesOf s).all p) := by
  have h := ev_run (σ := Unit) (β := Bool) s (fun _ _ => True) (fun _ c => if p c = true then .inl () else .inr false) (fun _ => true) (fun k _ i => g k i) K
    (fun k st i hk hi _ => ⟨fun st' e => ⟨h1 k i hk hi (by
        by_cases hp : p (bt s i) = true
        · exact hp
        · rw [if_neg hp] at e; cases e), trivial⟩, fun b e => by
        by_cases hp : p (bt s i) = true
        · rw [if_pos hp] at e; cases e
        · rw [if_neg hp] at e
          obtain rfl : false = b := by injection e
          exact h0 k i hk hi (by simpa using hp)⟩)
    (fun k st hk _ => he k hk) () trivial
  have e : ∀ l : List Int, runL (σ := Unit) (β := Bool) (fun _ c => if p c = true then .inl () else .inr false) (fun _ => true) l () = l.all p := by
    intro l
    induction l with
    | nil => rfl
    | cons c cs ih =>
      rw [List.all_cons]
      unfold runL
      by_cases hp : p c = true
      · simp only [hp, if_true, Bool.true_and]; exact ih
      · simp only [(by simpa using hp : p c = false), Bool.false_and, Bool.false_eq_true, if_false]
  rw [e] at h
  exact h
theorem runL_all {β : Type} (p : Int → Bool) (r b : β) (l : List Int) : runL (σ := Unit) (fun _ c => if p c = true then .inl () else .inr b) (fun _ => r) l () = if l.all p = true then r else b := by
  induction l with
  | nil => rfl
  | cons c cs ih =>
    rw [List.all_cons]
    unfold runL
    by_cases hp : p c = true
    · simp only [hp, if_true, Bool.true_and]; exact ih
    · simp only [(by simpa using hp : p c = false), Bool.false_and, Bool.false_eq_true, if_false]
/-- A loop that asks each byte, and goes on behind it. -/
theorem ev_allr {β : Type} (s : ByteArray) (p : Int → Bool) (r b : β) (g : Nat → Int → Option β) (K : Nat)
    (h1 : ∀ k (i : Nat), K ≤ k → i < s.size → p (bt s i) = true → g (k + 1) i = g k ((i + 1 : Nat) : Int))
    (h0 : ∀ k (i : Nat), K ≤ k → i < s.size → p (bt s i) = false → g (k + 1) i = some b)
    (he : ∀ k, K ≤ k → g (k + 1) (s.size : Int) = some r) : Ev (fun k => g k 0) (if (bytesOf s).all p = true then r else b) := by
  rw [← runL_all p r b (bytesOf s)]
  refine ev_run (σ := Unit) s (fun _ _ => True) (fun _ c => if p c = true then .inl () else .inr b) (fun _ => r) (fun k _ i => g k i) K
    (fun k st i hk hi _ => ⟨fun st' e => ⟨h1 k i hk hi (by
        by_cases hp : p (bt s i) = true
        · exact hp
        · rw [if_neg hp] at e; cases e), trivial⟩, fun b' e => by
        by_cases hp : p (bt s i) = true
        · rw [if_pos hp] at e; cases e
        · rw [if_neg hp] at e
          obtain rfl : b = b' := by injection e
          exact h0 k i hk hi (by simpa using hp)⟩)
    (fun k st hk _ => he k hk) () trivial
/-- A loop that puts something behind a list for each byte. -/
theorem runL_flat {β : Type} (f : Int → List Int) (fin : List Int → β) (l st : List Int) : runL (fun st c => .inl (st ++ f c)) fin l st = fin (st ++ l.flatMap f) := by
  induction l generalizing st with
  | nil => simp [runL]
  | cons c cs ih =>
    unfold runL
    simp only [ih, List.flatMap_cons, List.append_assoc]
theorem ev_const {α : Type} {x : Option α} {r : α} (h : x = some r) : Ev (fun _ => x) r := ⟨0, fun _ _ => h⟩
theorem ev_eq {α : Type} {g : Nat → Option α} {r r' : α} (h : Ev g r) (e : r = r') : Ev g r' := e ▸ h
/-- From a number of rounds on: a law that holds at each such number. -/
theorem ev_now {α : Type} {g : Nat → Option α} {r : α} (K : Nat) (h : ∀ k, K ≤ k → g k = some r) : Ev g r := ⟨K, h⟩
theorem all_congr' {l : List Int} {p q : Int → Bool} (h : ∀ c ∈ l, p c = q c) : l.all p = l.all q := by
  induction l with
  | nil => rfl
  | cons a l ih =>
    rw [List.all_cons, List.all_cons, h a List.mem_cons_self, ih fun c hc => h c (List.mem_cons_of_mem _ hc)]
end Go.Proofs.YtonimccihcodnaaGreatDoor.Q
namespace Go.Proofs.YtonimccihcodnaaGreatDoor.Q
set_option linter.unusedVariables false
set_option linter.unusedSimpArgs false
open Go.RowKit Go.Proofs.YtonimccihcodnaaGreatDoor.P Go.Proofs.YtonimccihcodnaaGreatDoorW.PrintWords Go.Proofs.YtonimccihcodnaaGreatDoorW.PrintLast Go.Proofs.YtonimccihcodnaaGreatDoorW.PrintMore

def ofL (l : List UInt8) : ByteArray := ⟨l.toArray⟩
theorem ofL_append (a b : List UInt8) : ofL a ++ ofL b = ofL (a ++ b) := by
  apply ByteArray.ext
  apply Array.toList_inj.1
  simp [ofL, ByteArray.data_append]
theorem ofL_size (l : List UInt8) : (ofL l).size = l.length := by
  show l.toArray.size = l.length
  simp
theorem ofL_toList (l : List UInt8) : (ofL l).toList = l := by
  rw [toList_data]
  rfl
theorem ofL_data (s : ByteArray) : ofL s.data.toList = s := by
  apply ByteArray.ext
  apply Array.toList_inj.1
  rfl
theorem strOf_one (c : Int) : strOfNums [c] = ofL [UInt8.ofNat c.toNat] := by
  apply ByteArray.ext
  apply Array.toList_inj.1
  rw [strOfNums_data]
  rfl
/-- A number's decimal numeral. -/
def decT (n : Int) : ByteArray := ofL (Lib.itoa n)
theorem decT_size (n : Int) (h0 : 0 ≤ n) (h1 : n ≤ 9000000000000000000) : (decT n).size ≤ 19 := by
  unfold decT
  rw [ofL_size]
  unfold Lib.itoa
  rw [if_neg (by omega), Lib.decDigits_length]
  have key : ∀ (d u : Nat), u < 10 ^ (d + 1) → Lib.nDigits u ≤ d + 1 := by
    intro d
    induction d with
    | zero => intro u hu; rw [Lib.nDigits_small (by simpa using hu)]; omega
    | succ d ih =>
      intro u hu
      by_cases h : u < 10
      · rw [Lib.nDigits_small h]; omega
      · rw [Lib.nDigits_big h]
        have := ih (u / 10) (by rw [Nat.pow_succ] at hu; omega)
        omega
  exact key 18 n.toNat (by omega)
/-- From some number of rounds on it answers, and the answer is as told. -/
def TotP {α : Type} (g : Nat → Option α) (P : α → Prop) : Prop := ∃ r, Ev g r ∧ P r
theorem TotP.bind {α β : Type} {g : Nat → Option α} {f : Nat → α → Option β} {P : α → Prop} {Q : β → Prop} (h : TotP g P) (k : ∀ a, P a → TotP (fun n => f n a) Q) : TotP (fun n => (g n).bind (f n)) Q := by
  obtain ⟨a, ha, pa⟩ := h
  obtain ⟨b, hb, qb⟩ := k a pa
  exact ⟨b, Ev.bind ha hb, qb⟩
theorem TotP.of {α : Type} {x : Option α} {P : α → Prop} (h : ∃ r, x = some r ∧ P r) : TotP (fun _ => x) P := by
  obtain ⟨r, e, p⟩ := h
  exact ⟨r, ev_const e, p⟩
theorem TotP.now {α : Type} {r : α} {P : α → Prop} (p : P r) : TotP (fun _ => some r) P := ⟨r, Ev.now r, p⟩
theorem TotP.imp {α : Type} {g : Nat → Option α} {P Q : α → Prop} (h : TotP g P) (pq : ∀ r, P r → Q r) : TotP g Q := by
  obtain ⟨r, e, p⟩ := h
  exact ⟨r, e, pq r p⟩
theorem TotP.step {α : Type} {g f : Nat → Option α} {P : α → Prop} (h : ∀ k, g (k + 1) = f k) (t : TotP f P) : TotP g P := by
  obtain ⟨r, e, p⟩ := t
  exact ⟨r, Ev.step h e, p⟩
theorem TotP.ite {α : Type} {c : Prop} [Decidable c] {f g : Nat → Option α} {P : α → Prop} (hf : c → TotP f P) (hg : ¬ c → TotP g P) : TotP (fun k => if c then f k else g k) P := by
  by_cases h : c
  · simp only [if_pos h]; exact hf h
  · simp only [if_neg h]; exact hg h
theorem bindOf {α β : Type} {x : Option α} {f : α → Option β} {P : α → Prop} {Q : β → Prop} (h : ∃ r, x = some r ∧ P r) (k : ∀ a, P a → ∃ r, f a = some r ∧ Q r) : ∃ r, x.bind f = some r ∧ Q r := by
  obtain ⟨a, rfl, p⟩ := h
  exact k a p

theorem and255 (a : Int) : 0 ≤ Go.bits .and .i64 a 255 ∧ Go.bits .and .i64 a 255 ≤ 255 := by
  unfold Go.bits
  have h : ((BitVec.ofInt IntKind.i64.bits a) &&& (BitVec.ofInt IntKind.i64.bits 255)).toNat ≤ 255 := by
    rw [BitVec.toNat_and]
    exact Nat.le_trans Nat.and_le_right (by decide)
  show 0 ≤ IntKind.i64.wrap ((((BitVec.ofInt IntKind.i64.bits a) &&& (BitVec.ofInt IntKind.i64.bits 255)).toNat : Nat) : Int) ∧ IntKind.i64.wrap ((((BitVec.ofInt IntKind.i64.bits a) &&& (BitVec.ofInt IntKind.i64.bits 255)).toNat : Nat) : Int) ≤ 255
  generalize ((BitVec.ofInt IntKind.i64.bits a) &&& (BitVec.ofInt IntKind.i64.bits 255)).toNat = n at h ⊢
  rw [IntKind.wrap_i64]
  omega
/-- The cursor's place is no negative number. -/
theorem byte_ok (b : List Int) (i h : Int) (h0 : 0 ≤ i) (hb : b.length ≤ 140737488351232) : ∃ r : Int × Int × Int, spec_l1Byte.f b i h = some r ∧ (0 ≤ r.1 ∧ r.1 ≤ 255 ∧ 0 ≤ r.2.1) := by
  unfold spec_l1Byte.f
  by_cases hi : i < (b.length : Int)
  · rw [if_pos hi, if_pos h0]
    exact ⟨_, rfl, (and255 _).1, (and255 _).2, by show 0 ≤ wrap64 (i + 1); rw [wrap_in (by omega) (by omega)]; omega⟩
  · rw [if_neg hi]
    exact ⟨_, rfl, (and255 _).1, (and255 _).2, h0⟩
theorem below_ok (b : List Int) (i h n : Int) (h0 : 0 ≤ i) (hb : b.length ≤ 140737488351232) :
    ∃ r : Int × Int × Int, spec_l1Below.f b i h n = some r ∧ (0 ≤ r.1 ∧ (0 < n → r.1 < n) ∧ (n ≤ 0 → r.1 = 0) ∧ 0 ≤ r.2.1) := by
  unfold spec_l1Below.f
  by_cases hn : n ≤ 0
  · rw [if_pos hn]
    exact ⟨_, rfl, by show (0 : Int) ≤ 0; omega, fun h => by omega, fun _ => rfl, h0⟩
  · rw [if_neg hn]
    by_cases h2 : n ≤ 256
    · rw [if_pos h2]
      refine bindOf (byte_ok b i h h0 hb) fun r ⟨r0, r1, r2⟩ => ?_
      rw [if_neg (by omega)]
      refine ⟨_, rfl, ?_, fun _ => ?_, fun h => by omega, r2⟩
      · show 0 ≤ Int.tmod r.1 n
        rw [Int.tmod_eq_emod_of_nonneg r0]; exact Int.emod_nonneg _ (by omega)
      · show Int.tmod r.1 n < n
        rw [Int.tmod_eq_emod_of_nonneg r0]; exact Int.emod_lt_of_pos _ (by omega)
    · rw [if_neg h2]
      refine bindOf (byte_ok b i h h0 hb) fun r ⟨r0, r1, r2⟩ => ?_
      refine bindOf (byte_ok b _ _ r2 hb) fun s ⟨s0, s1, s2⟩ => ?_
      refine bindOf (byte_ok b _ _ s2 hb) fun t ⟨t0, t1, t2⟩ => ?_
      refine bindOf (byte_ok b _ _ t2 hb) fun u ⟨u0, u1, u2⟩ => ?_
      rw [if_neg (by omega)]
      rw [wrap_in (i := r.1 * 16777216) (by omega) (by omega), wrap_in (i := s.1 * 65536) (by omega) (by omega), wrap_in (i := r.1 * 16777216 + s.1 * 65536) (by omega) (by omega), wrap_in (i := t.1 * 256) (by omega) (by omega), wrap_in (i := r.1 * 16777216 + s.1 * 65536 + t.1 * 256) (by omega) (by omega), wrap_in (i := r.1 * 16777216 + s.1 * 65536 + t.1 * 256 + u.1) (by omega) (by omega)]
      refine ⟨_, rfl, ?_, fun _ => ?_, fun h => by omega, u2⟩
      · show 0 ≤ Int.tmod _ n
        rw [Int.tmod_eq_emod_of_nonneg (by omega)]; exact Int.emod_nonneg _ (by omega)
      · show Int.tmod _ n < n
        rw [Int.tmod_eq_emod_of_nonneg (by omega)]; exact Int.emod_lt_of_pos _ (by omega)
theorem once_ok (b : List Int) (i h n : Int) (h0 : 0 ≤ i) (hb : b.length ≤ 140737488351232) :
    ∃ r : Bool × Int × Int, spec_l1Once.f b i h n = some r ∧ 0 ≤ r.2.1 := by
  unfold spec_l1Once.f
  exact bindOf (below_ok b i h n h0 hb) fun r ⟨_, _, _, r3⟩ => ⟨_, rfl, r3⟩
theorem new_loop (b : List Int) (hb : b.length ≤ 140737488351232) (d : Nat) : ∀ (i : Nat) (x : Int), i + d = b.length → ∃ h, ∀ k, d < k → spec_l1New.l0 k b x (i : Int) = some (b, 0, h) := by
  induction d with
  | zero =>
    intro i x hd
    refine ⟨x, fun k hk => ?_⟩
    obtain ⟨k, rfl⟩ : ∃ z, k = z + 1 := ⟨k - 1, by omega⟩
    simp only [spec_l1New.l0]
    rw [if_neg (by omega)]
  | succ d ih =>
    intro i x hd
    obtain ⟨h, hh⟩ := ih (i + 1) (Go.bits .and .i64 (wrap64 ((wrap64 ((wrap64 (x * 137)) + (wrap64 (rd b (i : Int))))) + 11)) 1073741823) (by omega)
    refine ⟨h, fun k hk => ?_⟩
    obtain ⟨k, rfl⟩ : ∃ z, k = z + 1 := ⟨k - 1, by omega⟩
    simp only [spec_l1New.l0]
    rw [if_pos (by omega), if_pos (by omega), wrap_in (i := (i : Int) + 1) (by omega) (by omega)]
    exact hh k (by omega)
theorem new_ok (b : List Int) (hb : b.length ≤ 140737488351232) : TotP (fun k => spec_l1New.f k b) (fun r => r.1 = b ∧ 0 ≤ r.2.1) := by
  obtain ⟨h, hh⟩ := new_loop b hb b.length 0 (wrap64 (109013 + (b.length : Int))) (by omega)
  refine ⟨(b, 0, h), ⟨b.length + 1, fun k hk => ?_⟩, rfl, by show (0 : Int) ≤ 0; omega⟩
  unfold spec_l1New.f
  exact hh k (by omega)
theorem strOfNums_size (l : List Int) : (strOfNums l).size = l.length := by
  show (strOfNums l).data.size = _
  rw [← Array.length_toList, strOfNums_data, List.length_map]
theorem drawText_end (b : List Int) (hb : b.length ≤ 140737488351232) (x : List Int) (i h : Int) (h0 : 0 ≤ i) (k : Nat) : ∃ r, spec_l1DrawText.j1 (k + 1) x (decide ((x.length : Int) > 0)) b i h = some r ∧ (0 ≤ r.2.1 ∧ r.1.size = x.length) := by
  simp only [spec_l1DrawText.j1]
  by_cases hx : (x.length : Int) > 0
  · rw [decide_eq_true hx, if_pos rfl]
    refine bindOf (below_ok b i h _ h0 hb) fun r0 p0 => ?_
    refine bindOf (byte_ok b _ _ p0.2.2.2 hb) fun r1 p1 => ?_
    rw [if_pos p0.1, if_pos (p0.2.1 (by omega))]
    exact ⟨_, rfl, p1.2.2, by show (strOfNums _).size = _; rw [strOfNums_size, List.length_set]⟩
  · rw [decide_eq_false hx, if_neg (by simp)]
    exact ⟨_, rfl, h0, by show (strOfNums _).size = _; rw [strOfNums_size]⟩
theorem drawText_stop (b : List Int) (hb : b.length ≤ 140737488351232) (x : List Int) (i h : Int) (h0 : 0 ≤ i) (k : Nat) : ∃ r, spec_l1DrawText.j1 (k + 1) x false b i h = some r ∧ (0 ≤ r.2.1 ∧ r.1.size = x.length) := by
  simp only [spec_l1DrawText.j1]
  rw [if_neg (by simp)]
  exact ⟨_, rfl, h0, by show (strOfNums _).size = _; rw [strOfNums_size]⟩
theorem drawText_loop (b : List Int) (hb : b.length ≤ 140737488351232) (signs : ByteArray) (hs : 0 < signs.size) (d : Nat) : ∀ (x : List Int) (i h : Int), 0 ≤ i → x.length + d ≤ 1000000 →
    ∃ r, (0 ≤ r.2.1 ∧ r.1.size = x.length + d) ∧ ∀ k, d + 1 < k → spec_l1DrawText.l0 k signs x (d : Int) b i h = some r := by
  induction d with
  | zero =>
    intro x i h h0 hd
    obtain ⟨r0, e0, p0⟩ := once_ok b i h 14 h0 hb
    by_cases hc : r0.1 = true
    · obtain ⟨r1, _, p1⟩ := drawText_end b hb x r0.2.1 r0.2.2 p0 0
      refine ⟨r1, p1, fun k hk => ?_⟩
      obtain ⟨k, rfl⟩ : ∃ z, k = z + 2 := ⟨k - 2, by omega⟩
      simp only [spec_l1DrawText.l0]
      rw [if_neg (by omega), e0]
      simp only [Option.bind_some]
      rw [if_pos hc]
      obtain ⟨r2, e2, _⟩ := drawText_end b hb x r0.2.1 r0.2.2 p0 k
      have e3 : spec_l1DrawText.j1 (k + 1) x (decide ((x.length : Int) > 0)) b r0.2.1 r0.2.2 = spec_l1DrawText.j1 (0 + 1) x (decide ((x.length : Int) > 0)) b r0.2.1 r0.2.2 := by simp only [spec_l1DrawText.j1]
      rw [e3]
      assumption
    · refine ⟨(strOfNums x, r0.2.1, r0.2.2), ⟨p0, by show (strOfNums x).size = _; rw [strOfNums_size]; rfl⟩, fun k hk => ?_⟩
      obtain ⟨k, rfl⟩ : ∃ z, k = z + 2 := ⟨k - 2, by omega⟩
      simp only [spec_l1DrawText.l0]
      rw [if_neg (by omega), e0]
      simp only [Option.bind_some]
      rw [if_neg hc]
      simp only [spec_l1DrawText.j1]
      rw [if_neg (by simp)]
  | succ d ih =>
    intro x i h h0 hd
    obtain ⟨r0, e0, p0⟩ := below_ok b i h (signs.size : Int) h0 hb
    obtain ⟨r, p, hr⟩ := ih (x ++ [bt signs r0.1]) r0.2.1 r0.2.2 p0.2.2.2 (by rw [List.length_append, List.length_singleton]; omega)
    refine ⟨r, ⟨p.1, by rw [p.2, List.length_append, List.length_singleton]; omega⟩, fun k hk => ?_⟩
    obtain ⟨k, rfl⟩ : ∃ z, k = z + 1 := ⟨k - 1, by omega⟩
    simp only [spec_l1DrawText.l0]
    rw [if_pos (by omega), e0]
    simp only [Option.bind_some]
    rw [if_pos p0.1, if_pos (p0.2.1 (by omega)), if_pos (by omega), wrap_in (i := ((d + 1 : Nat) : Int) - 1) (by omega) (by omega), show ((d + 1 : Nat) : Int) - 1 = (d : Int) by omega]
    exact hr k (by omega)
theorem drawText_ok (b : List Int) (hb : b.length ≤ 140737488351232) (i h : Int) (h0 : 0 ≤ i) (signs : ByteArray) (hs : 0 < signs.size) (m : Int) (m0 : 0 ≤ m) (m1 : m ≤ 1000) :
    TotP (fun k => spec_l1DrawText.f k b i h signs m) (fun r => 0 ≤ r.2.1 ∧ r.1.size ≤ m.toNat) := by
  unfold spec_l1DrawText.f
  rw [wrap_in (i := m + 1) (by omega) (by omega)]
  refine TotP.bind (TotP.of (below_ok b i h _ h0 hb)) fun r0 p0 => ?_
  obtain ⟨r, p, hr⟩ := drawText_loop b hb signs hs r0.1.toNat [] r0.2.1 r0.2.2 p0.2.2.2 (by have := p0.2.1 (by omega); simp only [List.length_nil]; omega)
  refine ⟨r, ⟨r0.1.toNat + 2, fun k hk => ?_⟩, p.1, by rw [p.2]; have := p0.2.1 (by omega); simp only [List.length_nil]; omega⟩
  have := hr k (by omega)
  rw [Int.toNat_of_nonneg p0.1] at this
  exact this
theorem rd_byte (b : List Int) (hx : ∀ x ∈ b, 0 ≤ x ∧ x ≤ 255) (i : Int) : 0 ≤ rd b i ∧ rd b i ≤ 255 := by
  unfold rd
  rw [List.getD_eq_getElem?_getD]
  cases h : b[i.toNat]? with
  | none => exact ⟨by decide, by decide⟩
  | some v => exact hx v (List.mem_of_getElem? h)
theorem pick_loop (b : List Int) (hb : b.length ≤ 140737488351232) (hx : ∀ x ∈ b, 0 ≤ x ∧ x ≤ 255) (s n : Int) (hs : 0 ≤ s ∧ s ≤ 1000) (hn : 0 < n) (d : Nat) : ∀ (i : Nat) (x : Int), i + d = b.length → 0 ≤ x → x ≤ 9000000000000000 → (∃ r, (0 ≤ r ∧ r < n) ∧ ∀ k, d < k → laws_pick.l0 k b s n x (i : Int) = some r) := by
  induction d with
  | zero =>
    intro i x hd x0 x1
    refine ⟨Int.tmod x n, ?_, fun k hk => ?_⟩
    · rw [Int.tmod_eq_emod_of_nonneg x0]; exact ⟨Int.emod_nonneg _ (by omega), Int.emod_lt_of_pos _ hn⟩
    obtain ⟨k, rfl⟩ : ∃ z, k = z + 1 := ⟨k - 1, by omega⟩
    simp only [laws_pick.l0]
    rw [if_neg (by omega), if_neg (by omega)]
  | succ d ih =>
    intro i x hd x0 x1
    have hr := rd_byte b hx (i : Int)
    have e : wrap64 ((wrap64 ((wrap64 (x * 113)) + (wrap64 (rd b (i : Int))))) + s) = x * 113 + rd b (i : Int) + s := by
      rw [wrap_in (i := x * 113) (by omega) (by omega), wrap_in (i := rd b (i : Int)) (by omega) (by omega), wrap_in (i := x * 113 + rd b (i : Int)) (by omega) (by omega), wrap_in (by omega) (by omega)]
    have e1 : 0 ≤ Int.tmod (x * 113 + rd b (i : Int) + s) 1000003 ∧ Int.tmod (x * 113 + rd b (i : Int) + s) 1000003 ≤ 9000000000000000 := by
      rw [Int.tmod_eq_emod_of_nonneg (by omega)]
      omega
    obtain ⟨r, p, hr⟩ := ih (i + 1) (Int.tmod (x * 113 + rd b (i : Int) + s) 1000003) (by omega) e1.1 e1.2
    refine ⟨r, p, fun k hk => ?_⟩
    obtain ⟨k, rfl⟩ : ∃ z, k = z + 1 := ⟨k - 1, by omega⟩
    simp only [laws_pick.l0]
    rw [if_pos (by omega), if_pos (by omega), wrap_in (i := (i : Int) + 1) (by omega) (by omega), e]
    exact hr k (by omega)
theorem pick_ok (b : List Int) (hb : b.length ≤ 140737488351232) (hx : ∀ x ∈ b, 0 ≤ x ∧ x ≤ 255) (s n : Int) (hs : 0 ≤ s ∧ s ≤ 1000) (hn : 0 < n) : TotP (fun k => laws_pick.f k b s n) (fun r => 0 ≤ r ∧ r < n) := by
  have e : wrap64 ((b.length : Int) + (wrap64 (7919 * s))) = b.length + 7919 * s := by rw [wrap_in (i := 7919 * s) (by omega) (by omega), wrap_in (by omega) (by omega)]
  obtain ⟨r, p, hr⟩ := pick_loop b hb hx s n hs hn b.length 0 ((b.length : Int) + 7919 * s) (by omega) (by omega) (by omega)
  refine ⟨r, ⟨b.length + 1, fun k hk => ?_⟩, p⟩
  unfold laws_pick.f
  rw [e]
  exact hr k (by omega)
theorem bytes_extract (s : ByteArray) (a b : Nat) : bytesOf (s.extract a b) = ((bytesOf s).drop a).take (b - a) := by
  unfold bytesOf
  rw [Lib.extract_data, List.map_take, List.map_drop]
theorem bytes_last (s : ByteArray) (h : 0 < s.size) : bytesOf s = bytesOf (s.extract 0 (s.size - 1)) ++ [bt s ((s.size - 1 : Nat) : Int)] := by
  rw [bytes_extract, List.drop_zero, Nat.sub_zero]
  have h1 := drop_bt s (s.size - 1) (by omega)
  have h2 : (bytesOf s).drop (s.size - 1 + 1) = [] := List.drop_of_length_le (by rw [bytesOf_length]; omega)
  rw [h2] at h1
  rw [← h1, List.take_append_drop]
theorem bytes_first (s : ByteArray) (h : 0 < s.size) : bytesOf s = bt s 0 :: bytesOf (s.extract 1 s.size) := by
  rw [bytes_extract]
  have h1 := drop_bt s 0 h
  rw [List.drop_zero] at h1
  rw [List.take_of_length_le (by rw [List.length_drop, bytesOf_length]; exact Nat.le_refl _)]
  exact h1
theorem size_extract (s : ByteArray) (a b : Nat) (hb : b ≤ s.size) : (s.extract a b).size = b - a := by
  rw [← bytesOf_length, bytes_extract, List.length_take, List.length_drop, bytesOf_length]
  omega
theorem toList_nil (s : ByteArray) : s.toList = [] ↔ s.size = 0 := by
  rw [toList_data, ← data_length]
  exact List.length_eq_zero_iff.symm
theorem bytes_nil (s : ByteArray) (h : s.size = 0) : bytesOf s = [] := List.eq_nil_of_length_eq_zero (by rw [bytesOf_length]; exact h)
theorem bytes_ofList (l : List UInt8) : bytesOf ⟨l.toArray⟩ = l.map fun b => (b.toNat : Int) := by
  unfold bytesOf
  rfl
theorem bytes_two (s : ByteArray) (i : Nat) (h : i + 2 ≤ s.size) : bytesOf (s.extract i (i + 2)) = [bt s (i : Int), bt s ((i + 1 : Nat) : Int)] := by
  rw [bytes_extract, drop_bt s i (by omega), drop_bt s (i + 1) (by omega), show i + 2 - i = 2 from by omega]
  rfl
theorem cut_nil (sub : List UInt8) (h : sub ≠ []) : Lib.cut [] sub = ([], [], false) := by
  unfold Lib.cut Lib.index
  cases sub with
  | nil => exact absurd rfl h
  | cons a t => rfl
theorem cut_cons (b : UInt8) (l sub : List UInt8) : Lib.cut (b :: l) sub = if sub.isPrefixOf (b :: l) = true then ([], (b :: l).drop sub.length, true) else if (Lib.cut l sub).2.2 = true then (b :: (Lib.cut l sub).1, (Lib.cut l sub).2.1, true) else (b :: l, [], false) := by
  have hge := Lib.index_ge l sub
  unfold Lib.cut
  by_cases h : sub.isPrefixOf (b :: l) = true
  · have e : Lib.index (b :: l) sub = 0 := by unfold Lib.index; rw [if_pos h]
    rw [e, if_pos h]
    simp
  · rw [if_neg h]
    by_cases h2 : 0 ≤ Lib.index l sub
    · have e : Lib.index (b :: l) sub = Lib.index l sub + 1 := by
        rw [Lib.index, if_neg h, if_neg]
        rw [beq_iff_eq]
        omega
      obtain ⟨n, hn⟩ : ∃ n : Nat, Lib.index l sub = (n : Int) := ⟨(Lib.index l sub).toNat, by omega⟩
      have e2 : ((n : Int) + 1).toNat = n + 1 := by omega
      simp only [e, hn, if_pos (show (0 : Int) ≤ (n : Int) by omega), if_pos (show (0 : Int) ≤ (n : Int) + 1 by omega), e2, Int.toNat_natCast, if_true]
      rw [show n + 1 + sub.length = (n + sub.length) + 1 by omega]
      rfl
    · have e : Lib.index (b :: l) sub = -1 := by
        rw [Lib.index, if_neg h, if_pos]
        rw [beq_iff_eq]
        omega
      rw [e, if_neg (by omega), if_neg h2]
      simp
theorem pre_one (c b : UInt8) (l : List UInt8) : ([c] : List UInt8).isPrefixOf (b :: l) = (c == b) := by simp [List.isPrefixOf]
/-- A cut at one byte: where it was found, the text is what stood ahead of it, it, and what stands behind. -/
theorem cut_one_found (c : UInt8) (l : List UInt8) : (Lib.cut l [c]).2.2 = true → l = (Lib.cut l [c]).1 ++ c :: (Lib.cut l [c]).2.1 := by
  induction l with
  | nil => rw [cut_nil [c] (by simp)]; intro h; cases h
  | cons b l ih =>
    rw [cut_cons, pre_one]
    by_cases h : (c == b) = true
    · rw [if_pos h]
      intro _
      rw [beq_iff_eq.1 h]
      rfl
    · rw [if_neg h]
      by_cases h2 : (Lib.cut l [c]).2.2 = true
      · rw [if_pos h2]
        intro _
        show b :: l = b :: ((Lib.cut l [c]).1 ++ c :: (Lib.cut l [c]).2.1)
        rw [← ih h2]
      · rw [if_neg h2]
        intro h3
        cases h3
theorem cut_one_not (c : UInt8) (l : List UInt8) : (Lib.cut l [c]).2.2 = false → c ∉ l := by
  induction l with
  | nil => intro _ h; cases h
  | cons b l ih =>
    rw [cut_cons, pre_one]
    by_cases h : (c == b) = true
    · rw [if_pos h]
      intro h3
      cases h3
    · rw [if_neg h]
      by_cases h2 : (Lib.cut l [c]).2.2 = true
      · rw [if_pos h2]
        intro h3
        cases h3
      · intro _ hm
        rcases List.mem_cons.1 hm with hm | hm
        · exact h (beq_iff_eq.2 hm)
        · exact ih (by simpa using h2) hm
/-- A line up to 13, 10, without another 13 or 10, and what stands behind. -/
def lineOf : List UInt8 → Option (List UInt8 × List UInt8)
  | [] => none
  | c :: r => if c = 10 then none else if c = 13 then (match r with | d :: q => if d = 10 then some ([], q) else none | [] => none) else (lineOf r).map fun x => (c :: x.1, x.2)
theorem line_cut (s : List UInt8) : (∀ l q, lineOf s = some (l, q) → Lib.cut s [13, 10] = (l, q, true) ∧ s = l ++ 13 :: 10 :: q) ∧ (lineOf s = none → (Lib.cut s [13, 10]).2.2 = true → (13 : UInt8) ∈ (Lib.cut s [13, 10]).1 ∨ (10 : UInt8) ∈ (Lib.cut s [13, 10]).1) := by
  induction s with
  | nil => exact ⟨fun l q h => by simp [lineOf] at h, fun _ h => by rw [cut_nil _ (by simp)] at h; cases h⟩
  | cons c r ih =>
    rw [cut_cons]
    by_cases h10 : c = 10
    · have hp : ¬ (([13, 10] : List UInt8).isPrefixOf (c :: r) = true) := by rw [h10]; simp [List.isPrefixOf]
      rw [if_neg hp]
      refine ⟨fun l q h => by simp [lineOf, h10] at h, fun _ h => ?_⟩
      by_cases h2 : (Lib.cut r [13, 10]).2.2 = true
      · rw [if_pos h2]
        exact .inr (by rw [h10]; exact List.mem_cons_self)
      · rw [if_neg h2] at h
        cases h
    · by_cases h13 : c = 13
      · cases r with
        | nil =>
          have hp : ¬ (([13, 10] : List UInt8).isPrefixOf [c] = true) := by simp [List.isPrefixOf]
          rw [if_neg hp, cut_nil _ (by simp)]
          exact ⟨fun l q h => by simp [lineOf, h10, h13] at h, fun _ h => by cases h⟩
        | cons d q =>
          by_cases hd : d = 10
          · have hp : ([13, 10] : List UInt8).isPrefixOf (c :: d :: q) = true := by rw [h13, hd]; simp [List.isPrefixOf]
            rw [if_pos hp]
            refine ⟨fun l q' h => ?_, fun h => by simp [lineOf, h13, hd] at h⟩
            simp [lineOf, h13, hd] at h
            obtain ⟨rfl, rfl⟩ := h
            exact ⟨rfl, by rw [h13, hd]; rfl⟩
          · have hp : ¬ (([13, 10] : List UInt8).isPrefixOf (c :: d :: q) = true) := by
              rw [h13]
              simp [List.isPrefixOf]
              exact fun e => hd e.symm
            rw [if_neg hp]
            refine ⟨fun l q' h => by simp [lineOf, h13, hd] at h, fun _ h => ?_⟩
            by_cases h2 : (Lib.cut (d :: q) [13, 10]).2.2 = true
            · rw [if_pos h2]
              exact .inl (by rw [h13]; exact List.mem_cons_self)
            · rw [if_neg h2] at h
              cases h
      · have hp : ¬ (([13, 10] : List UInt8).isPrefixOf (c :: r) = true) := by
          simp [List.isPrefixOf]
          exact fun e => absurd e.symm h13
        rw [if_neg hp]
        have e : lineOf (c :: r) = (lineOf r).map fun x => (c :: x.1, x.2) := by
          rw [lineOf.eq_def]
          simp only [if_neg h10, if_neg h13]
        rw [e]
        constructor
        · intro l q h
          cases hr : lineOf r with
          | none => rw [hr] at h; cases h
          | some x =>
            rw [hr] at h
            obtain ⟨a, b⟩ := x
            obtain ⟨h1, h2⟩ := ih.1 a b hr
            rw [h1]
            simp only [Option.map_some, Option.some.injEq, Prod.mk.injEq] at h
            obtain ⟨rfl, rfl⟩ := h
            exact ⟨by simp, by rw [h2]; rfl⟩
        · intro h hf
          have hr : lineOf r = none := by
            cases hr : lineOf r with
            | none => rfl
            | some x => rw [hr] at h; cases h
          by_cases h2 : (Lib.cut r [13, 10]).2.2 = true
          · rw [if_pos h2]
            rcases ih.2 hr h2 with h3 | h3
            · exact .inl (List.mem_cons_of_mem _ h3)
            · exact .inr (List.mem_cons_of_mem _ h3)
          · rw [if_neg h2] at hf
            cases hf
theorem drop_u8 (s : ByteArray) (i : Nat) (h : i < s.size) : ∃ c : UInt8, s.data.toList.drop i = c :: s.data.toList.drop (i + 1) ∧ bt s (i : Int) = (c.toNat : Int) := by
  have h1 : i < s.data.toList.length := by rw [Array.length_toList]; exact h
  refine ⟨s.data.toList[i]'h1, List.drop_eq_getElem_cons h1, ?_⟩
  have := bt_get s i h
  unfold bytesOf at this
  rw [List.getElem?_map, List.getElem?_eq_getElem h1] at this
  exact (Option.some.inj this).symm
theorem u8_eq (c : UInt8) (n : Nat) (hn : n < 256) : ((c.toNat : Int) = (n : Int)) ↔ c = UInt8.ofNat n := by
  constructor
  · intro h
    apply UInt8.toNat_inj.1
    rw [UInt8.toNat_ofNat']
    omega
  · rintro rfl
    rw [UInt8.toNat_ofNat']
    omega
/-- A piece ahead of the first piece. -/
def glue (p : List UInt8) : List (List UInt8) → List (List UInt8)
  | [] => [p]
  | q :: qs => (p ++ q) :: qs
/-- The pieces between the bytes c. -/
def spl (c : UInt8) : List UInt8 → List (List UInt8)
  | [] => [[]]
  | b :: l => if b = c then [] :: spl c l else glue [b] (spl c l)
theorem glue_ne (p : List UInt8) (l : List (List UInt8)) : glue p l ≠ [] := by cases l <;> simp [glue]
theorem spl_ne (c : UInt8) (l : List UInt8) : spl c l ≠ [] := by
  cases l with
  | nil => simp [spl]
  | cons b l => unfold spl; split; simp; exact glue_ne _ _
theorem glue_nil (l : List (List UInt8)) (h : l ≠ []) : glue [] l = l := by cases l; exact absurd rfl h; rfl
theorem glue_glue (p q : List UInt8) (l : List (List UInt8)) (h : l ≠ []) : glue p (glue q l) = glue (p ++ q) l := by
  cases l with
  | nil => exact absurd rfl h
  | cons a l => simp [glue]
theorem splitK_spl (c : UInt8) (l : List UInt8) : Lib.splitK [c] 0 (Lib.count l [c]) l = spl c l := by
  induction l with
  | nil => rw [Lib.count_miss (by simp [Lib.index])]; rfl
  | cons b l ih =>
    unfold spl
    by_cases h : b = c
    · subst h
      have hix : Lib.index (b :: l) [b] = 0 := by rw [Lib.index]; simp [List.isPrefixOf]
      rw [if_pos rfl, Lib.count_cons_eq, Nat.add_comm, Lib.splitK, if_neg (by rw [hix]; decide), hix, ← ih]
      rfl
    · rw [if_neg h, Lib.count_cons_ne b c l h, ← ih]
      have hp : ([c] : List UInt8).isPrefixOf (b :: l) = false := by simp [List.isPrefixOf, Ne.symm h]
      have hix : Lib.index (b :: l) [c] = if Lib.index l [c] == -1 then -1 else Lib.index l [c] + 1 := by rw [Lib.index, hp]; simp
      cases hk : Lib.count l [c] with
      | zero => rfl
      | succ k =>
        have hm : Lib.index l [c] ≠ -1 := fun e => by rw [Lib.count_miss e] at hk; cases hk
        have hge := Lib.index_ge l [c]
        obtain ⟨j, hj⟩ : ∃ j : Nat, Lib.index l [c] = j := ⟨(Lib.index l [c]).toNat, by omega⟩
        have hb : (Lib.index l [c] == -1) = false := by simpa using hm
        rw [hb] at hix
        simp only [Bool.false_eq_true, if_false] at hix
        rw [Lib.splitK, Lib.splitK, if_neg (show ¬ (Lib.index (b :: l) [c] == -1) = true by rw [hix, hj]; simp; omega), if_neg (show ¬ (Lib.index l [c] == -1) = true by rw [hb]; decide), hix, hj]
        rw [show ((j : Int) + 1).toNat = j + 1 by omega, Int.toNat_natCast]
        rfl
theorem split_is (s : ByteArray) (c : UInt8) (h : s.size < 4294967281) : strings_Split.f s ⟨#[c]⟩ = some ((spl c s.data.toList).map ofL) := by
  unfold strings_Split.f
  rw [if_pos ⟨h, Nat.le_refl _⟩]
  congr 1
  have e := Lib.splitB_data (⟨#[c]⟩ : ByteArray) 0 (Lib.countB s ⟨#[c]⟩) s
  have e2 : Lib.splitK (⟨#[c]⟩ : ByteArray).data.toList 0 (Lib.countB s ⟨#[c]⟩) s.data.toList = spl c s.data.toList := splitK_spl c s.data.toList
  rw [← e2, ← e, List.map_map]
  refine (List.map_id _).symm.trans (List.map_congr_left fun x _ => ?_)
  exact (ofL_data x).symm
theorem extract_ofL (s : ByteArray) (f i : Nat) : s.extract f i = ofL ((s.data.toList.drop f).take (i - f)) := by
  apply ByteArray.ext
  apply Array.toList_inj.1
  rw [Lib.extract_data]
  rfl
theorem bt_data (s : ByteArray) (i : Nat) (h : i < s.data.toList.length) : bt s (i : Int) = ((s.data.toList[i].toNat : Nat) : Int) := by
  have h1 : i < s.size := by show i < s.data.size; rw [← Array.length_toList]; exact h
  have e := bt_get s i h1
  unfold bytesOf at e
  rw [List.getElem?_map, List.getElem?_eq_getElem h] at e
  exact (Option.some.inj e).symm
theorem l3Split_loop (s : ByteArray) (c : UInt8) (hs : s.size ≤ 1000000) (d : Nat) : ∀ (i f : Nat) (out : List ByteArray), i + d = s.size → f ≤ i → out.length ≤ i →
    ∀ k, d + 2 ≤ k → spec_l3Split.l0 k s (c.toNat : Int) out (f : Int) (i : Int) = some (out ++ (glue ((s.data.toList.drop f).take (i - f)) (spl c (s.data.toList.drop i))).map ofL) := by
  have hl : s.data.toList.length = s.size := Array.length_toList
  induction d with
  | zero =>
    intro i f out hd hf ho k hk
    obtain ⟨k, rfl⟩ : ∃ z, k = z + 2 := ⟨k - 2, by omega⟩
    have e : i = s.size := by omega
    subst e
    simp only [spec_l3Split.l0]
    rw [if_pos (by omega), if_pos trivial, if_pos (by omega), if_pos (by omega), if_pos (by omega), wrap_in (i := (s.size : Int) + 1) (by omega) (by omega), if_neg (by omega)]
    rw [List.drop_of_length_le (Nat.le_of_eq hl), Int.toNat_natCast, Int.toNat_natCast, extract_ofL]
    simp [spl, glue]
  | succ d ih =>
    intro i f out hd hf ho k hk
    obtain ⟨k, rfl⟩ : ∃ z, k = z + 1 := ⟨k - 1, by omega⟩
    have hi : i < s.data.toList.length := by omega
    have hb := bt_data s i hi
    simp only [spec_l3Split.l0]
    rw [if_pos (by omega), if_neg (by omega), if_pos (by omega), if_pos (by omega), hb, List.drop_eq_getElem_cons hi]
    generalize hbb : s.data.toList[i] = b
    have hc : ((b.toNat : Nat) : Int) = ((c.toNat : Nat) : Int) ↔ b = c := ⟨fun h => UInt8.toNat_inj.1 (by omega), fun h => by rw [h]⟩
    unfold spl
    by_cases h : b = c
    · rw [if_pos (hc.2 h), if_pos h, if_pos (by omega), if_pos (by omega), if_pos (by omega), wrap_in (i := (i : Int) + 1) (by omega) (by omega), show ((i : Int) + 1) = ((i + 1 : Nat) : Int) by omega]
      rw [ih (i + 1) (i + 1) _ (by omega) (Nat.le_refl _) (by rw [List.length_append, List.length_singleton]; omega) k (by omega)]
      rw [Nat.sub_self, List.take_zero, glue_nil _ (spl_ne _ _), Int.toNat_natCast, Int.toNat_natCast, extract_ofL, List.append_assoc]
      simp [glue]
    · rw [if_neg (fun e => h (hc.1 e)), if_neg h, wrap_in (i := (i : Int) + 1) (by omega) (by omega), show ((i : Int) + 1) = ((i + 1 : Nat) : Int) by omega]
      rw [ih (i + 1) f _ (by omega) (by omega) (by omega) k (by omega), glue_glue _ _ _ (spl_ne _ _)]
      have e : (s.data.toList.drop f).take (i + 1 - f) = (s.data.toList.drop f).take (i - f) ++ [b] := by
        rw [show i + 1 - f = (i - f) + 1 by omega, List.take_add_one, List.getElem?_drop, show f + (i - f) = i by omega, List.getElem?_eq_getElem hi, hbb]
        rfl
      rw [e]
theorem l3Split_ev (s : ByteArray) (c : UInt8) (hs : s.size ≤ 1000000) : Ev (fun k => spec_l3Split.f k s (c.toNat : Int)) ((spl c s.data.toList).map ofL) := by
  refine ⟨s.size + 2, fun k hk => ?_⟩
  unfold spec_l3Split.f
  have := l3Split_loop s c hs s.size 0 0 [] (by omega) (Nat.le_refl _) (Nat.zero_le _) k hk
  rw [Nat.sub_self, List.take_zero, glue_nil _ (spl_ne _ _), List.drop_zero] at this
  exact this
/-- What a part does to the parts that are kept. -/
def dotStep (kept : List ByteArray) (p : ByteArray) : List ByteArray := if p.toList = [46] then kept else if p.toList = [46, 46] then kept.take (kept.length - 1) else kept ++ [p]
/-- What is kept behind all parts; last: the part ahead of them. -/
def dotAll : List ByteArray → ByteArray → List ByteArray → List ByteArray
  | kept, last, [] => if last.toList = [46] ∨ last.toList = [46, 46] then kept ++ [⟨#[]⟩] else kept
  | kept, _, p :: ps => dotAll (dotStep kept p) p ps
def wt (l : List ByteArray) : Nat := (l.map fun p => p.size + 1).sum
theorem wt_append (a b : List ByteArray) : wt (a ++ b) = wt a + wt b := by simp [wt]
theorem wt_cons (p : ByteArray) (l : List ByteArray) : wt (p :: l) = p.size + 1 + wt l := by simp [wt]
theorem wt_take (l : List ByteArray) (n : Nat) : wt (l.take n) ≤ wt l := by
  have : wt l = wt (l.take n) + wt (l.drop n) := by rw [← wt_append, List.take_append_drop]
  omega
theorem wt_len (l : List ByteArray) : l.length ≤ wt l := by
  unfold wt
  induction l with
  | nil => exact Nat.le_refl _
  | cons a l ih => simp only [List.length_cons, List.map_cons, List.sum_cons]; omega
theorem wt_step (kept : List ByteArray) (p : ByteArray) : wt (dotStep kept p) ≤ wt kept + (p.size + 1) := by
  unfold dotStep
  split
  · omega
  · split
    · have := wt_take kept (kept.length - 1); omega
    · rw [wt_append]; simp [wt]
theorem wt_all (ps : List ByteArray) : ∀ (kept : List ByteArray) (last : ByteArray), wt (dotAll kept last ps) ≤ wt kept + wt ps + 1 := by
  induction ps with
  | nil =>
    intro kept last
    unfold dotAll
    split
    · have hz : wt ([⟨#[]⟩] : List ByteArray) = 1 := rfl
      rw [wt_append]; omega
    · omega
  | cons p ps ih =>
    intro kept last
    unfold dotAll
    have h1 := ih (dotStep kept p) p
    have h2 := wt_step kept p
    have h3 : wt (p :: ps) = p.size + 1 + wt ps := by simp [wt]
    omega
/-- The kept parts, each behind a slash. -/
def slashed (l : List ByteArray) : List UInt8 := l.flatMap fun p => 47 :: p.data.toList
theorem slashed_length (l : List ByteArray) : (slashed l).length = wt l := by
  unfold slashed wt
  induction l with
  | nil => rfl
  | cons a l ih =>
    rw [List.flatMap_cons, List.length_append, ih, List.map_cons, List.sum_cons, List.length_cons, Array.length_toList]
    rfl
theorem slashed_join (l : List ByteArray) (h : l ≠ []) : slashed l = 47 :: joinB l ⟨#[47]⟩ := by
  cases l with
  | nil => exact absurd rfl h
  | cons a l =>
    unfold slashed joinB
    rw [List.map_cons, Lib.join_cons, List.flatMap_cons]
    unfold Lib.joinTail
    rw [List.map_map]
    show 47 :: a.data.toList ++ _ = 47 :: (a.data.toList ++ _)
    rw [List.cons_append]
    congr 2
def dotOut (l : List ByteArray) : ByteArray := if l = [] then ofL [47] else ofL (slashed l)
theorem joinB_len (l : List ByteArray) : (joinB l ⟨#[47]⟩).length ≤ wt l := by
  by_cases h : l = []
  · subst h; exact Nat.zero_le _
  · have := slashed_length l
    rw [slashed_join l h] at this
    simp only [List.length_cons] at this
    omega
theorem join_out (l : List ByteArray) (h : wt l ≤ 1000000) : (strings_Join.f l ⟨#[47]⟩).bind (fun t => if 1 + t.size ≤ 9223372036854775807 then some ((⟨#[47]⟩ : ByteArray) ++ t) else none) = some (dotOut l) := by
  have h1 := wt_len l
  have h2 := joinB_len l
  unfold strings_Join.f
  rw [if_pos ⟨by omega, by omega⟩]
  simp only [Option.bind_some]
  have h3 : (⟨(joinB l ⟨#[47]⟩).toArray⟩ : ByteArray).size = (joinB l ⟨#[47]⟩).length := ofL_size _
  rw [if_pos (by omega)]
  congr 1
  have e : ((⟨#[47]⟩ : ByteArray) ++ ⟨(joinB l ⟨#[47]⟩).toArray⟩) = ofL (47 :: joinB l ⟨#[47]⟩) := ofL_append [47] (joinB l ⟨#[47]⟩)
  rw [e]
  unfold dotOut
  by_cases hl : l = []
  · rw [if_pos hl, hl]; rfl
  · rw [if_neg hl, slashed_join l hl]
theorem rd_at (l : List ByteArray) (i : Nat) (h : i < l.length) : rdOf ByteArray.empty l (i : Int) = l[i] := by
  simp [rdOf, List.getD_eq_getElem?_getD, h]
theorem impl_Dotless_loop (ps : List ByteArray) (d : Nat) : ∀ (i : Nat) (kept : List ByteArray) (last : ByteArray), i + d = ps.length → wt kept + wt (ps.drop i) ≤ 900000 → ps.length ≤ 900000 →
    ∀ k, d + 1 ≤ k → impl_Dotless.l0 k kept last ps (ps.length : Int) (i : Int) = some (dotOut (dotAll kept last (ps.drop i))) := by
  induction d with
  | zero =>
    intro i kept last hd hw hp k hk
    obtain ⟨k, rfl⟩ : ∃ z, k = z + 1 := ⟨k - 1, by omega⟩
    have e : i = ps.length := by omega
    have hl := wt_len kept
    have hj := wt_all [] kept last
    simp only [impl_Dotless.l0]
    rw [if_neg (by omega), List.drop_of_length_le (by omega)]
    have hz : wt ([] : List ByteArray) = 0 := rfl
    unfold dotAll at hj ⊢
    by_cases h1 : last.toList = [46]
    · rw [if_pos (.inl h1)] at hj
      rw [if_pos h1, if_pos (by omega), if_pos (.inl h1), join_out _ (by omega)]
    · rw [if_neg h1]
      by_cases h2 : last.toList = [46, 46]
      · rw [if_pos (.inr h2)] at hj
        rw [if_pos h2, if_pos (by omega), if_pos (.inr h2), join_out _ (by omega)]
      · rw [if_neg (by simp [h1, h2])] at hj
        rw [if_neg h2, if_neg (by simp [h1, h2]), join_out _ (by omega)]
  | succ d ih =>
    intro i kept last hd hw hp k hk
    obtain ⟨k, rfl⟩ : ∃ z, k = z + 1 := ⟨k - 1, by omega⟩
    have hi : i < ps.length := by omega
    have hl := wt_len kept
    rw [List.drop_eq_getElem_cons hi] at hw ⊢
    have h3 := wt_cons ps[i] (ps.drop (i + 1))
    have hs := wt_step kept ps[i]
    have step := ih (i + 1) (dotStep kept ps[i]) ps[i] (by omega) (by omega) hp k (by omega)
    simp only [impl_Dotless.l0]
    rw [if_pos (by omega), if_pos (by omega), if_pos (by omega), rd_at ps i hi, wrap_in (i := (i : Int) + 1) (by omega) (by omega), show ((i : Int) + 1) = ((i + 1 : Nat) : Int) by omega]
    unfold dotAll
    unfold dotStep at step ⊢
    by_cases h1 : ps[i].toList = [46]
    · rw [if_pos h1] at step ⊢
      rw [if_pos h1]
      exact step
    · rw [if_neg h1] at step ⊢
      rw [if_neg h1]
      by_cases h2 : ps[i].toList = [46, 46]
      · rw [if_pos h2] at step ⊢
        rw [if_pos h2]
        by_cases h0 : (kept.length : Int) > 0
        · rw [if_pos h0, wrap_in (i := (kept.length : Int) - 1) (by omega) (by omega), if_pos (by omega), if_pos (by omega), show ((kept.length : Int) - 1).toNat = kept.length - 1 by omega]
          exact step
        · rw [if_neg h0]
          have e : kept = [] := List.eq_nil_of_length_eq_zero (by omega)
          subst e
          exact step
      · rw [if_neg h2] at step ⊢
        rw [if_neg h2, if_pos (by omega)]
        exact step
theorem spec_Dotless_end (kept : List ByteArray) (d : Nat) : ∀ (i : Nat) (out : List Int), i + d = kept.length → wt kept ≤ 1000000 → out = (slashed (kept.take i)).map (fun b => ((b.toNat : Nat) : Int)) →
    ∀ k, d + 1 ≤ k → spec_Dotless.l1 k kept out (i : Int) = some (dotOut kept) := by
  induction d with
  | zero =>
    intro i out hd hw ho k hk
    obtain ⟨k, rfl⟩ : ∃ z, k = z + 1 := ⟨k - 1, by omega⟩
    have e : i = kept.length := by omega
    subst e
    simp only [spec_Dotless.l1]
    rw [if_neg (by omega)]
    rw [List.take_length] at ho
    have hlen : out.length = wt kept := by rw [ho, List.length_map, slashed_length]
    have hl := wt_len kept
    unfold dotOut
    by_cases h : kept = []
    · subst h
      rw [if_pos (by rw [hlen]; rfl), if_pos rfl]
      rfl
    · rw [if_neg (by
        have : 0 < kept.length := List.length_pos_iff.2 h
        omega), if_neg h]
      congr 1
      apply eq_of_toList
      rw [toList_data, strOfNums_data, ho, List.map_map, ofL_toList]
      refine (List.map_congr_left fun b _ => ?_).trans (List.map_id _)
      simp
  | succ d ih =>
    intro i out hd hw ho k hk
    obtain ⟨k, rfl⟩ : ∃ z, k = z + 1 := ⟨k - 1, by omega⟩
    have hi : i < kept.length := by omega
    have h1 : wt (kept.take (i + 1)) = wt (kept.take i) + (kept[i].size + 1) := by
      rw [List.take_add_one, List.getElem?_eq_getElem hi, wt_append]
      simp [wt]
    have h2 := wt_take kept (i + 1)
    have hlen : out.length = wt (kept.take i) := by rw [ho, List.length_map, slashed_length]
    have hl := wt_len kept
    simp only [spec_Dotless.l1]
    rw [if_pos (by omega), if_pos (by omega), rd_at kept i hi, if_pos (by omega), if_pos (by rw [ByteArray.size_append, show (⟨#[47]⟩ : ByteArray).size = 1 from rfl]; omega), wrap_in (i := (i : Int) + 1) (by omega) (by omega), show ((i : Int) + 1) = ((i + 1 : Nat) : Int) by omega]
    refine ih (i + 1) _ (by omega) hw ?_ k (by omega)
    rw [ho, List.take_add_one, List.getElem?_eq_getElem hi]
    unfold slashed
    rw [List.flatMap_append, List.map_append]
    congr 1
    unfold bytesOf
    simp [ByteArray.data_append]
theorem spec_Dotless_loop (ps : List ByteArray) (d : Nat) : ∀ (i : Nat) (kept : List ByteArray) (last : ByteArray), i + (d + 1) = ps.length → wt kept + wt (ps.drop i) ≤ 900000 → ps.length ≤ 900000 →
    ∀ k, d + 1 + 900000 + 3 ≤ k → spec_Dotless.l0 k ps kept (i : Int) = some (dotOut (dotAll kept last (ps.drop i))) := by
  have fin : ∀ (kept : List ByteArray), wt kept ≤ 900001 → ∀ k, 900000 + 3 ≤ k → spec_Dotless.l0 k ps kept (ps.length : Int) = some (dotOut kept) := by
    intro kept hw k hk
    obtain ⟨k, rfl⟩ : ∃ z, k = z + 1 := ⟨k - 1, by omega⟩
    have := wt_len kept
    simp only [spec_Dotless.l0]
    rw [if_neg (by omega)]
    exact spec_Dotless_end kept kept.length 0 [] (by omega) (by omega) rfl k (by omega)
  induction d with
  | zero =>
    intro i kept last hd hw hp k hk
    obtain ⟨k, rfl⟩ : ∃ z, k = z + 1 := ⟨k - 1, by omega⟩
    have hi : i < ps.length := by omega
    have hl := wt_len kept
    rw [List.drop_eq_getElem_cons hi] at hw ⊢
    rw [List.drop_of_length_le (show ps.length ≤ i + 1 by omega)] at hw ⊢
    have h3 : wt [ps[i]] = ps[i].size + 1 := by simp [wt]
    have hs := wt_step kept ps[i]
    have hz : wt ([⟨#[]⟩] : List ByteArray) = 1 := rfl
    have step := fun kk (h : wt kk ≤ 900001) => fin kk h k (by omega)
    simp only [spec_Dotless.l0]
    rw [if_pos (by omega), if_pos (by omega), rd_at ps i hi, wrap_in (i := (i : Int) + 1) (by omega) (by omega), show ((i : Int) + 1) = (ps.length : Int) by omega, wrap_in (i := (ps.length : Int) - 1) (by omega) (by omega)]
    simp only [dotAll]
    unfold dotStep at hs ⊢
    by_cases h1 : ps[i].toList = [46]
    · have h2 : ¬ ps[i].toList = [46, 46] := by rw [h1]; decide
      rw [if_pos h1] at hs
      rw [if_neg h2, if_pos h1, if_pos (by omega), if_pos (by omega), if_pos (.inl h1), if_pos h1]
      exact step _ (by rw [wt_append]; omega)
    · rw [if_neg h1] at hs
      by_cases h2 : ps[i].toList = [46, 46]
      · rw [if_pos h2] at hs
        rw [if_pos h2, if_pos (show ps[i].toList = [46] ∨ ps[i].toList = [46, 46] from .inr h2), if_neg h1]
        by_cases h0 : (kept.length : Int) > 0
        · rw [if_pos h0, wrap_in (i := (kept.length : Int) - 1) (by omega) (by omega), if_pos (by omega), if_pos (by omega), show ((kept.length : Int) - 1).toNat = kept.length - 1 by omega]
          simp only [Option.bind_some]
          rw [if_pos (by omega), if_pos (by rw [List.length_take]; omega), if_pos h2]
          exact step (kept.take (kept.length - 1) ++ [⟨#[]⟩]) (by rw [wt_append]; omega)
        · rw [if_neg h0, if_pos (by omega), if_pos (by omega), if_pos h2]
          have e : kept = [] := List.eq_nil_of_length_eq_zero (by omega)
          subst e
          exact step ([] ++ [⟨#[]⟩]) (by decide)
      · rw [if_neg h2] at hs
        rw [if_neg h2, if_neg h1, if_pos (by omega), if_neg (by simp [h1, h2]), if_neg h1, if_neg h2]
        exact step _ (by omega)
  | succ d ih =>
    intro i kept last hd hw hp k hk
    obtain ⟨k, rfl⟩ : ∃ z, k = z + 1 := ⟨k - 1, by omega⟩
    have hi : i < ps.length := by omega
    have hl := wt_len kept
    rw [List.drop_eq_getElem_cons hi] at hw ⊢
    have h3 := wt_cons ps[i] (ps.drop (i + 1))
    have hs := wt_step kept ps[i]
    have step := ih (i + 1) (dotStep kept ps[i]) ps[i] (by omega) (by omega) hp k (by omega)
    simp only [spec_Dotless.l0]
    rw [if_pos (by omega), if_pos (by omega), rd_at ps i hi, wrap_in (i := (i : Int) + 1) (by omega) (by omega), show ((i : Int) + 1) = ((i + 1 : Nat) : Int) by omega, wrap_in (i := (ps.length : Int) - 1) (by omega) (by omega)]
    rw [show dotAll kept last (ps[i] :: ps.drop (i + 1)) = dotAll (dotStep kept ps[i]) ps[i] (ps.drop (i + 1)) from rfl]
    unfold dotStep at step ⊢
    by_cases h1 : ps[i].toList = [46]
    · have h2 : ¬ ps[i].toList = [46, 46] := by rw [h1]; decide
      rw [if_pos h1] at step ⊢
      rw [if_neg h2, if_pos h1, if_neg (by omega)]
      exact step
    · rw [if_neg h1] at step ⊢
      by_cases h2 : ps[i].toList = [46, 46]
      · rw [if_pos h2] at step ⊢
        rw [if_neg h1]
        by_cases h0 : (kept.length : Int) > 0
        · rw [if_pos h0, wrap_in (i := (kept.length : Int) - 1) (by omega) (by omega), if_pos (by omega), if_pos (by omega), show ((kept.length : Int) - 1).toNat = kept.length - 1 by omega]
          simp only [Option.bind_some]
          rw [if_neg (by omega), if_pos h2]
          exact step
        · rw [if_neg h0, if_neg (by omega), if_pos h2]
          have e : kept = [] := List.eq_nil_of_length_eq_zero (by omega)
          subst e
          exact step
      · rw [if_neg h2] at step ⊢
        rw [if_neg h2, if_neg h1, if_pos (by omega)]
        exact step
/-- Is it a path? -/
def pathB (s : ByteArray) : Bool := decide (1 ≤ s.size ∧ bt s 0 = 47 ∧ s.size ≤ 200)
def dotless (s : ByteArray) : ByteArray := if pathB s = true then dotOut (dotAll [] ⟨#[]⟩ ((spl 47 ((s.extract 1 s.size).data.toList)).map ofL)) else ⟨#[]⟩
theorem wt_glue (p : List UInt8) (l : List (List UInt8)) (h : l ≠ []) : wt ((glue p l).map ofL) = p.length + wt (l.map ofL) := by
  cases l with
  | nil => exact absurd rfl h
  | cons a l => simp [glue, wt, ofL_size]; omega
theorem wt_spl (c : UInt8) (l : List UInt8) : wt ((spl c l).map ofL) = l.length + 1 := by
  induction l with
  | nil => rfl
  | cons b l ih =>
    unfold spl
    split
    · have : wt (([] :: spl c l).map ofL) = 1 + wt ((spl c l).map ofL) := by simp [wt, ofL_size]
      rw [this, ih, List.length_cons]; omega
    · rw [wt_glue _ _ (spl_ne _ _), ih]; simp only [List.length_cons, List.length_nil]; omega
theorem bytes_first2 (s : ByteArray) (h : 0 < s.size) : bytesOf s = bt s 0 :: (bytesOf s).drop 1 := by
  have := drop_bt s 0 h
  rw [List.drop_zero] at this
  exact this
theorem spec_l3Path_is (s : ByteArray) : spec_l3Path.f s = some (pathB s) := by
  unfold spec_l3Path.f pathB
  by_cases h : s.size = 0
  · have e : s.toList = [] := (toList_nil s).2 h
    simp only [e]
    simp [h]
  · have e : s.toList ≠ [] := fun x => h ((toList_nil s).1 x)
    have h1 : (0 : Int) < (s.size : Int) := by omega
    have he : ¬ s = ByteArray.empty := by rintro rfl; exact h rfl
    have h2 : 1 ≤ s.size := by omega
    rw [if_neg e, if_pos h1]
    by_cases hb : bt s 0 = 47
    · rw [if_pos hb]
      by_cases hz : s.size ≤ 200
      · rw [decide_eq_true (by omega), decide_eq_true ⟨h2, hb, hz⟩]
      · rw [decide_eq_false (by omega), decide_eq_false (fun x => hz x.2.2)]
    · rw [if_neg hb, decide_eq_false (fun x => hb x.2.1)]
theorem slash_prefix (s : ByteArray) (h : 1 ≤ s.size) : ((s.extract 0 1).toList == [47]) = decide (bt s 0 = 47) := by
  have e : bytesOf (s.extract 0 1) = [bt s 0] := by
    have := bytes_first s h
    rw [bytes_extract, List.drop_zero, this]
    rfl
  have e2 : (s.extract 0 1).toList = [47] ↔ bt s 0 = 47 := by
    constructor
    · intro h2
      have : bytesOf (s.extract 0 1) = [47] := by unfold bytesOf; rw [← toList_data, h2]; rfl
      rw [e] at this
      exact (List.cons.inj this).1
    · intro h2
      have h3 : s.extract 0 1 = ofL [47] := bytes_inj (by rw [e, h2]; rfl)
      rw [h3, ofL_toList]
  by_cases h2 : bt s 0 = 47
  · rw [e2.2 h2, decide_eq_true h2]; rfl
  · rw [decide_eq_false h2, beq_eq_false_iff_ne]
    exact fun h3 => h2 (e2.1 h3)
theorem impl_isPath_is (s : ByteArray) : impl_isPath.f s = some (pathB s) := by
  unfold impl_isPath.f strings_HasPrefix.f stringslite_HasPrefix.f pathB
  have e1 : (⟨#[47]⟩ : ByteArray).size = 1 := rfl
  have e2 : (⟨#[47]⟩ : ByteArray).toList = [47] := ofL_toList [47]
  rw [e1, e2]
  by_cases hz : s.size ≤ 200
  · rw [if_pos (by omega)]
    by_cases h : 1 ≤ s.size
    · rw [if_pos (by omega), if_pos (by omega), if_pos (by omega), show (((1 : Nat) : Int)).toNat = 1 from rfl, slash_prefix s h]
      simp [h, hz]
    · rw [if_neg (by omega)]
      simp [h]
  · rw [if_neg (by omega)]
    simp [hz]
theorem spec_Dotless_ev (s : ByteArray) : Ev (fun k => spec_Dotless.f k s) (dotless s) := by
  unfold spec_Dotless.f dotless
  rw [spec_l3Path_is]
  simp only [Option.bind_some]
  by_cases h : pathB s = true
  · have hp := h
    unfold pathB at hp
    rw [decide_eq_true_eq] at hp
    simp only [if_pos h]
    have h1 : (1 : Int) ≤ (s.size : Int) := by omega
    simp only [if_pos h1]
    have hsz : (s.extract 1 s.size).size = s.size - 1 := size_extract s 1 s.size (Nat.le_refl _)
    refine Ev.bind (l3Split_ev (s.extract 1 s.size) 47 (by omega)) ?_
    have hw := wt_spl 47 (s.extract 1 s.size).data.toList
    rw [Array.length_toList] at hw
    have hw2 : wt ((spl 47 (s.extract 1 s.size).data.toList).map ofL) = (s.extract 1 s.size).size + 1 := hw
    have hl := wt_len ((spl 47 (s.extract 1 s.size).data.toList).map ofL)
    have hne : 0 < ((spl 47 (s.extract 1 s.size).data.toList).map ofL).length := by rw [List.length_map]; exact List.length_pos_iff.2 (spl_ne _ _)
    obtain ⟨d, hd⟩ : ∃ d, 0 + (d + 1) = ((spl 47 (s.extract 1 s.size).data.toList).map ofL).length := ⟨((spl 47 (s.extract 1 s.size).data.toList).map ofL).length - 1, by omega⟩
    have hz : wt ([] : List ByteArray) = 0 := rfl
    exact ⟨d + 1 + 900000 + 3, fun k hk => spec_Dotless_loop _ d 0 [] ⟨#[]⟩ hd (by rw [List.drop_zero]; omega) (by omega) k hk⟩
  · simp only [if_neg h]
    exact Ev.now _
theorem impl_Dotless_ev (s : ByteArray) : Ev (fun k => impl_Dotless.f k s) (dotless s) := by
  unfold impl_Dotless.f dotless
  rw [impl_isPath_is]
  simp only [Option.bind_some]
  by_cases h : pathB s = true
  · have hp := h
    unfold pathB at hp
    rw [decide_eq_true_eq] at hp
    simp only [if_pos h]
    have h1 : (1 : Int) ≤ (s.size : Int) := by omega
    simp only [if_pos h1]
    have hsz : (s.extract 1 s.size).size = s.size - 1 := size_extract s 1 s.size (Nat.le_refl _)
    rw [split_is (s.extract 1 s.size) 47 (by omega)]
    simp only [Option.bind_some]
    have hw := wt_spl 47 (s.extract 1 s.size).data.toList
    rw [Array.length_toList] at hw
    have hw2 : wt ((spl 47 (s.extract 1 s.size).data.toList).map ofL) = (s.extract 1 s.size).size + 1 := hw
    have hl := wt_len ((spl 47 (s.extract 1 s.size).data.toList).map ofL)
    have hz : wt ([] : List ByteArray) = 0 := rfl
    exact ⟨((spl 47 (s.extract 1 s.size).data.toList).map ofL).length + 1, fun k hk => impl_Dotless_loop _ _ 0 [] ⟨#[]⟩ (by omega) (by rw [List.drop_zero]; omega) (by omega) k hk⟩
  · simp only [if_neg h]
    exact Ev.now _
def visB (c : Int) : Bool := decide (32 ≤ c) && decide (c ≤ 126) || decide (c = 9)
def digB (c : Int) : Bool := decide (48 ≤ c) && decide (c ≤ 57)
def letB (c : Int) : Bool := decide (97 ≤ c) && decide (c ≤ 122) || decide (65 ≤ c) && decide (c ≤ 90)
def hexB (c : Int) : Bool := digB c || decide (97 ≤ c) && decide (c ≤ 102) || decide (65 ≤ c) && decide (c ≤ 70)
def tagB (c : Int) : Bool := decide (33 ≤ c) && decide (c ≤ 126) && decide (c ≠ 34)
def tokB (c : Int) : Bool := letB c || digB c || decide (c ∈ [33, 35, 36, 37, 38, 39, 42, 43, 45, 46, 94, 95, 124, 126, 96])
def plaB (c : Int) : Bool := letB c || digB c || decide (c ∈ [45, 46, 95, 126, 47, 58, 64, 33, 36, 38, 39, 40, 41, 42, 43, 44, 59, 61])

theorem impl_isDigit_is (c : Int) : impl_isDigit.f c = some (digB c) := by
  unfold impl_isDigit.f digB
  by_cases h1 : c ≥ 48 <;> simp [h1] <;> omega
theorem impl_isLetter_is (c : Int) : impl_isLetter.f c = some (letB c) := by
  unfold impl_isLetter.f letB
  by_cases h1 : c ≥ 97 <;> by_cases h2 : c ≤ 122 <;> by_cases h3 : c ≥ 65 <;> by_cases h4 : c ≤ 90 <;> simp [h1, h2, h3, h4] <;> omega
theorem impl_isHex_is (c : Int) : impl_isHex.f c = some (hexB c) := by
  unfold impl_isHex.f hexB
  rw [impl_isDigit_is]
  cases h0 : digB c <;> by_cases h1 : c ≥ 97 <;> by_cases h2 : c ≤ 102 <;> by_cases h3 : c ≥ 65 <;> by_cases h4 : c ≤ 70 <;> simp [h1, h2, h3, h4] <;> omega

/-- A law on bytes, tried at each. -/
theorem byte_cases {p : Int → Prop} (h : ∀ n : Fin 256, p (n.val : Int)) (c : Int) (h0 : 0 ≤ c) (h1 : c ≤ 255) : p c := by
  have := h ⟨c.toNat, by omega⟩
  rwa [show ((⟨c.toNat, by omega⟩ : Fin 256).val : Int) = c from by show (c.toNat : Int) = c; omega] at this
theorem impl_TokenOk_1_is (c : Int) (h0 : 0 ≤ c) (h1 : c ≤ 255) : impl_TokenOk_1.f c = some (tokB c) :=
  byte_cases (p := fun c => impl_TokenOk_1.f c = some (tokB c)) (by decide +kernel) c h0 h1
theorem impl_isPlain_is (c : Int) (h0 : 0 ≤ c) (h1 : c ≤ 255) : impl_isPlain.f c = some (plaB c) :=
  byte_cases (p := fun c => impl_isPlain.f c = some (plaB c)) (by decide +kernel) c h0 h1
theorem spec_l1Token_is (c : Int) (h0 : 0 ≤ c) (h1 : c ≤ 255) : spec_l1Token.f c = some (tokB c) :=
  byte_cases (p := fun c => spec_l1Token.f c = some (tokB c)) (by decide +kernel) c h0 h1
theorem spec_l3Plain_is (c : Int) (h0 : 0 ≤ c) (h1 : c ≤ 255) : spec_l3Plain.f c = some (plaB c) :=
  byte_cases (p := fun c => spec_l3Plain.f c = some (plaB c)) (by decide +kernel) c h0 h1
/-- A hexadecimal digit's value, or -1. -/
def hexV (c : Int) : Int := if digB c = true then c - 48 else if 97 ≤ c ∧ c ≤ 102 then c - 87 else if 65 ≤ c ∧ c ≤ 70 then c - 55 else -1
theorem hexV_neg (c : Int) : decide (hexV c < 0) = !hexB c := by
  unfold hexV hexB
  cases h0 : digB c
  · by_cases h1 : 97 ≤ c ∧ c ≤ 102
    · simp [h1]; omega
    · by_cases h2 : 65 ≤ c ∧ c ≤ 70
      · have h1' : (decide (97 ≤ c) && decide (c ≤ 102)) = false := by simp; omega
        simp [h1, h1', h2]; omega
      · have h1' : (decide (97 ≤ c) && decide (c ≤ 102)) = false := by simp; omega
        have h2' : (decide (65 ≤ c) && decide (c ≤ 70)) = false := by simp; omega
        simp [h1, h1', h2, h2']
  · unfold digB at h0
    simp at h0
    simp
    omega
theorem spec_l1Hex_is (c : Int) (h0 : 0 ≤ c) (h1 : c ≤ 255) (k : Nat) (hk : 2 ≤ k) : spec_l1Hex.f k c = some (hexV c) :=
  at_rounds (fun k => spec_l1Hex.mono c k) hk (byte_cases (p := fun c => spec_l1Hex.f 2 c = some (hexV c)) (by decide +kernel) c h0 h1)
/-- 'all' over a predicate. -/
theorem all_hex (s : ByteArray) (hs : s.size ≤ 9223372036854775807) : impl_all.f s 83 = some ((bytesOf s).all hexB) := by
  unfold impl_all.f
  rw [if_pos hs]
  simp only [Nat.reduceEqDiff, if_true, if_false, reduceIte]
  rw [all_congr' fun c hc => (by rw [impl_isHex_is]; cases hexB c <;> rfl : (impl_isHex.f c == some true) = hexB c)]
theorem all_dig (s : ByteArray) (hs : s.size ≤ 9223372036854775807) : impl_all.f s 45 = some ((bytesOf s).all digB) := by
  unfold impl_all.f
  rw [if_pos hs]
  simp only [Nat.reduceEqDiff, if_true, if_false, reduceIte]
  rw [all_congr' fun c hc => (by rw [impl_isDigit_is]; cases digB c <;> rfl : (impl_isDigit.f c == some true) = digB c)]
theorem all_tok (s : ByteArray) (hs : s.size ≤ 9223372036854775807) : impl_all.f s 43 = some ((bytesOf s).all tokB) := by
  unfold impl_all.f
  rw [if_pos hs]
  simp only [Nat.reduceEqDiff, if_true, if_false, reduceIte]
  rw [all_congr' fun c hc => (by rw [impl_TokenOk_1_is c (mem_bytes hc).1 (mem_bytes hc).2]; cases tokB c <;> rfl : (impl_TokenOk_1.f c == some true) = tokB c)]
/-- A digit of sixteen. -/
def capV (c : Int) : Int := bt (⟨#[48, 49, 50, 51, 52, 53, 54, 55, 56, 57, 65, 66, 67, 68, 69, 70]⟩ : ByteArray) c
/-- What a byte is coded as. -/
def codeB (c : Int) : List Int := if plaB c = true then [c] else [37, capV (Int.tdiv c 16 % 256), capV (Int.tmod c 16)]
theorem codeB_length (c : Int) : (codeB c).length ≤ 3 := by unfold codeB; split <;> simp
theorem code_div (c : Int) (h0 : 0 ≤ c) (h1 : c ≤ 255) : 0 ≤ Int.tdiv c 16 % 256 ∧ Int.tdiv c 16 % 256 < 16 ∧ 0 ≤ Int.tmod c 16 ∧ Int.tmod c 16 < 16 := by
  rw [Int.tdiv_eq_ediv_of_nonneg h0, Int.tmod_eq_emod_of_nonneg h0]
  omega
def coded (s : ByteArray) : ByteArray := if s.size ≤ 200 then strOfNums ((bytesOf s).flatMap codeB) else ⟨#[]⟩
theorem spec_l3Coded_ev (s : ByteArray) (hs : s.size ≤ 1048576) : Ev (fun k => spec_l3Coded.f k s) (strOfNums ((bytesOf s).flatMap codeB)) := by
  unfold spec_l3Coded.f
  have h := ev_run (σ := List Int) (β := ByteArray) s (fun st i => st.length ≤ 3 * i) (fun st c => .inl (st ++ codeB c)) strOfNums (fun k st i => spec_l3Coded.l0 k s st i) 0
    (fun k st i _ hi hI => ⟨fun st' e => by
      obtain rfl := Sum.inl.inj e
      have hr := bt_range s i
      have hd := code_div (bt s i) hr.1 hr.2
      have hl := codeB_length (bt s i)
      refine ⟨?_, by rw [List.length_append]; omega⟩
      simp only [spec_l3Coded.l0]
      rw [if_pos (by omega), if_pos (by omega), spec_l3Plain_is _ hr.1 hr.2]
      simp only [Option.bind_some]
      unfold codeB
      by_cases hp : plaB (bt s i) = true
      · rw [if_pos hp, if_pos hp, if_pos (by omega), wrap_next hi (by omega)]
      · rw [if_neg hp, if_neg hp, if_pos hd.1, if_pos hd.2.1, if_pos hd.2.2.1, if_pos hd.2.2.2, if_pos (by simp only [List.length_cons, List.length_nil]; omega), wrap_next hi (by omega)]
        rfl, fun b e => by cases e⟩)
    (fun k st _ hI => by simp only [spec_l3Coded.l0]; rw [if_neg (by omega)]) [] (Nat.le_refl _)
  rw [runL_flat, List.nil_append] at h
  exact h
theorem impl_Coded_ev (s : ByteArray) (hs : s.size ≤ 1048576) : Ev (fun k => impl_Coded.f k s) (coded s) := by
  unfold impl_Coded.f coded
  by_cases h : (s.size : Int) > 200
  · simp only [if_pos h]
    rw [if_neg (by omega)]
    exact Ev.now _
  · simp only [if_neg h]
    rw [if_pos (by omega)]
    have h := ev_run (σ := List Int) (β := ByteArray) s (fun st i => st.length ≤ 3 * i) (fun st c => .inl (st ++ codeB c)) strOfNums (fun k st i => impl_Coded.l0 k s st (s.size : Int) i) 0
      (fun k st i _ hi hI => ⟨fun st' e => by
        obtain rfl := Sum.inl.inj e
        have hr := bt_range s i
        have hd := code_div (bt s i) hr.1 hr.2
        have hl := codeB_length (bt s i)
        refine ⟨?_, by rw [List.length_append]; omega⟩
        simp only [impl_Coded.l0]
        rw [if_pos (by omega), if_pos (by omega), if_pos (by omega), impl_isPlain_is _ hr.1 hr.2]
        simp only [Option.bind_some]
        unfold codeB
        by_cases hp : plaB (bt s i) = true
        · rw [if_pos hp, if_pos hp, if_pos (by omega), wrap_next hi (by omega)]
        · rw [if_neg hp, if_neg hp, if_pos hd.1, if_pos hd.2.1, if_pos hd.2.2.1, if_pos hd.2.2.2, if_pos (by simp only [List.length_cons, List.length_nil]; omega), wrap_next hi (by omega)]
          rfl, fun b e => by cases e⟩)
      (fun k st _ hI => by simp only [impl_Coded.l0]; rw [if_neg (by omega)]) [] (Nat.le_refl _)
    rw [runL_flat, List.nil_append] at h
    exact h
theorem dgt_hex (c : Int) : dgt c = hexV c := by
  unfold dgt hexV digB
  by_cases h : 48 ≤ c ∧ c ≤ 57
  · rw [if_pos h, if_pos (by simp [h])]
  · have hb : (decide (48 ≤ c) && decide (c ≤ 57)) = false := by simp; omega
    rw [if_neg h, hb]
    simp
theorem hexV_lt (c : Int) : hexV c < 16 := by
  rw [← dgt_hex]
  unfold dgt
  split
  · omega
  · split
    · omega
    · split <;> omega
theorem hexB_is (c : Int) : hexB c = (decide (0 ≤ dgt c) && decide (dgt c < 16)) := by
  have h1 := hexV_neg c
  have h2 := hexV_lt c
  rw [dgt_hex, decide_eq_true h2, Bool.and_true]
  by_cases h : 0 ≤ hexV c
  · rw [decide_eq_false (by omega : ¬ hexV c < 0)] at h1
    rw [decide_eq_true h]
    cases hb : hexB c
    · rw [hb] at h1; cases h1
    · rfl
  · rw [decide_eq_true (by omega : hexV c < 0)] at h1
    rw [decide_eq_false h]
    cases hb : hexB c
    · rfl
    · rw [hb] at h1; cases h1
theorem digB_is (c : Int) : digB c = (decide (0 ≤ dgt c) && decide (dgt c < 10)) := by
  unfold digB dgt
  by_cases h : 48 ≤ c ∧ c ≤ 57
  · rw [if_pos h]
    have a : 0 ≤ c - 48 := by omega
    have b : c - 48 < 10 := by omega
    simp [h, a, b]
  · rw [if_neg h]
    have : (decide (48 ≤ c) && decide (c ≤ 57)) = false := by simp; omega
    rw [this]
    split
    · have : ¬ c - 87 < 10 := by omega
      simp [this]
    · split
      · have : ¬ c - 55 < 10 := by omega
        simp [this]
      · simp
theorem dgt_dig {c : Int} (h : digB c = true) : dgt c = c - 48 ∧ 48 ≤ c ∧ c ≤ 57 := by
  unfold digB at h
  simp at h
  unfold dgt
  rw [if_pos h]
  exact ⟨rfl, h⟩
theorem all_okB16 (l : List Int) : l.all hexB = okB 16 l := all_congr' fun c _ => hexB_is c
theorem all_okB10 (l : List Int) : l.all digB = okB 10 l := all_congr' fun c _ => digB_is c
/-- A text's number at a base, if it has one to so many digits. -/
def numOk (b : Int) (m : Nat) (p : Int → Bool) (s : ByteArray) : Int × Bool := if 1 ≤ s.size ∧ s.size ≤ m ∧ (bytesOf s).all p = true then (numB b (bytesOf s), true) else (0, false)
theorem runL_num (b : Int) (p : Int → Bool) (l : List Int) (st : Int) :
    runL (fun (st : Int) c => if p c = true then .inl (st * b + dgt c) else .inr ((0 : Int), false)) (fun st => (st, true)) l st = if l.all p = true then (l.foldl (fun n c => n * b + dgt c) st, true) else (0, false) := by
  induction l generalizing st with
  | nil => rfl
  | cons c cs ih =>
    rw [List.all_cons]
    unfold runL
    by_cases hp : p c = true
    · simp only [hp, if_true, Bool.true_and, ih, List.foldl_cons]
    · simp only [(by simpa using hp : p c = false), Bool.false_and, Bool.false_eq_true, if_false]
theorem num_next {b st d : Int} {i : Nat} (hb : 0 ≤ b) (h0 : 0 ≤ st) (h1 : st < b ^ i) (d0 : 0 ≤ d) (d1 : d < b) : 0 ≤ st * b ∧ 0 ≤ st * b + d ∧ st * b + d < b ^ (i + 1) := by
  have a := Int.mul_nonneg h0 hb
  rw [Int.pow_succ]
  have : (st + 1) * b ≤ b ^ i * b := Int.mul_le_mul_of_nonneg_right (by omega) hb
  rw [Int.add_mul, Int.one_mul] at this
  omega
theorem num_loop (b : Int) (hb : b = 10 ∨ b = 16) (m : Nat) (hm : (b = 10 ∧ m ≤ 15) ∨ (b = 16 ∧ m ≤ 13)) (p : Int → Bool) (hp : ∀ c, p c = true → 0 ≤ dgt c ∧ dgt c < b) (s : ByteArray) (hs : s.size ≤ m) (g : Nat → Int → Int → Option (Int × Bool)) (K : Nat)
    (h1 : ∀ k (st : Int) (i : Nat), K ≤ k → i < s.size → p (bt s i) = true → wrap64 (st * b) = st * b → wrap64 (st * b + dgt (bt s i)) = st * b + dgt (bt s i) → g (k + 1) st i = g k (st * b + dgt (bt s i)) ((i + 1 : Nat) : Int))
    (h0 : ∀ k (st : Int) (i : Nat), K ≤ k → i < s.size → p (bt s i) = false → g (k + 1) st i = some (0, false))
    (he : ∀ k (st : Int), K ≤ k → g (k + 1) st (s.size : Int) = some (st, true)) : Ev (fun k => g k 0 0) (if (bytesOf s).all p = true then (numB b (bytesOf s), true) else (0, false)) := by
  have hr := ev_run s (fun (st : Int) i => 0 ≤ st ∧ st < b ^ i) (fun (st : Int) c => if p c = true then .inl (st * b + dgt c) else .inr ((0 : Int), false)) (fun st => (st, true)) g K
    (fun k st i hk hi hI => ⟨fun st' e => (by
        by_cases hq : p (bt s i) = true
        · rw [if_pos hq] at e
          obtain rfl : st * b + dgt (bt s i) = st' := by injection e
          obtain ⟨d0, d1⟩ := hp _ hq
          obtain ⟨a0, a1, a2⟩ := num_next (b := b) (by omega) hI.1 hI.2 d0 d1
          have hw := pow_small hb hm (k := i + 1) (by omega)
          exact ⟨h1 k st i hk hi hq (wrap_in (by omega) (by omega)) (wrap_in (by omega) (by omega)), a1, a2⟩
        · rw [if_neg hq] at e; cases e),
      fun r e => (by
        by_cases hq : p (bt s i) = true
        · rw [if_pos hq] at e; cases e
        · rw [if_neg hq] at e
          obtain rfl : ((0 : Int), false) = r := by injection e
          exact h0 k st i hk hi (by simpa using hq))⟩)
    (fun k st hk _ => he k st hk) 0 ⟨by omega, by simp⟩
  rw [runL_num] at hr
  exact hr
theorem impl_HexDigits_is (s : ByteArray) : impl_HexDigits.f s = some (numOk 16 13 hexB s) := by
  unfold impl_HexDigits.f numOk
  by_cases h1 : (s.size : Int) < 1
  · rw [if_pos h1, if_neg (by omega)]
  · rw [if_neg h1]
    by_cases h2 : (s.size : Int) > 13
    · rw [if_pos h2, if_neg (by omega)]
    · rw [if_neg h2, all_hex s (by omega)]
      simp only [Option.bind_some]
      have a : 1 ≤ s.size := by omega
      have b : s.size ≤ 13 := by omega
      by_cases h3 : (bytesOf s).all hexB = true
      · rw [if_pos h3, if_pos ⟨a, b, h3⟩]
        unfold strconv_ParseInt.f
        rw [if_pos ⟨rfl, by omega, by rw [← all_okB16]; exact h3, .inl ⟨rfl, b⟩⟩]
        rfl
      · rw [if_neg h3, if_neg (by intro h; exact h3 h.2.2)]
theorem mn_is (a b : Int) : mn a b = if a ≤ b then a else b := by
  unfold mn
  split <;> split <;> omega
theorem hexPair (c d : Int) : numOk 16 13 hexB (strOfNums [c, d]) = numOk 16 13 hexB (strOfNums [c, d]) := rfl
theorem numOk_two {t : ByteArray} {c d : Int} (h : bytesOf t = [c, d]) : numOk 16 13 hexB t = if hexB c = true ∧ hexB d = true then (16 * hexV c + hexV d, true) else (0, false) := by
  have hz : t.size = 2 := by rw [← bytesOf_length, h]; rfl
  unfold numOk
  rw [h]
  by_cases a : hexB c = true ∧ hexB d = true
  · rw [if_pos a, if_pos ⟨by omega, by omega, by simp [a]⟩]
    refine Prod.ext ?_ rfl
    show (0 * 16 + dgt c) * 16 + dgt d = _
    rw [dgt_hex, dgt_hex]
    omega
  · rw [if_neg a, if_neg]
    intro ⟨_, _, e⟩
    simp at e
    exact a e
theorem uncoded_both (s : ByteArray) (hs : s.size ≤ 200) : ∀ (n i : Nat) (acc : List Int), i + n = s.size → acc.length ≤ i →
    ∃ r : ByteArray × Bool, Ev (fun k => spec_Uncoded.l0 k s acc (i : Int)) r ∧ Ev (fun k => impl_Uncoded.l0 k s acc (i : Int)) r ∧ r.1.size ≤ s.size := by
  intro n
  induction n using Nat.strongRecOn with
  | _ n ih =>
    intro i acc hd ha
    by_cases hn : n = 0
    · subst hn
      refine ⟨(strOfNums acc, true), Ev.step (f := fun _ => some (strOfNums acc, true)) (fun k => ?_) (Ev.now _), Ev.step (f := fun _ => some (strOfNums acc, true)) (fun k => ?_) (Ev.now _), ?_⟩
      · simp only [spec_Uncoded.l0]
        rw [if_neg (by omega)]
      · simp only [impl_Uncoded.l0]
        rw [if_neg (by omega)]
      · show (strOfNums acc).size ≤ s.size
        have : (strOfNums acc).size = acc.length := by
          unfold strOfNums
          simp [ByteArray.size]
        omega
    · have h1 : (i : Int) < (s.size : Int) := by omega
      have w1 : wrap64 ((i : Int) + 1) = ((i + 1 : Nat) : Int) := by rw [wrap_in (by omega) (by omega)]; omega
      have w2 : wrap64 ((i : Int) + 2) = ((i + 2 : Nat) : Int) := by rw [wrap_in (by omega) (by omega)]; omega
      have w3 : wrap64 ((i : Int) + 3) = ((i + 3 : Nat) : Int) := by rw [wrap_in (by omega) (by omega)]; omega
      have w21 : wrap64 (((i + 2 : Nat) : Int) + 1) = ((i + 3 : Nat) : Int) := by rw [wrap_in (by omega) (by omega)]; omega
      have hl : acc.length < 140737488355328 := by omega
      by_cases hp : bt s (i : Int) = 37
      · by_cases h3 : i + 3 ≤ s.size
        · have hb1 := bt_range s ((i + 1 : Nat) : Int)
          have hb2 := bt_range s ((i + 2 : Nat) : Int)
          have e2 := numOk_two (bytes_two s (i + 1) (by omega))
          have n1 := hexV_neg (bt s ((i + 1 : Nat) : Int))
          have n2 := hexV_neg (bt s ((i + 2 : Nat) : Int))
          have l1 := hexV_lt (bt s ((i + 1 : Nat) : Int))
          have l2 := hexV_lt (bt s ((i + 2 : Nat) : Int))
          have impl0 : ∀ k, impl_Uncoded.l0 (k + 1) s acc (i : Int) = if hexB (bt s ((i + 1 : Nat) : Int)) = true ∧ hexB (bt s ((i + 2 : Nat) : Int)) = true then impl_Uncoded.l0 k s (acc ++ [(16 * hexV (bt s ((i + 1 : Nat) : Int)) + hexV (bt s ((i + 2 : Nat) : Int))) % 256]) ((i + 3 : Nat) : Int) else some ((⟨#[]⟩ : ByteArray), false) := by
            intro k
            simp only [impl_Uncoded.l0]
            rw [if_pos h1, if_pos (by omega), if_pos hp, w1, w2, w3, w21, mn_is, if_pos (by omega), if_pos (by omega), if_pos (by omega), if_pos (by omega), Int.toNat_natCast, Int.toNat_natCast, show i + 3 = i + 1 + 2 from rfl, impl_HexDigits_is, e2]
            simp only [Option.bind_some]
            by_cases a : hexB (bt s ((i + 1 : Nat) : Int)) = true ∧ hexB (bt s ((i + 1 + 1 : Nat) : Int)) = true
            · rw [if_pos a]
              simp only [if_true]
              rw [if_neg (by omega), if_pos hl, if_pos a]
            · rw [if_neg a]
              simp only [Bool.false_eq_true, if_false]
              rw [if_neg a]
          by_cases a1 : hexB (bt s ((i + 1 : Nat) : Int)) = true
          · by_cases a2 : hexB (bt s ((i + 2 : Nat) : Int)) = true
            · rw [a1] at n1
              rw [a2] at n2
              have p1 : 0 ≤ hexV (bt s ((i + 1 : Nat) : Int)) := by have : ¬ hexV (bt s ((i + 1 : Nat) : Int)) < 0 := by simpa using n1
                                                                    omega
              have p2 : 0 ≤ hexV (bt s ((i + 2 : Nat) : Int)) := by have : ¬ hexV (bt s ((i + 2 : Nat) : Int)) < 0 := by simpa using n2
                                                                    omega
              obtain ⟨r, hr1, hr2, hr3⟩ := ih (n - 3) (by omega) (i + 3) (acc ++ [(16 * hexV (bt s ((i + 1 : Nat) : Int)) + hexV (bt s ((i + 2 : Nat) : Int))) % 256]) (by omega) (by rw [List.length_append]; simp; omega)
              obtain ⟨K1, e1⟩ := hr1
              refine ⟨r, ⟨K1 + 10, fun k hk => ?_⟩, Ev.step (f := fun k => impl_Uncoded.l0 k s (acc ++ [(16 * hexV (bt s ((i + 1 : Nat) : Int)) + hexV (bt s ((i + 2 : Nat) : Int))) % 256]) ((i + 3 : Nat) : Int)) (fun k => by rw [impl0, if_pos ⟨a1, a2⟩]) hr2, hr3⟩
              obtain ⟨k, rfl⟩ : ∃ z, k = z + 2 := ⟨k - 2, by omega⟩
              have e1' := e1 k (by omega)
              simp only [spec_Uncoded.l0, spec_Uncoded.j1]
              rw [if_pos h1, if_pos (by omega), if_pos hp, w1, w2, w21, if_neg (by omega), if_pos (by omega), if_pos (by omega), spec_l1Hex_is _ hb1.1 hb1.2 (k + 1) (by omega), spec_l1Hex_is _ hb2.1 hb2.2 (k + 1) (by omega), spec_l1Hex_is _ hb1.1 hb1.2 k (by omega), spec_l1Hex_is _ hb2.1 hb2.2 k (by omega)]
              simp only [Option.bind_some]
              rw [if_neg (by omega), if_pos (by omega), if_pos (by omega), if_neg (by rw [decide_eq_true_eq]; omega), if_pos (by omega), if_pos (by omega), if_pos (by omega), if_pos (by omega), if_pos hl, wrap_in (i := 16 * hexV (bt s ((i + 1 : Nat) : Int))) (by omega) (by omega), wrap_in (by omega) (by omega)]
              exact e1'
            · refine ⟨((⟨#[]⟩ : ByteArray), false), ⟨10, fun k hk => ?_⟩, Ev.step (f := fun _ => some ((⟨#[]⟩ : ByteArray), false)) (fun k => by rw [impl0, if_neg (fun h => a2 h.2)]) (Ev.now _), Nat.zero_le _⟩
              obtain ⟨k, rfl⟩ : ∃ z, k = z + 2 := ⟨k - 2, by omega⟩
              rw [a1] at n1
              rw [Bool.not_eq_true] at a2
              rw [a2] at n2
              have p1 : ¬ hexV (bt s ((i + 1 : Nat) : Int)) < 0 := by simpa using n1
              have p2 : hexV (bt s ((i + 2 : Nat) : Int)) < 0 := by simpa using n2
              simp only [spec_Uncoded.l0, spec_Uncoded.j1]
              rw [if_pos h1, if_pos (by omega), if_pos hp, w1, w2, if_neg (by omega), if_pos (by omega), if_pos (by omega), spec_l1Hex_is _ hb1.1 hb1.2 (k + 1) (by omega), spec_l1Hex_is _ hb2.1 hb2.2 (k + 1) (by omega)]
              simp only [Option.bind_some]
              rw [if_neg p1, if_pos (by omega), if_pos (by omega), if_pos (decide_eq_true p2)]
          · refine ⟨((⟨#[]⟩ : ByteArray), false), ⟨10, fun k hk => ?_⟩, Ev.step (f := fun _ => some ((⟨#[]⟩ : ByteArray), false)) (fun k => by rw [impl0, if_neg (fun h => a1 h.1)]) (Ev.now _), Nat.zero_le _⟩
            obtain ⟨k, rfl⟩ : ∃ z, k = z + 2 := ⟨k - 2, by omega⟩
            rw [Bool.not_eq_true] at a1
            rw [a1] at n1
            have p1 : hexV (bt s ((i + 1 : Nat) : Int)) < 0 := by simpa using n1
            simp only [spec_Uncoded.l0, spec_Uncoded.j1]
            rw [if_pos h1, if_pos (by omega), if_pos hp, w1, w2, if_neg (by omega), if_pos (by omega), if_pos (by omega), spec_l1Hex_is _ hb1.1 hb1.2 (k + 1) (by omega)]
            simp only [Option.bind_some]
            rw [if_pos p1]
            simp
        · refine ⟨((⟨#[]⟩ : ByteArray), false), ⟨10, fun k hk => ?_⟩, Ev.step (f := fun _ => some ((⟨#[]⟩ : ByteArray), false)) (fun k => ?_) (Ev.now _), Nat.zero_le _⟩
          · obtain ⟨k, rfl⟩ : ∃ z, k = z + 2 := ⟨k - 2, by omega⟩
            simp only [spec_Uncoded.l0, spec_Uncoded.j1]
            rw [if_pos h1, if_pos (by omega), if_pos hp, w2, if_pos (by omega)]
            simp
          · simp only [impl_Uncoded.l0]
            rw [if_pos h1, if_pos (by omega), if_pos hp, w1, w3, mn_is, if_neg (show ¬ ((i + 3 : Nat) : Int) ≤ (s.size : Int) by omega), if_pos (by omega), if_pos (by omega), if_pos (by omega), impl_HexDigits_is]
            simp only [Option.bind_some]
            by_cases a : (numOk 16 13 hexB (s.extract ((i + 1 : Nat) : Int).toNat (s.size : Int).toNat)).2 = true
            · rw [if_pos a, if_pos (by omega)]
            · rw [if_neg a]
      · obtain ⟨r, hr1, hr2, hr3⟩ := ih (n - 1) (by omega) (i + 1) (acc ++ [bt s (i : Int)]) (by omega) (by rw [List.length_append]; simp; omega)
        refine ⟨r, Ev.step (fun k => ?_) hr1, Ev.step (fun k => ?_) hr2, hr3⟩
        · simp only [spec_Uncoded.l0]
          rw [if_pos h1, if_pos (by omega), if_neg hp, if_pos hl, w1]
        · simp only [impl_Uncoded.l0]
          rw [if_pos h1, if_pos (by omega), if_neg hp, if_pos hl, w1]
theorem Uncoded_both (s : ByteArray) : ∃ r : ByteArray × Bool, Ev (fun k => spec_Uncoded.f k s) r ∧ Ev (fun k => impl_Uncoded.f k s) r ∧ r.1.size ≤ s.size := by
  unfold spec_Uncoded.f impl_Uncoded.f
  by_cases h : (s.size : Int) > 200
  · simp only [if_pos h]
    exact ⟨((⟨#[]⟩ : ByteArray), false), Ev.now _, Ev.now _, Nat.zero_le _⟩
  · simp only [if_neg h]
    exact uncoded_both s (by omega) s.size 0 [] (by omega) (Nat.le_refl _)
def cd (s : ByteArray) : ByteArray := strOfNums ((bytesOf s).flatMap codeB)
theorem coded_cd {s : ByteArray} (h : s.size ≤ 200) : coded s = cd s := by unfold coded cd; rw [if_pos h]
theorem ev_j {α : Type} {g : Nat → Option α} {r : α} (h : Ev g r) {f : Nat → Option α} (e : ∀ k, f (k + 1) = g k) : Ev f r := by
  obtain ⟨K, h⟩ := h
  refine ⟨K + 1, fun k hk => ?_⟩
  obtain ⟨k, rfl⟩ : ∃ z, k = z + 1 := ⟨k - 1, by omega⟩
  rw [e]
  exact h k (by omega)
def normalR (s : ByteArray) (u : ByteArray × Bool) : ByteArray × Bool := if u.2 = true ∧ pathB s = true ∧ pathB (cd u.1) = true then (dotless (cd u.1), true) else (⟨#[]⟩, false)
theorem NormalPath_u (s : ByteArray) : ∃ u : ByteArray × Bool, Ev (fun k => impl_Uncoded.f k s) u ∧ u.1.size ≤ s.size ∧ Ev (fun k => spec_NormalPath.f k s) (normalR s u) ∧ Ev (fun k => impl_NormalPath.f k s) (normalR s u) := by
  obtain ⟨u, h1, h2, hu⟩ := Uncoded_both s
  refine ⟨u, h2, hu, ?_, ?_⟩
  · unfold spec_NormalPath.f
    refine Ev.bind h1 ?_
    unfold normalR
    by_cases c1 : u.2 = true
    · simp only [if_pos c1]
      rw [spec_l3Path_is]
      simp only [Option.bind_some]
      by_cases c2 : pathB s = true
      · have hs : s.size ≤ 200 := by unfold pathB at c2; rw [decide_eq_true_eq] at c2; exact c2.2.2
        rw [c2]
        simp only [Bool.not_true]
        refine ev_j (g := fun k => (spec_l3Coded.f k u.1).bind fun t104 => (spec_l3Path.f t104).bind fun t105 => if t105 = true then (spec_Dotless.f k t104).bind fun t106 => some (t106, true) else some (⟨#[]⟩, false)) ?_ (fun k => by simp only [spec_NormalPath.j0]; rw [if_neg (by simp)])
        refine Ev.bind (spec_l3Coded_ev u.1 (by omega)) ?_
        simp only [spec_l3Path_is, Option.bind_some]
        by_cases c3 : pathB (cd u.1) = true
        · have c4 := c3
          unfold cd at c4
          simp only [if_pos c4]
          rw [if_pos ⟨c1, trivial, c3⟩]
          exact Ev.bind (spec_Dotless_ev _) (Ev.now _)
        · have c4 := c3
          unfold cd at c4
          simp only [if_neg c4]
          rw [if_neg (fun x => c3 x.2.2)]
          exact Ev.now _
      · rw [if_neg (fun x => c2 x.2.1), Bool.not_eq_true] at *
        rw [c2]
        simp only [Bool.not_false]
        exact ev_j (g := fun k => some (⟨#[]⟩, false)) (Ev.now _) (fun k => by simp only [spec_NormalPath.j0]; rw [if_pos trivial])
    · simp only [if_neg c1]
      rw [if_neg (fun x => c1 x.1)]
      exact ev_j (g := fun k => some (⟨#[]⟩, false)) (Ev.now _) (fun k => by simp only [spec_NormalPath.j0]; rw [if_pos trivial])
  · unfold impl_NormalPath.f
    refine Ev.bind h2 ?_
    unfold normalR
    by_cases c1 : u.2 = true
    · simp only [if_pos c1]
      rw [impl_isPath_is]
      simp only [Option.bind_some]
      by_cases c2 : pathB s = true
      · have hs : s.size ≤ 200 := by unfold pathB at c2; rw [decide_eq_true_eq] at c2; exact c2.2.2
        have hc : coded u.1 = cd u.1 := coded_cd (by omega)
        have hev := impl_Coded_ev u.1 (by omega)
        rw [hc] at hev
        simp only [if_pos c2]
        refine Ev.bind hev ?_
        simp only [impl_isPath_is, Option.bind_some]
        by_cases c3 : pathB (cd u.1) = true
        · rw [c3, if_pos ⟨c1, c2, rfl⟩]
          simp only [Bool.not_true]
          refine ev_j (g := fun k => (impl_Coded.f k u.1).bind fun t106 => (impl_Dotless.f k t106).bind fun t107 => some (t107, true)) ?_ (fun k => by simp only [impl_NormalPath.j0]; rw [if_neg (by simp)])
          exact Ev.bind hev (Ev.bind (impl_Dotless_ev _) (Ev.now _))
        · rw [if_neg (fun x => c3 x.2.2)]
          rw [Bool.not_eq_true] at c3
          rw [c3]
          simp only [Bool.not_false]
          exact ev_j (g := fun k => some (⟨#[]⟩, false)) (Ev.now _) (fun k => by simp only [impl_NormalPath.j0]; rw [if_pos trivial])
      · simp only [if_neg c2]
        rw [if_neg (fun x => c2 x.2.1)]
        exact ev_j (g := fun k => some (⟨#[]⟩, false)) (Ev.now _) (fun k => by simp only [impl_NormalPath.j0]; rw [if_pos trivial])
    · simp only [if_neg c1]
      rw [if_neg (fun x => c1 x.1)]
      exact ev_j (g := fun k => some (⟨#[]⟩, false)) (Ev.now _) (fun k => by simp only [impl_NormalPath.j0]; rw [if_pos trivial])
theorem NormalPath_both (s : ByteArray) : ∃ r : ByteArray × Bool, Ev (fun k => spec_NormalPath.f k s) r ∧ Ev (fun k => impl_NormalPath.f k s) r := by
  obtain ⟨u, _, _, h1, h2⟩ := NormalPath_u s
  exact ⟨_, h1, h2⟩
def leT (a b : ByteArray) : Prop := ¬ Op.bytesLess b.toList a.toList = true
theorem leT_iff (a b : ByteArray) : leT a b ↔ a.data.toList ≤ b.data.toList := by
  unfold leT
  rw [bytesLess_eq, toList_data, toList_data, decide_eq_true_eq]
  exact List.not_lt
/-- A text put among sorted ones, from behind: RA: those ahead, turned; B: those behind. -/
def insT (v : ByteArray) : List ByteArray → List ByteArray → List ByteArray
  | [], B => v :: B
  | a :: RA, B => if Op.bytesLess v.toList a.toList = true then insT v RA (a :: B) else RA.reverse ++ a :: v :: B
theorem insT_perm (v : ByteArray) : ∀ (RA B : List ByteArray), (insT v RA B).Perm (v :: (RA.reverse ++ B))
  | [], B => List.Perm.refl _
  | a :: RA, B => by
    unfold insT
    split
    · have := insT_perm v RA (a :: B)
      rwa [List.reverse_cons, List.append_assoc, List.singleton_append]
    · rw [List.reverse_cons, List.append_assoc, List.singleton_append]
      have h1 : (RA.reverse ++ a :: v :: B).Perm (v :: (RA.reverse ++ a :: B)) := by
        have h2 : (RA.reverse ++ a :: v :: B) = (RA.reverse ++ [a]) ++ v :: B := by simp
        have h3 : (RA.reverse ++ a :: B) = (RA.reverse ++ [a]) ++ B := by simp
        rw [h2, h3]
        exact List.perm_middle
      exact h1
theorem leT_of (a b : ByteArray) (h : Op.bytesLess a.toList b.toList = true) : leT a b := by
  rw [leT_iff]
  rw [bytesLess_eq, decide_eq_true_eq, toList_data, toList_data] at h
  exact List.le_of_lt h
theorem leT_trans {a b c : ByteArray} (h1 : leT a b) (h2 : leT b c) : leT a c := by
  rw [leT_iff] at *
  exact List.le_trans h1 h2
theorem insT_sorted (v : ByteArray) : ∀ (RA B : List ByteArray), (RA.reverse ++ B).Pairwise leT → (∀ b ∈ B, leT v b) → (insT v RA B).Pairwise leT
  | [], B, h, hb => List.pairwise_cons.2 ⟨hb, by simpa using h⟩
  | a :: RA, B, h, hb => by
    rw [List.reverse_cons, List.append_assoc, List.singleton_append] at h
    unfold insT
    split
    · rename_i hl
      refine insT_sorted v RA (a :: B) h fun b hm => ?_
      rcases List.mem_cons.1 hm with rfl | hm
      · exact leT_of _ _ hl
      · exact hb b hm
    · rename_i hl
      rw [List.pairwise_append] at h ⊢
      obtain ⟨h1, h2, h3⟩ := h
      rw [List.pairwise_cons] at h2
      refine ⟨h1, ?_, ?_⟩
      · refine List.pairwise_cons.2 ⟨fun b hm => ?_, List.pairwise_cons.2 ⟨hb, h2.2⟩⟩
        rcases List.mem_cons.1 hm with rfl | hm
        · exact hl
        · exact h2.1 b hm
      · intro x hx y hy
        rcases List.mem_cons.1 hy with rfl | hy
        · exact h3 x hx _ List.mem_cons_self
        · rcases List.mem_cons.1 hy with rfl | hy
          · exact leT_trans (h3 x hx a List.mem_cons_self) hl
          · exact h3 x hx y (List.mem_cons_of_mem _ hy)
def isortT (S l : List ByteArray) : List ByteArray := l.foldl (fun S v => insT v S.reverse []) S
theorem isortT_perm (l : List ByteArray) : ∀ S, (isortT S l).Perm (S ++ l) := by
  induction l with
  | nil => intro S; rw [List.append_nil]; exact List.Perm.refl _
  | cons v l ih =>
    intro S
    have h1 := ih (insT v S.reverse [])
    have h2 := insT_perm v S.reverse []
    rw [List.reverse_reverse, List.append_nil] at h2
    refine h1.trans ((h2.append_right l).trans ?_)
    exact List.perm_middle.symm
theorem isortT_sorted (l : List ByteArray) : ∀ S, S.Pairwise leT → (isortT S l).Pairwise leT := by
  induction l with
  | nil => intro S h; exact h
  | cons v l ih =>
    intro S h
    exact ih _ (insT_sorted v S.reverse [] (by simpa using h) (fun b hb => by cases hb))
theorem eq_of_sorted {l1 : List (List UInt8)} : ∀ {l2 : List (List UInt8)}, l1.Perm l2 → l1.Pairwise (· ≤ ·) → l2.Pairwise (· ≤ ·) → l1 = l2 := by
  induction l1 with
  | nil => intro l2 h _ _; exact (List.nil_perm.1 h).symm
  | cons a l1 ih =>
    intro l2 h h1 h2
    cases l2 with
    | nil => exact absurd h.symm (by intro x; exact absurd (List.nil_perm.1 x) (by simp))
    | cons b l2 =>
      have e : a = b := by
        have ha : a ∈ b :: l2 := h.subset List.mem_cons_self
        have hb : b ∈ a :: l1 := h.symm.subset List.mem_cons_self
        rcases List.mem_cons.1 ha with rfl | ha
        · rfl
        · rcases List.mem_cons.1 hb with rfl | hb
          · rfl
          · exact List.le_antisymm ((List.pairwise_cons.1 h1).1 b hb) ((List.pairwise_cons.1 h2).1 a ha)
      subst e
      rw [ih ((List.perm_cons a).1 h) (List.pairwise_cons.1 h1).2 (List.pairwise_cons.1 h2).2]
theorem isortT_is (l : List ByteArray) : (isortT [] l).map (·.data.toList) = (l.map (·.data.toList)).mergeSort fun x y => decide (x ≤ y) := by
  have hp : ((isortT [] l).map (·.data.toList)).Perm (l.map (·.data.toList)) := (isortT_perm l []).map _
  have hs : ((isortT [] l).map (·.data.toList)).Pairwise (· ≤ ·) := by
    rw [List.pairwise_map]
    exact (isortT_sorted l [] List.Pairwise.nil).imp fun h => (leT_iff _ _).1 h
  have hm : ((l.map (·.data.toList)).mergeSort fun x y => decide (x ≤ y)).Pairwise (· ≤ ·) := by
    have := List.pairwise_mergeSort (le := fun (x y : List UInt8) => decide (x ≤ y)) (fun a b c h1 h2 => by simp only [decide_eq_true_eq] at *; exact List.le_trans h1 h2) (fun a b => by simp only [Bool.or_eq_true, decide_eq_true_eq]; exact List.le_total a b) (l.map (·.data.toList))
    exact this.imp fun h => of_decide_eq_true h
  exact eq_of_sorted (hp.trans (List.mergeSort_perm _ _).symm) hs hm
theorem rd_mid (A B : List ByteArray) (a : ByteArray) : rdOf ByteArray.empty (A ++ a :: B) (A.length : Int) = a := by
  rw [rd_at _ _ (by simp)]
  simp
theorem set_mid (A B : List ByteArray) (h v : ByteArray) : (A ++ h :: B).set A.length v = A ++ v :: B := by simp
theorem l3Sorted_inner (x0 : List ByteArray) (i : Nat) (hi : i < x0.length) (hx : x0.length ≤ 1000000) (r : List ByteArray) : ∀ (RA B : List ByteArray) (h : ByteArray), RA.length + B.length ≤ 1000000 →
    Ev (fun k => spec_l3Sorted.l0 k x0 (insT x0[i] RA B) ((i + 1 : Nat) : Int)) r → Ev (fun k => spec_l3Sorted.l1 k x0 (RA.reverse ++ h :: B) (i : Int) (RA.length : Int)) r
  | [], B, h, hl, hr => by
    refine Ev.step (f := fun k => spec_l3Sorted.l0 k x0 (insT x0[i] [] B) ((i + 1 : Nat) : Int)) (fun k => ?_) hr
    simp only [spec_l3Sorted.l1]
    rw [if_neg (by simp), if_pos (by omega), if_pos (by omega), if_pos (by simp), if_pos (by simp only [List.reverse_nil, List.nil_append, List.length_nil, List.length_cons]; omega), rd_at x0 i hi, wrap_in (i := (i : Int) + 1) (by omega) (by omega), show ((i : Int) + 1) = ((i + 1 : Nat) : Int) by omega]
    rfl
  | a :: RA, B, h, hl, hr => by
    have hA : ((a :: RA).reverse ++ h :: B).length = RA.length + 1 + B.length + 1 := by simp only [List.length_append, List.length_reverse, List.length_cons]; omega
    have hlen : (a :: RA).length = RA.length + 1 := rfl
    rw [hlen] at hl
    have e1 : wrap64 (((a :: RA).length : Int) - 1) = (RA.length : Int) := by rw [hlen, wrap_in (by omega) (by omega)]; omega
    have e2 : rdOf ByteArray.empty ((a :: RA).reverse ++ h :: B) (RA.length : Int) = a := by
      have := rd_mid RA.reverse (h :: B) a
      rw [List.length_reverse] at this
      rw [List.reverse_cons, List.append_assoc]
      exact this
    have e3 : ∀ v, ((a :: RA).reverse ++ h :: B).set (((a :: RA).length : Int)).toNat v = (a :: RA).reverse ++ v :: B := fun v => by
      have := set_mid (a :: RA).reverse B h v
      rw [List.length_reverse] at this
      rw [Int.toNat_natCast]
      exact this
    by_cases hb : Op.bytesLess x0[i].toList a.toList = true
    · have hr2 : insT x0[i] (a :: RA) B = insT x0[i] RA (a :: B) := by rw [insT, if_pos hb]
      rw [hr2] at hr
      have ih := l3Sorted_inner x0 i hi hx r RA (a :: B) a (by simp only [List.length_cons]; omega) hr
      refine Ev.step (f := fun k => spec_l3Sorted.l1 k x0 (RA.reverse ++ a :: (a :: B)) (i : Int) (RA.length : Int)) (fun k => ?_) ih
      simp only [spec_l3Sorted.l1]
      rw [if_pos (by rw [hlen]; omega), e1, if_pos (by omega), if_pos (by rw [hA]; omega), if_pos (by omega), if_pos (by omega), rd_at x0 i hi, e2, if_pos hb, if_pos (by rw [hlen]; omega), if_pos (by rw [hA, hlen]; omega), e3]
      simp
    · have hr2 : insT x0[i] (a :: RA) B = RA.reverse ++ a :: x0[i] :: B := by rw [insT, if_neg hb]
      rw [hr2] at hr
      refine Ev.step (f := fun k => spec_l3Sorted.l0 k x0 (RA.reverse ++ a :: x0[i] :: B) ((i + 1 : Nat) : Int)) (fun k => ?_) hr
      simp only [spec_l3Sorted.l1]
      rw [if_pos (by rw [hlen]; omega), e1, if_pos (by omega), if_pos (by rw [hA]; omega), if_pos (by omega), if_pos (by omega), rd_at x0 i hi, e2, if_neg hb, if_pos (by rw [hlen]; omega), if_pos (by rw [hA, hlen]; omega), e3, wrap_in (i := (i : Int) + 1) (by omega) (by omega), show ((i : Int) + 1) = ((i + 1 : Nat) : Int) by omega]
      simp
theorem insT_length (v : ByteArray) (S : List ByteArray) : (insT v S.reverse []).length = S.length + 1 := by
  have := (insT_perm v S.reverse []).length_eq
  simpa using this
theorem l3Sorted_loop (x0 : List ByteArray) (hx : x0.length ≤ 900000) (d : Nat) : ∀ (i : Nat) (S : List ByteArray), i + d = x0.length → S.length = i → Ev (fun k => spec_l3Sorted.l0 k x0 S (i : Int)) (isortT S (x0.drop i)) := by
  induction d with
  | zero =>
    intro i S hd hs
    rw [List.drop_of_length_le (by omega)]
    refine Ev.step (f := fun _ => some S) (fun k => ?_) (Ev.now _)
    simp only [spec_l3Sorted.l0]
    rw [if_neg (by omega)]
  | succ d ih =>
    intro i S hd hs
    have hi : i < x0.length := by omega
    rw [List.drop_eq_getElem_cons hi]
    have h1 := ih (i + 1) (insT x0[i] S.reverse []) (by omega) (by rw [insT_length]; omega)
    have h2 := l3Sorted_inner x0 i hi (by omega) _ S.reverse [] x0[i] (by simp; omega) h1
    rw [List.reverse_reverse, List.length_reverse] at h2
    refine Ev.step (f := fun k => spec_l3Sorted.l1 k x0 (S ++ [x0[i]]) (i : Int) (S.length : Int)) (fun k => ?_) h2
    simp only [spec_l3Sorted.l0]
    rw [if_pos (by omega), if_pos (by omega), if_pos (by omega), rd_at x0 i hi]
theorem l3Sorted_ev (x0 : List ByteArray) (hx : x0.length ≤ 900000) : Ev (fun k => spec_l3Sorted.f k x0) (isortT [] x0) := by
  unfold spec_l3Sorted.f
  have := l3Sorted_loop x0 hx x0.length 0 [] (by omega) rfl
  rw [List.drop_zero] at this
  exact this
theorem query_keep (parts : List ByteArray) (hp : parts.length ≤ 900000) (r : ByteArray) (d : Nat) : ∀ (i : Nat) (out : List ByteArray), i + d = parts.length → out.length ≤ i →
    Ev (fun k => (spec_l3Sorted.f k (out ++ (parts.drop i).filter fun p => !(p.toList == []))).bind fun t112 => spec_SortedQuery.l1 k t112 ⟨#[]⟩ 0) r → Ev (fun k => spec_SortedQuery.l0 k out parts (i : Int)) r := by
  induction d with
  | zero =>
    intro i out hd ho hr
    rw [List.drop_of_length_le (by omega), List.filter_nil, List.append_nil] at hr
    refine Ev.step (fun k => ?_) hr
    simp only [spec_SortedQuery.l0]
    rw [if_neg (by omega)]
  | succ d ih =>
    intro i out hd ho hr
    have hi : i < parts.length := by omega
    rw [List.drop_eq_getElem_cons hi, List.filter_cons] at hr
    by_cases h : parts[i].toList = []
    · rw [if_neg (by simp [h])] at hr
      refine Ev.step (fun k => ?_) (ih (i + 1) out (by omega) (by omega) hr)
      simp only [spec_SortedQuery.l0]
      rw [if_pos (by omega), if_pos (by omega), rd_at parts i hi, if_pos h, wrap_in (i := (i : Int) + 1) (by omega) (by omega), show ((i : Int) + 1) = ((i + 1 : Nat) : Int) by omega]
    · have hb : (!(parts[i].toList == [])) = true := by rw [Bool.not_eq_true', beq_eq_false_iff_ne]; exact h
      rw [if_pos hb] at hr
      refine Ev.step (fun k => ?_) (ih (i + 1) (out ++ [parts[i]]) (by omega) (by rw [List.length_append, List.length_singleton]; omega) (by rw [List.append_assoc]; exact hr))
      simp only [spec_SortedQuery.l0]
      rw [if_pos (by omega), if_pos (by omega), rd_at parts i hi, if_neg h, if_pos (by omega), wrap_in (i := (i : Int) + 1) (by omega) (by omega), show ((i : Int) + 1) = ((i + 1 : Nat) : Int) by omega]
theorem query_join (l : List ByteArray) (hl : l.length ≤ 900000) (d : Nat) : ∀ (i : Nat) (s : ByteArray), 0 < i → i + d = l.length → s.size + wt (l.drop i) ≤ 1000000 →
    Ev (fun k => spec_SortedQuery.l1 k l s (i : Int)) (ofL (s.data.toList ++ Lib.joinTail [38] ((l.drop i).map (·.data.toList)))) := by
  induction d with
  | zero =>
    intro i s h0 hd hs
    rw [List.drop_of_length_le (by omega)]
    refine Ev.step (f := fun _ => some s) (fun k => ?_) ?_
    · simp only [spec_SortedQuery.l1]
      rw [if_neg (by omega)]
    · have e : Lib.joinTail [38] (([] : List ByteArray).map (·.data.toList)) = [] := rfl
      rw [e, List.append_nil, ofL_data]
      exact Ev.now _
  | succ d ih =>
    intro i s h0 hd hs
    have hi : i < l.length := by omega
    rw [List.drop_eq_getElem_cons hi] at hs ⊢
    have hw := wt_cons l[i] (l.drop (i + 1))
    have h38 : (⟨#[38]⟩ : ByteArray).size = 1 := rfl
    have e1 : ((s ++ (⟨#[38]⟩ : ByteArray)) ++ l[i]).size = s.size + 1 + l[i].size := by rw [ByteArray.size_append, ByteArray.size_append, h38]
    have h1 := ih (i + 1) ((s ++ (⟨#[38]⟩ : ByteArray)) ++ l[i]) (by omega) (by omega) (by rw [e1]; omega)
    refine Ev.step (f := fun k => spec_SortedQuery.l1 k l ((s ++ (⟨#[38]⟩ : ByteArray)) ++ l[i]) ((i + 1 : Nat) : Int)) (fun k => ?_) (ev_eq h1 ?_)
    · simp only [spec_SortedQuery.l1]
      rw [if_pos (by omega), if_pos (by omega), if_pos (by omega), if_pos (by omega), rd_at l i hi, if_pos (by rw [ByteArray.size_append, h38]; omega), wrap_in (i := (i : Int) + 1) (by omega) (by omega), show ((i : Int) + 1) = ((i + 1 : Nat) : Int) by omega]
    · unfold Lib.joinTail
      simp only [ByteArray.data_append, Array.toList_append, List.map_cons, List.flatten_cons, List.append_assoc]
theorem query_out (l : List ByteArray) (hw : wt l ≤ 900000) : Ev (fun k => spec_SortedQuery.l1 k l ⟨#[]⟩ 0) (ofL (Lib.join (l.map (·.data.toList)) [38])) := by
  have hl := wt_len l
  cases l with
  | nil =>
    refine Ev.step (f := fun _ => some ⟨#[]⟩) (fun k => ?_) (Ev.now _)
    simp only [spec_SortedQuery.l1]
    rw [if_neg (by simp)]
  | cons a l =>
    have hc := wt_cons a l
    have e0 : ((⟨#[]⟩ : ByteArray) ++ a) = a := by
      apply ByteArray.ext
      simp [ByteArray.data_append]
    have hz : (⟨#[]⟩ : ByteArray).size = 0 := rfl
    have h1 := query_join (a :: l) (by omega) l.length 1 a (by omega) (by simp; omega) (by simp only [List.drop_succ_cons, List.drop_zero]; omega)
    refine Ev.step (f := fun k => spec_SortedQuery.l1 k (a :: l) a ((1 : Nat) : Int)) (fun k => ?_) (ev_eq h1 ?_)
    · simp only [spec_SortedQuery.l1]
      have e1 : rdOf ByteArray.empty (a :: l) 0 = a := rfl
      rw [if_pos (by simp only [List.length_cons]; omega), if_neg (by omega), if_pos (by omega), e1, e0, if_pos (by omega), wrap_in (by omega) (by omega)]
      rfl
    · rw [List.map_cons, Lib.join_cons]
      rfl
def queryR (s : ByteArray) : ByteArray := if s.size > 200 then ⟨#[]⟩ else ofL (Lib.join (sortedL s) [38])
theorem impl_SortedQuery_is (s : ByteArray) : impl_SortedQuery.f s = some (queryR s) := by
  unfold impl_SortedQuery.f queryR
  split <;> rfl
theorem wt_filter (p : ByteArray → Bool) (l : List ByteArray) : wt (l.filter p) ≤ wt l := by
  induction l with
  | nil => exact Nat.le_refl _
  | cons a l ih =>
    rw [List.filter_cons, wt_cons]
    split
    · rw [wt_cons]; omega
    · omega
theorem wt_perm {a b : List ByteArray} (h : a.Perm b) : wt a = wt b := (h.map _).sum_nat
theorem spec_SortedQuery_ev (s : ByteArray) : Ev (fun k => spec_SortedQuery.f k s) (queryR s) := by
  unfold spec_SortedQuery.f queryR
  by_cases h : s.size > 200
  · have h2 : (s.size : Int) > 200 := by omega
    simp only [if_pos h, if_pos h2]
    exact Ev.now _
  · have h2 : ¬ (s.size : Int) > 200 := by omega
    simp only [if_neg h, if_neg h2]
    refine Ev.bind (l3Split_ev s 38 (by omega)) ?_
    have hw := wt_spl 38 s.data.toList
    rw [Array.length_toList] at hw
    have hw2 : wt ((spl 38 s.data.toList).map ofL) = s.size + 1 := hw
    have hl := wt_len ((spl 38 s.data.toList).map ofL)
    have hf := wt_filter (fun p => !(p.toList == [])) ((spl 38 s.data.toList).map ofL)
    have hl2 := wt_len (((spl 38 s.data.toList).map ofL).filter fun p => !(p.toList == []))
    have hp := wt_perm (isortT_perm (((spl 38 s.data.toList).map ofL).filter fun p => !(p.toList == [])) [])
    rw [List.nil_append] at hp
    refine query_keep _ (by omega) _ ((spl 38 s.data.toList).map ofL).length 0 [] (by omega) (Nat.le_refl _) ?_
    rw [List.drop_zero, List.nil_append]
    refine Ev.bind (l3Sorted_ev _ (by omega)) ?_
    refine ev_eq (query_out _ (by omega)) ?_
    congr 2
    rw [isortT_is]
    unfold sortedL
    congr 1
    unfold keptL
    rw [Lib.splitB_data]
    have e2 : Lib.splitK (⟨#[38]⟩ : ByteArray).data.toList 0 (Lib.countB s ⟨#[38]⟩) s.data.toList = spl 38 s.data.toList := splitK_spl 38 s.data.toList
    rw [e2]
    generalize spl 38 s.data.toList = ps
    induction ps with
    | nil => rfl
    | cons p ps ih =>
      rw [List.map_cons, List.filter_cons, List.filter_cons, ofL_toList]
      by_cases c : (!(p == [])) = true
      · rw [if_pos c, if_pos c, List.map_cons, ih]
        rfl
      · rw [if_neg c, if_neg c, ih]
def tokOk (s : ByteArray) : Bool := decide (1 ≤ s.size) && decide (s.size ≤ 64) && (bytesOf s).all tokB
theorem spec_TokenOk_ev (s : ByteArray) (hs : s.size ≤ 4611686018427387904) : Ev (fun k => spec_TokenOk.f k s) (tokOk s) := by
  unfold spec_TokenOk.f tokOk
  by_cases h : (s.size : Int) < 1
  · simp only [if_pos h]
    rw [decide_eq_false (by omega : ¬ 1 ≤ s.size)]
    exact Ev.step (f := fun _ => some false) (fun k => by simp only [spec_TokenOk.j0, if_true]) (Ev.now _)
  · simp only [if_neg h]
    rw [decide_eq_true (by omega : 1 ≤ s.size)]
    by_cases h' : (s.size : Int) > 64
    · rw [decide_eq_true h', decide_eq_false (by omega : ¬ s.size ≤ 64)]
      exact Ev.step (f := fun _ => some false) (fun k => by simp only [spec_TokenOk.j0, if_true]) (Ev.now _)
    · rw [decide_eq_false h', decide_eq_true (by omega : s.size ≤ 64), Bool.true_and, Bool.true_and]
      refine Ev.step (f := fun k => spec_TokenOk.l0 k s 0) (fun k => by simp only [spec_TokenOk.j0, Bool.false_eq_true, if_false]) ?_
      refine ev_all s tokB (fun k i => spec_TokenOk.l0 k s i) 0 (fun k i _ hi hp => ?_) (fun k i _ hi hp => ?_) (fun k _ => ?_)
      · simp only [spec_TokenOk.l0]
        rw [if_pos (by omega), if_pos (by omega), spec_l1Token_is _ (bt_range s i).1 (bt_range s i).2, hp, wrap_next hi hs]
        rfl
      · simp only [spec_TokenOk.l0]
        rw [if_pos (by omega), if_pos (by omega), spec_l1Token_is _ (bt_range s i).1 (bt_range s i).2, hp]
        rfl
      · simp only [spec_TokenOk.l0]
        rw [if_neg (by omega)]
theorem impl_TokenOk_is (s : ByteArray) (hs : s.size ≤ 4611686018427387904) : impl_TokenOk.f s = some (tokOk s) := by
  unfold impl_TokenOk.f tokOk
  by_cases h : (s.size : Int) ≥ 1
  · rw [if_pos h]
    by_cases h' : (s.size : Int) ≤ 64
    · rw [if_pos h', all_tok s (by omega), decide_eq_true (by omega : 1 ≤ s.size), decide_eq_true (by omega : s.size ≤ 64), Bool.true_and, Bool.true_and]; rfl
    · rw [if_neg h', decide_eq_false (by omega : ¬ s.size ≤ 64), Bool.and_false]; rfl
  · rw [if_neg h, decide_eq_false (by omega : ¬ 1 ≤ s.size)]; rfl
theorem dotless_size (s : ByteArray) : (dotless s).size ≤ 1000 := by
  unfold dotless
  by_cases h : pathB s = true
  · rw [if_pos h]
    unfold pathB at h
    rw [decide_eq_true_eq] at h
    have hsz : (s.extract 1 s.size).size = s.size - 1 := size_extract s 1 s.size (Nat.le_refl _)
    have hw := wt_spl 47 (s.extract 1 s.size).data.toList
    rw [Array.length_toList] at hw
    have hw2 : wt ((spl 47 (s.extract 1 s.size).data.toList).map ofL) = (s.extract 1 s.size).size + 1 := hw
    have ha := wt_all ((spl 47 (s.extract 1 s.size).data.toList).map ofL) [] ⟨#[]⟩
    have hz : wt ([] : List ByteArray) = 0 := rfl
    unfold dotOut
    split
    · decide
    · rw [ofL_size, slashed_length]; omega
  · rw [if_neg h]
    decide
theorem normalR_size (s : ByteArray) (u : ByteArray × Bool) : (normalR s u).1.size ≤ 1000 := by
  unfold normalR
  split
  · exact dotless_size _
  · show (⟨#[]⟩ : ByteArray).size ≤ 1000; decide
theorem NormalPath_all (s : ByteArray) : ∃ r : ByteArray × Bool, Ev (fun k => spec_NormalPath.f k s) r ∧ Ev (fun k => impl_NormalPath.f k s) r ∧ r.1.size ≤ 1000 := by
  obtain ⟨u, _, _, h1, h2⟩ := NormalPath_u s
  exact ⟨_, h1, h2, normalR_size s u⟩
theorem query_size (s : ByteArray) : (queryR s).size ≤ 401 := by
  unfold queryR
  split
  · decide
  · rw [ofL_size]
    exact sorted_len s (by omega)
/-- A host in small letters. -/
def lowT (s : ByteArray) : ByteArray := strOfNums ((bytesOf s).map low8)
theorem lowT_size (s : ByteArray) : (lowT s).size = s.size := by
  unfold lowT
  show (strOfNums _).data.size = _
  rw [← Array.length_toList, strOfNums_data, List.length_map, List.length_map, bytesOf_length]
def keyR (h : ByteArray) (n : ByteArray × Bool) (q : ByteArray) : ByteArray × Bool :=
  if n.2 = true ∧ tokOk h = true then (lowT h ++ n.1 ++ (if (queryR q).toList = [] then ⟨#[]⟩ else (⟨#[63]⟩ : ByteArray) ++ queryR q), true) else (⟨#[]⟩, false)
/-- The target's path and its query. -/
def pathQ (t : ByteArray) : ByteArray × ByteArray := (ofL (Lib.cut t.data.toList [63]).1, ofL (Lib.cut t.data.toList [63]).2.1)
theorem impl_Key_ev (h t : ByteArray) (hh : h.size ≤ 1048576) (ht : t.size ≤ 1048576) (n : ByteArray × Bool) (hn : Ev (fun k => impl_NormalPath.f k (pathQ t).1) n) (hs : n.1.size ≤ 1000) : Ev (fun k => impl_Key.f k h t) (keyR h n (pathQ t).2) := by
  unfold impl_Key.f strings_Cut.f
  rw [if_pos (by omega)]
  simp only [Option.bind_some]
  refine Ev.bind (a := n) hn ?_
  have q0 := query_size (pathQ t).2
  have l0 := lowT_size h
  have hl : impl_Lower.f h = some (lowT h) := by unfold impl_Lower.f; rw [if_pos (by omega)]; rfl
  have h63 : (⟨#[63]⟩ : ByteArray).size = 1 := rfl
  unfold keyR
  by_cases c1 : n.2 = true
  · simp only [if_pos c1]
    rw [impl_TokenOk_is h (by omega)]
    simp only [Option.bind_some]
    by_cases c2 : tokOk h = true
    · rw [if_pos ⟨c1, c2⟩, c2]
      simp only [Bool.not_true]
      refine ev_j (g := fun _ => some (lowT h ++ n.1 ++ (if (queryR (pathQ t).2).toList = [] then ⟨#[]⟩ else (⟨#[63]⟩ : ByteArray) ++ queryR (pathQ t).2), true)) (Ev.now _) (fun k => ?_)
      have eq2 : (⟨(Lib.cut t.data.toList (⟨#[63]⟩ : ByteArray).data.toList).2.1.toArray⟩ : ByteArray) = (pathQ t).2 := rfl
      simp only [impl_Key.j0]
      rw [if_neg (by simp), eq2, impl_SortedQuery_is]
      simp only [Option.bind_some]
      by_cases c3 : (queryR (pathQ t).2).toList = []
      · have e : queryR (pathQ t).2 = ⟨#[]⟩ := eq_of_toList (by rw [c3, toList_data])
        rw [if_pos c3, if_pos c3, hl]
        simp only [Option.bind_some]
        rw [if_pos (by omega), if_pos (by rw [ByteArray.size_append]; omega), e]
      · rw [if_neg c3, if_neg c3, if_pos (by omega), hl]
        simp only [Option.bind_some]
        rw [if_pos (by omega), if_pos (by rw [ByteArray.size_append, ByteArray.size_append, h63]; omega)]
    · rw [if_neg (fun x => c2 x.2)]
      rw [Bool.not_eq_true] at c2
      rw [c2]
      simp only [Bool.not_false]
      exact ev_j (g := fun _ => some (⟨#[]⟩, false)) (Ev.now _) (fun k => by simp only [impl_Key.j0]; rw [if_pos trivial])
  · simp only [if_neg c1]
    rw [if_neg (fun x => c1 x.1)]
    exact ev_j (g := fun _ => some (⟨#[]⟩, false)) (Ev.now _) (fun k => by simp only [impl_Key.j0]; rw [if_pos trivial])
theorem ba_assoc (a b c : ByteArray) : a ++ b ++ c = a ++ (b ++ c) := by
  apply ByteArray.ext
  simp [ByteArray.data_append]
theorem spec_Key_j1 (h p q : ByteArray) (hh : h.size ≤ 1048576) (n : ByteArray × Bool) (hn : Ev (fun k => spec_NormalPath.f k p) n) (hs : n.1.size ≤ 1000) : Ev (fun k => spec_Key.j1 k h p q) (keyR h n q) := by
  refine ev_j (g := fun k => (spec_NormalPath.f k p).bind fun bt101 => (if bt101.2 = true then ((spec_TokenOk.f k h).bind fun t103 => (spec_Key.j2 k h q bt101.1 (!t103))) else (spec_Key.j2 k h q bt101.1 true))) ?_ (fun k => by simp only [spec_Key.j1])
  refine Ev.bind hn ?_
  have q0 := query_size q
  have l0 := lowT_size h
  have hl : spec_Lower.f h = some (lowT h) := by unfold spec_Lower.f; rw [if_pos (by omega)]; rfl
  have h63 : (⟨#[63]⟩ : ByteArray).size = 1 := rfl
  unfold keyR
  by_cases c1 : n.2 = true
  · simp only [if_pos c1]
    refine Ev.bind (spec_TokenOk_ev h (by omega)) ?_
    by_cases c2 : tokOk h = true
    · rw [if_pos ⟨c1, c2⟩, c2]
      simp only [Bool.not_true]
      refine ev_j (g := fun k => (spec_SortedQuery.f k q).bind fun t104 => (if t104.toList = ([] : List UInt8) then ((spec_Lower.f h).bind fun t105 => (if t105.size + n.1.size ≤ 9223372036854775807 then (some (t105 ++ n.1, true)) else (none))) else (if n.1.size + 1 ≤ 9223372036854775807 then (if (n.1 ++ (⟨#[63]⟩ : ByteArray)).size + t104.size ≤ 9223372036854775807 then ((spec_Lower.f h).bind fun t106 => (if t106.size + ((n.1 ++ (⟨#[63]⟩ : ByteArray)) ++ t104).size ≤ 9223372036854775807 then (some (t106 ++ ((n.1 ++ (⟨#[63]⟩ : ByteArray)) ++ t104), true)) else (none))) else (none)) else (none)))) ?_ (fun k => by simp only [spec_Key.j2]; rw [if_neg (by simp)])
      refine Ev.bind (spec_SortedQuery_ev q) ?_
      by_cases c3 : (queryR q).toList = []
      · have e0 : lowT h ++ n.1 ++ (⟨#[]⟩ : ByteArray) = lowT h ++ n.1 := by apply ByteArray.ext; simp [ByteArray.data_append]
        simp only [if_pos c3]
        rw [hl, e0]
        simp only [Option.bind_some]
        have z : (lowT h).size + n.1.size ≤ 9223372036854775807 := by omega
        simp only [if_pos z]
        exact Ev.now _
      · simp only [if_neg c3]
        rw [hl]
        simp only [Option.bind_some]
        have z1 : n.1.size + 1 ≤ 9223372036854775807 := by omega
        have z2 : (n.1 ++ (⟨#[63]⟩ : ByteArray)).size + (queryR q).size ≤ 9223372036854775807 := by rw [ByteArray.size_append, h63]; omega
        have z3 : (lowT h).size + ((n.1 ++ (⟨#[63]⟩ : ByteArray)) ++ queryR q).size ≤ 9223372036854775807 := by rw [ByteArray.size_append, ByteArray.size_append, h63]; omega
        simp only [if_pos z1, if_pos z2, if_pos z3]
        have e : lowT h ++ ((n.1 ++ (⟨#[63]⟩ : ByteArray)) ++ queryR q) = lowT h ++ n.1 ++ ((⟨#[63]⟩ : ByteArray) ++ queryR q) := by rw [ba_assoc, ba_assoc]
        rw [e]
        exact Ev.now _
    · rw [if_neg (fun x => c2 x.2)]
      rw [Bool.not_eq_true] at c2
      rw [c2]
      simp only [Bool.not_false]
      exact ev_j (g := fun _ => some (⟨#[]⟩, false)) (Ev.now _) (fun k => by simp only [spec_Key.j2]; rw [if_pos trivial])
  · simp only [if_neg c1]
    rw [if_neg (fun x => c1 x.1)]
    exact ev_j (g := fun _ => some (⟨#[]⟩, false)) (Ev.now _) (fun k => by simp only [spec_Key.j2]; rw [if_pos trivial])
theorem cut_at (l : List UInt8) (i : Nat) (hi : i < l.length) (h0 : ∀ j (hj : j < i), l[j]'(by omega) ≠ 63) (h1 : l[i] = 63) : Lib.cut l [63] = (l.take i, l.drop (i + 1), true) := by
  induction l generalizing i with
  | nil => simp at hi
  | cons b l ih =>
    rw [cut_cons, pre_one]
    cases i with
    | zero =>
      have : b = 63 := h1
      subst this
      simp
    | succ i =>
      have hb : b ≠ 63 := h0 0 (by omega)
      rw [if_neg (by simpa using fun x => hb x.symm)]
      have := ih i (by simpa using hi) (fun j hj => by have := h0 (j + 1) (by omega); simpa using this) (by simpa using h1)
      rw [this]
      simp
theorem cut_none (l : List UInt8) (h0 : ∀ j (hj : j < l.length), l[j] ≠ 63) : Lib.cut l [63] = (l, [], false) := by
  induction l with
  | nil => exact cut_nil _ (by simp)
  | cons b l ih =>
    rw [cut_cons, pre_one]
    have hb : b ≠ 63 := h0 0 (by simp)
    rw [if_neg (by simpa using fun x => hb x.symm), ih (fun j hj => by have := h0 (j + 1) (by simp; omega); simpa using this)]
    simp
theorem spec_Key_loop (h t : ByteArray) (hh : h.size ≤ 1048576) (ht : t.size ≤ 1048576) (n : ByteArray × Bool) (hn : Ev (fun k => spec_NormalPath.f k (pathQ t).1) n) (hs : n.1.size ≤ 1000) (d : Nat) : ∀ (i : Nat), i + d = t.size → (∀ j (hj : j < i), bt t (j : Int) ≠ 63) →
    Ev (fun k => spec_Key.l0 k h t t ⟨#[]⟩ (i : Int)) (keyR h n (pathQ t).2) := by
  have hlen : t.data.toList.length = t.size := Array.length_toList
  have hbt : ∀ j (hj : j < t.data.toList.length), t.data.toList[j] = 63 ↔ bt t (j : Int) = 63 := fun j hj => by
    rw [bt_data t j hj]
    exact ⟨fun e => by rw [e]; rfl, fun e => UInt8.toNat_inj.1 (by have : (63 : UInt8).toNat = 63 := rfl; omega)⟩
  induction d with
  | zero =>
    intro i hd h0
    have hc := cut_none t.data.toList (fun j hj e => h0 j (by omega) ((hbt j hj).1 e))
    have e1 : (pathQ t).1 = t := by unfold pathQ; rw [hc]; exact ofL_data t
    have e2 : (pathQ t).2 = ⟨#[]⟩ := by unfold pathQ; rw [hc]; rfl
    rw [e1] at hn
    rw [e2]
    refine Ev.step (fun k => ?_) (spec_Key_j1 h t ⟨#[]⟩ hh n hn hs)
    simp only [spec_Key.l0]
    rw [if_neg (by omega)]
  | succ d ih =>
    intro i hd h0
    by_cases hb : bt t (i : Int) = 63
    · have hi : i < t.data.toList.length := by omega
      have hc := cut_at t.data.toList i hi (fun j hj e => h0 j hj ((hbt j (by omega)).1 e)) ((hbt i hi).2 hb)
      have e1 : (pathQ t).1 = t.extract 0 i := by unfold pathQ; rw [hc, extract_ofL]; simp
      have e2 : (pathQ t).2 = t.extract (i + 1) t.size := by
        unfold pathQ
        rw [hc]
        show ofL (t.data.toList.drop (i + 1)) = _
        rw [extract_ofL, List.take_of_length_le (by rw [List.length_drop]; omega)]
      rw [e1] at hn
      rw [e2]
      refine Ev.step (fun k => ?_) (spec_Key_j1 h (t.extract 0 i) (t.extract (i + 1) t.size) hh n hn hs)
      simp only [spec_Key.l0]
      rw [if_pos (by omega), if_pos (by omega), if_pos hb, if_pos (by omega), wrap_in (i := (i : Int) + 1) (by omega) (by omega), if_pos (by omega), if_pos (by omega), Int.toNat_natCast, show ((i : Int) + 1).toNat = i + 1 by omega]
    · refine Ev.step (fun k => ?_) (ih (i + 1) (by omega) (fun j hj => by
        by_cases c : j = i
        · subst c; exact hb
        · exact h0 j (by omega)))
      simp only [spec_Key.l0]
      rw [if_pos (by omega), if_pos (by omega), if_neg hb, wrap_in (i := (i : Int) + 1) (by omega) (by omega), show ((i : Int) + 1) = ((i + 1 : Nat) : Int) by omega]
theorem Key_both (h t : ByteArray) (hh : h.size ≤ 1048576) (ht : t.size ≤ 1048576) : ∃ r, Ev (fun k => spec_Key.f k h t) r ∧ Ev (fun k => impl_Key.f k h t) r := by
  obtain ⟨n, h1, h2, hs⟩ := NormalPath_all (pathQ t).1
  refine ⟨_, ?_, impl_Key_ev h t hh ht n h2 hs⟩
  unfold spec_Key.f
  exact spec_Key_loop h t hh ht n h1 hs t.size 0 (by omega) (fun j hj => by omega)
theorem spl_one (c : UInt8) (x : List UInt8) (h : c ∉ x) : spl c x = [x] := by
  induction x with
  | nil => rfl
  | cons b x ih =>
    have hb : b ≠ c := fun e => h (e ▸ List.mem_cons_self)
    unfold spl
    rw [if_neg hb, ih (fun e => h (List.mem_cons_of_mem _ e))]
    rfl
theorem spl_app (c : UInt8) (x r : List UInt8) (h : c ∉ x) : spl c (x ++ c :: r) = x :: spl c r := by
  induction x with
  | nil =>
    rw [List.nil_append]
    rw [spl, if_pos rfl]
  | cons b x ih =>
    have hb : b ≠ c := fun e => h (e ▸ List.mem_cons_self)
    rw [List.cons_append]
    rw [spl, if_neg hb, ih (fun e => h (List.mem_cons_of_mem _ e))]
    rfl
theorem glue_no (c b : UInt8) (hb : b ≠ c) (l : List (List UInt8)) (h : ∀ p ∈ l, c ∉ p) : ∀ p ∈ glue [b] l, c ∉ p := by
  cases l with
  | nil => intro p hp; rw [List.mem_singleton.1 hp]; simpa using fun e => hb e.symm
  | cons a l =>
    intro p hp
    rcases List.mem_cons.1 hp with rfl | hp
    · rw [List.singleton_append, List.mem_cons]
      rintro (e | e)
      · exact hb e.symm
      · exact h a List.mem_cons_self e
    · exact h p (List.mem_cons_of_mem _ hp)
theorem spl_no (c : UInt8) (l : List UInt8) : ∀ p ∈ spl c l, c ∉ p := by
  induction l with
  | nil => intro p hp; rw [List.mem_singleton.1 hp]; simp
  | cons b l ih =>
    unfold spl
    split
    · intro p hp
      rcases List.mem_cons.1 hp with rfl | hp
      · simp
      · exact ih p hp
    · rename_i hb
      exact glue_no c b hb _ ih
theorem keptL_is (s : ByteArray) : keptL s = (spl 38 s.data.toList).filter fun x => !(x == []) := by
  unfold keptL
  rw [Lib.splitB_data]
  have e2 : Lib.splitK (⟨#[38]⟩ : ByteArray).data.toList 0 (Lib.countB s ⟨#[38]⟩) s.data.toList = spl 38 s.data.toList := splitK_spl 38 s.data.toList
  rw [e2]
theorem sortedL_sorted (s : ByteArray) : (sortedL s).Pairwise (· ≤ ·) := by
  have := List.pairwise_mergeSort (le := fun (x y : List UInt8) => decide (x ≤ y)) (fun a b c h1 h2 => by simp only [decide_eq_true_eq] at *; exact List.le_trans h1 h2) (fun a b => by simp only [Bool.or_eq_true, decide_eq_true_eq]; exact List.le_total a b) (keptL s)
  exact this.imp fun h => of_decide_eq_true h
theorem sortedL_perm (s : ByteArray) : (sortedL s).Perm (keptL s) := List.mergeSort_perm _ _
theorem sortedL_of (s t : ByteArray) (h : (keptL s).Perm (keptL t)) : sortedL s = sortedL t := eq_of_sorted ((sortedL_perm s).trans (h.trans (sortedL_perm t).symm)) (sortedL_sorted s) (sortedL_sorted t)
theorem spl_join (l : List (List UInt8)) (h : ∀ p ∈ l, 38 ∉ p) (hne : l ≠ []) : spl 38 (Lib.join l [38]) = l := by
  cases l with
  | nil => exact absurd rfl hne
  | cons a l =>
    rw [Lib.join_cons]
    induction l generalizing a with
    | nil =>
      have e : Lib.joinTail [38] [] = [] := rfl
      rw [e, List.append_nil, spl_one 38 a (h a List.mem_cons_self)]
    | cons b l ih =>
      have e : Lib.joinTail [38] (b :: l) = 38 :: (b ++ Lib.joinTail [38] l) := by unfold Lib.joinTail; simp
      rw [e, spl_app 38 a _ (h a List.mem_cons_self), ih b (fun p hp => h p (List.mem_cons_of_mem _ hp)) (by simp)]
theorem sorted_len2 (s : ByteArray) : (Lib.join (sortedL s) [38]).length ≤ 2 * s.size + 1 := by
  have h1 := join_len_le (sortedL s) [38]
  have h2 : ((sortedL s).map fun x => x.length + ([38] : List UInt8).length).sum = ((keptL s).map fun x => x.length + 1).sum := ((List.mergeSort_perm _ _).map _).sum_nat
  have h3 := sum_filter_le (fun x => !(x == [])) (fun x => x.length + 1) ((Lib.splitB ⟨#[38]⟩ 0 (Lib.countB s ⟨#[38]⟩) s).map (·.data.toList))
  rw [sum_one ((Lib.splitB ⟨#[38]⟩ 0 (Lib.countB s ⟨#[38]⟩) s).map (·.data.toList)), List.length_map, Lib.splitB_data] at h3
  have h4 := splitK_sum (⟨#[38]⟩ : ByteArray).data.toList (Lib.countB s ⟨#[38]⟩) s.data.toList
  have h5 := Lib.splitB_length_le ⟨#[38]⟩ 0 (Lib.countB s ⟨#[38]⟩) s
  have h6 := Lib.countB_le ⟨#[38]⟩ (by decide) s.size s (Nat.le_refl _)
  have h7 : s.data.toList.length = s.size := Array.length_toList
  unfold keptL at h2
  rw [Lib.splitB_data] at h2
  omega
theorem query_twice (s : ByteArray) (hs : s.size ≤ 90) : queryR (queryR s) = queryR s := by
  have e1 : queryR s = ofL (Lib.join (sortedL s) [38]) := by unfold queryR; rw [if_neg (by omega)]
  have hl := sorted_len2 s
  have hz : (queryR s).size ≤ 200 := by rw [e1, ofL_size]; omega
  have e2 : queryR (queryR s) = ofL (Lib.join (sortedL (queryR s)) [38]) := by unfold queryR; rw [if_neg (by unfold queryR at hz; omega)]
  have hmem : ∀ p ∈ sortedL s, 38 ∉ p ∧ p ≠ [] := by
    intro p hp
    have := (sortedL_perm s).subset hp
    rw [keptL_is, List.mem_filter] at this
    exact ⟨spl_no 38 _ p this.1, by simpa using this.2⟩
  have hk : keptL (queryR s) = sortedL s := by
    rw [keptL_is, e1]
    have e3 : (ofL (Lib.join (sortedL s) [38])).data.toList = Lib.join (sortedL s) [38] := by rw [← toList_data, ofL_toList]
    rw [e3]
    by_cases hn : sortedL s = []
    · rw [hn]; rfl
    · rw [spl_join _ (fun p hp => (hmem p hp).1) hn]
      exact List.filter_eq_self.2 fun p hp => by simpa using (hmem p hp).2
  have hs2 : sortedL (queryR s) = sortedL s := by
    have hp := sortedL_perm (queryR s)
    rw [hk] at hp
    exact eq_of_sorted hp (sortedL_sorted _) (sortedL_sorted _)
  rw [e2, hs2, e1]
theorem query_pair (x y : List UInt8) (hx : 38 ∉ x) (hy : 38 ∉ y) (x0 : x ≠ []) (y0 : y ≠ []) (hl : x.length + y.length ≤ 100) :
    queryR (ofL (x ++ 38 :: y)) = queryR (ofL (38 :: (y ++ 38 :: (38 :: x)))) := by
  have d1 : (ofL (x ++ 38 :: y)).data.toList = x ++ 38 :: y := by rw [← toList_data, ofL_toList]
  have d2 : (ofL (38 :: (y ++ 38 :: (38 :: x)))).data.toList = 38 :: (y ++ 38 :: (38 :: x)) := by rw [← toList_data, ofL_toList]
  have k1 : keptL (ofL (x ++ 38 :: y)) = [x, y] := by
    rw [keptL_is, d1, spl_app 38 x y hx, spl_one 38 y hy]
    simp [x0, y0]
  have k2 : keptL (ofL (38 :: (y ++ 38 :: (38 :: x)))) = [y, x] := by
    have e : (38 :: (y ++ 38 :: (38 :: x)) : List UInt8) = [] ++ 38 :: (y ++ 38 :: ([] ++ 38 :: x)) := rfl
    rw [keptL_is, d2, e, spl_app 38 [] _ (by simp), spl_app 38 y _ hy, spl_app 38 [] _ (by simp), spl_one 38 x hx]
    simp [x0, y0]
  have hs : sortedL (ofL (x ++ 38 :: y)) = sortedL (ofL (38 :: (y ++ 38 :: (38 :: x)))) := sortedL_of _ _ (by rw [k1, k2]; exact List.Perm.swap _ _ _)
  have z1 : ¬ (ofL (x ++ 38 :: y)).size > 200 := by rw [ofL_size]; simp only [List.length_append, List.length_cons]; omega
  have z2 : ¬ (ofL (38 :: (y ++ 38 :: (38 :: x)))).size > 200 := by rw [ofL_size]; simp only [List.length_append, List.length_cons]; omega
  unfold queryR
  rw [if_neg z1, if_neg z2, hs]
theorem cut_prefix (p r : List UInt8) (h : 63 ∉ p) : Lib.cut (p ++ 63 :: r) [63] = (p, r, true) := by
  have := cut_at (p ++ 63 :: r) p.length (by simp) (fun j hj e => h (by rw [List.getElem_append_left hj] at e; exact e ▸ List.getElem_mem hj)) (by simp)
  rw [this]
  simp
theorem ev_unique {α : Type} {g : Nat → Option α} {r r' : α} (h : Ev g r) (h' : Ev g r') : r = r' := by
  obtain ⟨K, h⟩ := h
  obtain ⟨K', h'⟩ := h'
  have a := h (K + K') (by omega)
  have b := h' (K + K') (by omega)
  rw [a] at b
  exact Option.some.inj b
theorem ev_climb {α : Type} {g : Nat → Option α} {r : α} (m : ∀ k, LeO (g k) (g (k + 1))) (K : Nat) (h : g K = some r) : Ev g r := by
  refine ⟨K, fun k hk => ?_⟩
  induction k with
  | zero => obtain rfl : K = 0 := by omega
            exact h
  | succ k ih =>
    by_cases c : K = k + 1
    · rw [← c]; exact h
    · exact m k r (ih (by omega))
theorem normal_at (s u : ByteArray) (h : impl_Uncoded.f 40 s = some (u, true)) : Ev (fun k => impl_NormalPath.f k s) (normalR s (u, true)) := by
  obtain ⟨v, h1, _, _, h4⟩ := NormalPath_u s
  have := ev_unique h1 (ev_climb (fun k => impl_Uncoded.mono s k) 40 h)
  subst this
  exact h4
theorem key_one (h t q p : ByteArray) (hh : h.size ≤ 1048576) (ht : t.size ≤ 1048576) (n : ByteArray) (hp : pathQ t = (p, q)) (hn : Ev (fun k => impl_NormalPath.f k p) (n, true)) (hs : n.size ≤ 1000) (hk : tokOk h = true) :
    Ev (fun k => impl_Key.f k h t) (lowT h ++ n ++ (if (queryR q).toList = [] then ⟨#[]⟩ else (⟨#[63]⟩ : ByteArray) ++ queryR q), true) := by
  have e1 : (pathQ t).1 = p := by rw [hp]
  have e2 : (pathQ t).2 = q := by rw [hp]
  have := impl_Key_ev h t hh ht (n, true) (by rw [e1]; exact hn) hs
  rw [e2] at this
  unfold keyR at this
  rw [if_pos ⟨rfl, hk⟩] at this
  exact this
theorem l3Draw_loop (b : List Int) (hb : b.length ≤ 140737488351232) (d : Nat) : ∀ (s : ByteArray) (i h : Int), 0 ≤ i → s.size + 4 * d ≤ 1000 → ∃ r, (0 ≤ r.2.1 ∧ r.1.size ≤ s.size + 4 * d) ∧ ∀ k, d < k → spec_l3Draw.l0 k s (d : Int) b i h = some r := by
  induction d with
  | zero =>
    intro s i h h0 hs
    refine ⟨(s, i, h), ⟨h0, by show s.size ≤ _; omega⟩, fun k hk => ?_⟩
    obtain ⟨k, rfl⟩ : ∃ z, k = z + 1 := ⟨k - 1, by omega⟩
    simp only [spec_l3Draw.l0]
    rw [if_neg (by omega)]
  | succ d ih =>
    intro s i h h0 hs
    obtain ⟨r0, e0, p0⟩ := below_ok b i h 10 h0 hb
    have hy : ∀ j : Int, 0 ≤ j → j < 10 → (rdOf ByteArray.empty [(⟨#[97]⟩ : ByteArray), (⟨#[98]⟩ : ByteArray), (⟨#[46]⟩ : ByteArray), (⟨#[46, 46]⟩ : ByteArray), (⟨#[]⟩ : ByteArray), (⟨#[99, 32, 100]⟩ : ByteArray), (⟨#[37, 52, 49]⟩ : ByteArray), (⟨#[37, 50, 102]⟩ : ByteArray), (⟨#[120, 37]⟩ : ByteArray), (⟨#[126, 107]⟩ : ByteArray)] j).size ≤ 3 := by
      intro j j0 j1
      have key : ∀ x : Fin 10, (rdOf ByteArray.empty [(⟨#[97]⟩ : ByteArray), (⟨#[98]⟩ : ByteArray), (⟨#[46]⟩ : ByteArray), (⟨#[46, 46]⟩ : ByteArray), (⟨#[]⟩ : ByteArray), (⟨#[99, 32, 100]⟩ : ByteArray), (⟨#[37, 52, 49]⟩ : ByteArray), (⟨#[37, 50, 102]⟩ : ByteArray), (⟨#[120, 37]⟩ : ByteArray), (⟨#[126, 107]⟩ : ByteArray)] ((x.1 : Nat) : Int)).size ≤ 3 := by decide
      have := key ⟨j.toNat, by omega⟩
      rwa [show ((j.toNat : Nat) : Int) = j by omega] at this
    have hsz := hy r0.1 p0.1 (p0.2.1 (by decide))
    have h47 : (⟨#[47]⟩ : ByteArray).size = 1 := rfl
    generalize hx : rdOf ByteArray.empty [(⟨#[97]⟩ : ByteArray), (⟨#[98]⟩ : ByteArray), (⟨#[46]⟩ : ByteArray), (⟨#[46, 46]⟩ : ByteArray), (⟨#[]⟩ : ByteArray), (⟨#[99, 32, 100]⟩ : ByteArray), (⟨#[37, 52, 49]⟩ : ByteArray), (⟨#[37, 50, 102]⟩ : ByteArray), (⟨#[120, 37]⟩ : ByteArray), (⟨#[126, 107]⟩ : ByteArray)] r0.1 = x at hsz
    have hs2 : ((s ++ (⟨#[47]⟩ : ByteArray)) ++ x).size = s.size + 1 + x.size := by rw [ByteArray.size_append, ByteArray.size_append, h47]
    obtain ⟨r, p, hr⟩ := ih ((s ++ (⟨#[47]⟩ : ByteArray)) ++ x) r0.2.1 r0.2.2 p0.2.2.2 (by omega)
    refine ⟨r, ⟨p.1, by omega⟩, fun k hk => ?_⟩
    obtain ⟨k, rfl⟩ : ∃ z, k = z + 1 := ⟨k - 1, by omega⟩
    simp only [spec_l3Draw.l0]
    rw [if_pos (by omega), if_pos (by omega)]
    simp only [Option.bind_some]
    rw [e0]
    simp only [Option.bind_some]
    rw [if_pos p0.1, if_pos (by exact p0.2.1 (by decide)), hx, if_pos (by rw [ByteArray.size_append, h47]; omega), wrap_in (i := ((d + 1 : Nat) : Int) - 1) (by omega) (by omega), show ((d + 1 : Nat) : Int) - 1 = (d : Int) by omega]
    exact hr k (by omega)
theorem l3Draw_ok (b : List Int) (hb : b.length ≤ 140737488351232) (i h : Int) (h0 : 0 ≤ i) : TotP (fun k => spec_l3Draw.f k b i h) (fun r => 0 ≤ r.2.1 ∧ r.1.size ≤ 16) := by
  unfold spec_l3Draw.f
  refine TotP.bind (TotP.of (below_ok b i h 4 h0 hb)) fun r0 p0 => ?_
  have h4 := p0.2.1 (by decide)
  have h1 := p0.1
  obtain ⟨r, p, hr⟩ := l3Draw_loop b hb (1 + r0.1).toNat ⟨#[]⟩ r0.2.1 r0.2.2 p0.2.2.2 (by have : (⟨#[]⟩ : ByteArray).size = 0 := rfl; omega)
  refine ⟨r, ⟨(1 + r0.1).toNat + 1, fun k hk => ?_⟩, p.1, by have := p.2; have h2 : (⟨#[]⟩ : ByteArray).size = 0 := rfl; omega⟩
  have := hr k (by omega)
  rw [Int.toNat_of_nonneg (by omega)] at this
  show spec_l3Draw.l0 k _ (wrap64 (1 + r0.1)) _ _ _ = _
  rw [wrap_in (by omega) (by omega)]
  exact this
theorem Key_none (h t : ByteArray) (hh : h.size ≤ 1048576) (ht : t.size ≤ 1048576) : ∃ r, Ev (fun k => spec_Key.f k h t) r ∧ Ev (fun k => impl_Key.f k h t) r ∧ (r.2 = true ∨ r.1.toList = []) := by
  obtain ⟨n, h1, h2, hs⟩ := NormalPath_all (pathQ t).1
  refine ⟨_, ?_, impl_Key_ev h t hh ht n h2 hs, ?_⟩
  · unfold spec_Key.f
    exact spec_Key_loop h t hh ht n h1 hs t.size 0 (by omega) (fun j hj => by omega)
  · unfold keyR
    split
    · exact .inl rfl
    · exact .inr ((toList_nil _).2 rfl)
end Go.Proofs.YtonimccihcodnaaGreatDoor.Q
namespace Go.Proofs.YtonimccihcodnaaGreatDoor.Pure
set_option linter.unusedVariables false
set_option linter.unusedSimpArgs false
open Go.RowKit Go.Proofs.YtonimccihcodnaaGreatDoor.P Go.Proofs.YtonimccihcodnaaGreatDoor.Q Go.Proofs.YtonimccihcodnaaGreatDoorW.PrintWords
theorem drawSortedQuery_ok (b : List Int) (hb : b.length ≤ 140737488351232) : TotP (fun k => spec_DrawSortedQuery.f k b) (fun r => r.size ≤ 12) := by
 unfold spec_DrawSortedQuery.f
 refine TotP.bind (new_ok b hb) fun c pc => ?_
 obtain ⟨c0, c1, c2⟩ := c
 obtain ⟨e, p⟩ := pc
 simp only at e p
 subst e
 exact TotP.bind (drawText_ok _ hb _ _ p _ (by decide) 12 (by decide) (by decide)) fun r1 p1 => TotP.now p1.2
theorem drawKey_ok (b : List Int) (hb : b.length ≤ 140737488351232) : TotP (fun k => spec_DrawKey.f k b) (fun r => r.1.size ≤ 4 ∧ r.2.size ≤ 100) := by
 unfold spec_DrawKey.f
 refine TotP.bind (new_ok b hb) fun c pc => ?_
 obtain ⟨c0, c1, c2⟩ := c
 obtain ⟨e, p⟩ := pc
 simp only at e p
 subst e
 have hy : ∀ j : Int, 0 ≤ j → j < 5 → (rdOf ByteArray.empty [(⟨#[104]⟩ : ByteArray), (⟨#[72, 111, 115, 116]⟩ : ByteArray), (⟨#[97, 46, 98]⟩ : ByteArray), (⟨#[]⟩ : ByteArray), (⟨#[97, 32, 98]⟩ : ByteArray)] j).size ≤ 4 := by
  intro j j0 j1
  have key : ∀ x : Fin 5, (rdOf ByteArray.empty [(⟨#[104]⟩ : ByteArray), (⟨#[72, 111, 115, 116]⟩ : ByteArray), (⟨#[97, 46, 98]⟩ : ByteArray), (⟨#[]⟩ : ByteArray), (⟨#[97, 32, 98]⟩ : ByteArray)] ((x.1 : Nat) : Int)).size ≤ 4 := by decide
  have := key ⟨j.toNat, by omega⟩
  rwa [show ((j.toNat : Nat) : Int) = j by omega] at this
 refine TotP.bind (TotP.of ⟨_, rfl, rfl⟩) fun (l : List ByteArray) (e : _ = l) => ?_
 subst e
 refine TotP.bind (TotP.of (below_ok _ _ _ 5 p hb)) fun r1 p1 => TotP.ite (fun _ => TotP.ite (fun _ => ?_) (fun c => absurd (p1.2.1 (by omega)) c)) (fun c => absurd p1.1 c)
 have hz := hy r1.1 p1.1 (p1.2.1 (by decide))
 refine TotP.bind (l3Draw_ok _ hb _ _ p1.2.2.2) fun r2 p2 => ?_
 have h63 : (⟨#[63]⟩ : ByteArray).size = 1 := rfl
 refine TotP.bind (TotP.of (once_ok _ _ _ 2 p2.1 hb)) fun r3 p3 => TotP.ite (fun _ => TotP.ite (fun _ => ?_) (fun c => absurd (by omega) c)) (fun _ => TotP.now ⟨hz, by show r2.1.size ≤ 100; omega⟩)
 refine TotP.bind (drawText_ok _ hb _ _ p3 _ (by decide) 7 (by decide) (by decide)) fun r4 p4 => ?_
 have h7 : r4.1.size ≤ 7 := p4.2
 refine TotP.ite (fun _ => TotP.now ⟨hz, ?_⟩) (fun c => absurd (by rw [ByteArray.size_append, h63]; omega) c)
 show ((r2.1 ++ (⟨#[63]⟩ : ByteArray)) ++ r4.1).size ≤ 100
 rw [ByteArray.size_append, ByteArray.size_append, h63]; omega
theorem wordsQ (j : Int) (j0 : 0 ≤ j) (j1 : j < 4) : ∃ x : List UInt8, rdOf ByteArray.empty [(⟨#[120, 61, 49]⟩ : ByteArray), (⟨#[121]⟩ : ByteArray), (⟨#[107, 61, 118]⟩ : ByteArray), (⟨#[120, 61, 50]⟩ : ByteArray)] j = ofL x ∧ 38 ∉ x ∧ x ≠ [] ∧ x.length ≤ 3 := by
 have h : j = 0 ∨ j = 1 ∨ j = 2 ∨ j = 3 := by omega
 rcases h with rfl | rfl | rfl | rfl
 ·
  exact ⟨[120, 61, 49], rfl, by decide, by decide, by decide⟩
 ·
  exact ⟨[121], rfl, by decide, by decide, by decide⟩
 ·
  exact ⟨[107, 61, 118], rfl, by decide, by decide, by decide⟩
 ·
  exact ⟨[120, 61, 50], rfl, by decide, by decide, by decide⟩
theorem one_is (x y : List UInt8) : (((⟨#[47, 98, 47, 46, 46, 47, 99, 63]⟩ : ByteArray) ++ ofL x) ++ (⟨#[38]⟩ : ByteArray)) ++ ofL y = ofL ([47, 98, 47, 46, 46, 47, 99] ++ 63 :: (x ++ 38 :: y)) := by
 have e1 : (⟨#[47, 98, 47, 46, 46, 47, 99, 63]⟩ : ByteArray) = ofL [47, 98, 47, 46, 46, 47, 99, 63] := rfl
 have e2 : (⟨#[38]⟩ : ByteArray) = ofL [38] := rfl
 rw [e1, e2, ofL_append, ofL_append, ofL_append]
 simp
theorem two_is (x y : List UInt8) : (((⟨#[47, 37, 54, 51, 63, 38]⟩ : ByteArray) ++ ofL y) ++ (⟨#[38, 38]⟩ : ByteArray)) ++ ofL x = ofL ([47, 37, 54, 51] ++ 63 :: (38 :: (y ++ 38 :: (38 :: x)))) := by
 have e1 : (⟨#[47, 37, 54, 51, 63, 38]⟩ : ByteArray) = ofL [47, 37, 54, 51, 63, 38] := rfl
 have e2 : (⟨#[38, 38]⟩ : ByteArray) = ofL [38, 38] := rfl
 rw [e1, e2, ofL_append, ofL_append, ofL_append]
 simp
theorem pathQ_is (p r : List UInt8) (h : 63 ∉ p) : pathQ (ofL (p ++ 63 :: r)) = (ofL p, ofL r) := by
 unfold pathQ
 have e : (ofL (p ++ 63 :: r)).data.toList = p ++ 63 :: r := by rw [← toList_data, ofL_toList]
 rw [e, cut_prefix p r h]
theorem normal_one : Ev (fun k => impl_NormalPath.f k (ofL [47, 98, 47, 46, 46, 47, 99])) (ofL [47, 99], true) := by
 have := normal_at (ofL [47, 98, 47, 46, 46, 47, 99]) (ofL [47, 98, 47, 46, 46, 47, 99]) (by kernel_rfl)
 have e : normalR (ofL [47, 98, 47, 46, 46, 47, 99]) (ofL [47, 98, 47, 46, 46, 47, 99], true) = (ofL [47, 99], true) := by kernel_rfl
 rwa [e] at this
theorem normal_two : Ev (fun k => impl_NormalPath.f k (ofL [47, 37, 54, 51])) (ofL [47, 99], true) := by
 have := normal_at (ofL [47, 37, 54, 51]) (ofL [47, 99]) (by kernel_rfl)
 have e : normalR (ofL [47, 37, 54, 51]) (ofL [47, 99], true) = (ofL [47, 99], true) := by kernel_rfl
 rwa [e] at this
theorem FnKeys : laws_FnKeys.Pure := by
 intro l hl hs hx
 have hb : l.length ≤ 140737488351232 := by omega
 have hx2 : ∀ x ∈ l, 0 ≤ x ∧ x ≤ 255 := fun x h => by
  have := hx x h
  simp [Lit.wf] at this
  have e1 : IntKind.u8.min = 0 := rfl
  have e2 : IntKind.u8.max = 255 := rfl
  omega
 obtain ⟨q, ⟨K1, h1⟩, q12⟩ := drawSortedQuery_ok l hb
 obtain ⟨⟨h, t⟩, ⟨K2, h2⟩, hh, ht⟩ := drawKey_ok l hb
 simp only at hh ht
 obtain ⟨r, ⟨K3, h3⟩, ⟨K4, h4⟩, hempty⟩ := Key_none h t (by omega) (by omega)
 obtain ⟨K5, h5⟩ := spec_SortedQuery_ev q
 obtain ⟨i, ⟨K6, h6⟩, i0, i1⟩ := pick_ok l hb hx2 1 4 (by decide) (by decide)
 obtain ⟨j, ⟨K7, h7⟩, j0, j1⟩ := pick_ok l hb hx2 2 4 (by decide) (by decide)
 obtain ⟨x, ex, x38, xne, xl⟩ := wordsQ i i0 i1
 obtain ⟨y, ey, y38, yne, yl⟩ := wordsQ j j0 j1
 have z1 : (ofL ([47, 98, 47, 46, 46, 47, 99] ++ 63 :: (x ++ 38 :: y))).size ≤ 1048576 := by rw [ofL_size]; simp; omega
 have z2 : (ofL ([47, 37, 54, 51] ++ 63 :: (38 :: (y ++ 38 :: (38 :: x))))).size ≤ 1048576 := by rw [ofL_size]; simp; omega
 obtain ⟨K8, h8⟩ := key_one (⟨#[72, 46, 97]⟩) (ofL ([47, 98, 47, 46, 46, 47, 99] ++ 63 :: (x ++ 38 :: y))) _ _ (by decide) z1 (ofL [47, 99]) (pathQ_is _ _ (by decide)) normal_one (by decide) (by kernel_rfl)
 obtain ⟨K9, h9⟩ := key_one (⟨#[104, 46, 65]⟩) (ofL ([47, 37, 54, 51] ++ 63 :: (38 :: (y ++ 38 :: (38 :: x))))) _ _ (by decide) z2 (ofL [47, 99]) (pathQ_is _ _ (by decide)) normal_two (by decide) (by kernel_rfl)
 have hq := query_pair x y x38 y38 xne yne (by omega)
 have hlow : lowT ⟨#[72, 46, 97]⟩ = lowT ⟨#[104, 46, 65]⟩ := by kernel_rfl
 rw [← hq, ← hlow] at h9
 generalize (lowT ⟨#[72, 46, 97]⟩ ++ ofL [47, 99] ++ if (queryR (ofL (x ++ 38 :: y))).toList = [] then (⟨#[]⟩ : ByteArray) else (⟨#[63]⟩ : ByteArray) ++ queryR (ofL (x ++ 38 :: y))) = key at h8 h9
 have fin : ∀ k, K6 + K7 + K8 + K9 < k → laws_FnKeys.j0 k l r.1 r.2 false = some true := by
  intro k hk
  obtain ⟨k, rfl⟩ : ∃ z, k = z + 1 := ⟨k - 1, by omega⟩
  have w6 := h6 k (by omega)
  have w7 := h7 k (by omega)
  have w8 := h8 k (by omega)
  have w9 := h9 k (by omega)
  simp only at w6 w7 w8 w9
  have sx : (ofL x).size = x.length := ofL_size x
  have sy : (ofL y).size = y.length := ofL_size y
  have c8 : (⟨#[47, 98, 47, 46, 46, 47, 99, 63]⟩ : ByteArray).size = 8 := rfl
  have c6 : (⟨#[47, 37, 54, 51, 63, 38]⟩ : ByteArray).size = 6 := rfl
  have c1 : (⟨#[38]⟩ : ByteArray).size = 1 := rfl
  have c2 : (⟨#[38, 38]⟩ : ByteArray).size = 2 := rfl
  simp only [laws_FnKeys.j0]
  rw [if_neg (by simp)]
  simp only [Option.bind_some]
  rw [w6]
  simp only [Option.bind_some]
  rw [w7]
  simp only [Option.bind_some]
  rw [ex, ey, if_pos i0, if_pos (by exact i1), if_pos (by omega), if_pos (by rw [ByteArray.size_append, c8]; omega), if_pos j0, if_pos (by exact j1), if_pos (by rw [ByteArray.size_append, ByteArray.size_append, c8, c1]; omega), one_is, w8]
  simp only [Option.bind_some]
  rw [if_pos (by omega), if_pos (by rw [ByteArray.size_append, c6]; omega), if_pos (by rw [ByteArray.size_append, ByteArray.size_append, c6, c2]; omega), two_is, w9]
  simp only [Option.bind_some, if_true]
  by_cases hr : r.2 = true
  ·
   rw [if_pos hr]
  ·
   rw [if_neg hr, hempty.resolve_left hr]
   rfl
 refine ⟨K1 + K2 + K3 + K4 + K5 + K6 + K7 + K8 + K9 + 1, ?_⟩
 have w1 := h1 (K1 + K2 + K3 + K4 + K5 + K6 + K7 + K8 + K9 + 1) (by omega)
 have w2 := h2 (K1 + K2 + K3 + K4 + K5 + K6 + K7 + K8 + K9 + 1) (by omega)
 have w3 := h3 (K1 + K2 + K3 + K4 + K5 + K6 + K7 + K8 + K9 + 1) (by omega)
 have w4 := h4 (K1 + K2 + K3 + K4 + K5 + K6 + K7 + K8 + K9 + 1) (by omega)
 have w5 := h5 (K1 + K2 + K3 + K4 + K5 + K6 + K7 + K8 + K9 + 1) (by omega)
 simp only at w1 w2 w3 w4 w5
 unfold laws_FnKeys.f laws_big.f
 simp only [Option.bind_some]
 by_cases hb2 : decide ((l.length : Int) > 4096) = true
 ·
  rw [if_pos hb2]
 ·
  rw [if_neg hb2, w1]
  simp only [Option.bind_some]
  rw [impl_SortedQuery_is, w2]
  simp only [Option.bind_some]
  rw [w4, w3]
  simp only [Option.bind_some, if_true, bne_self_eq_false]
  rw [if_neg (by simp), w5]
  simp only [Option.bind_some, if_true]
  rw [impl_SortedQuery_is, query_twice q (by omega)]
  simp only [Option.bind_some, bne_self_eq_false]
  exact fin _ (by omega)
end Go.Proofs.YtonimccihcodnaaGreatDoor.Pure
namespace Go.Proofs.YtonimccihcodnaaGreatDoor.fnKeys
open Go.ChangeShapes Go.WideShapes Go.ChangeAt Go.RowKit
open Go.ChangeMaps (open_string shut_string)
set_option linter.unusedVariables false
theorem own : ownKnob Tryz.prog.godebug = none := by kernel_rfl
theorem laidOut : laidOutB Tryz.prog = true := by kernel_rfl
def IsRow (k : IntKind) (w : World) (a : Option Addr) (len cap : Nat) (zs : List Int) : Prop :=
  (a = none ∧ len = 0 ∧ cap = 0 ∧ zs = []) ∨
  ∃ x, a = some x ∧ len ≤ cap ∧ cap ≤ maxLen ∧ zs.length = cap ∧ (∀ i, i < zs.length → w.cell? (x.add i) = some (.int k (zs.getD i 0))) ∧ ∀ n ∈ zs, (Lit.int k n).wf = true
set_option maxRecDepth 100000 in
theorem lifted (os : Os) (started : os.Started) (H : Type) (enc : TypeId × Value → H) :
    ReturnsInHanded {} Tryz.checked os 4 .any (fun w args => (Rows.fnKeysSpec.pre enc Tryz.prog Tryz.f4 [] false w args ∧ laidMetH Tryz.prog Rows.fnKeysRow.laid w) ∧ sizedMet enc Tryz.prog Tryz.f4 (OpenSpec.ofChange Rows.fnKeysSpec) false w args) (Rows.fnKeysSpec.post enc Tryz.prog Tryz.f4 false true false false) := by
  refine RowAid.handed_both (C := Tryz.checked) (X := fun w _ => laidMetH Tryz.prog Rows.fnKeysRow.laid w) (fun _ _ _ hh h => h.of_heap hh) own started (by kernel_rfl) Tryz.func4
    (ChangeSpec.witness_shaped (enc := enc) (C := Tryz.checked) (os := os) (X := fun w _ => laidMetH Tryz.prog Rows.fnKeysRow.laid w) false (World.laidAll Tryz.prog os Rows.fnKeysRow.laid) #[.slice none 0 0] 8 (World.laidAll_os _ _ _)
      (World.shaped_of_ZipB (by kernel_rfl) (by kernel_rfl)) (by kernel_rfl) (by kernel_rfl) (by kernel_rfl)
      (by rw [MakeChecks.laidMetH_plain _ _ _ (by kernel_rfl)]; exact laidMet_laidAll _ (by kernel_rfl) (by kernel_rfl))) ?_
  intro W base args ds gs before hval0 hW hcnd hsz0 hL hSh _
  have hsz : (DataW.weightsEach Tryz.prog (Tryz.f4.params.toList ++ Rows.fnKeysSpec.plain.varTypes Tryz.prog) (ds ++ gs)).all (· ≤ reachBytes) = true := hsz0
  have hval : ∀ (j : Nat) t v, Tryz.f4.params[j]? = some t → args[j]? = some v → Value.okWide Tryz.prog W .any base t v := hval0
  have hW' := hW
  obtain ⟨p, q, hA0, hV, rfl, hfz, hnd⟩ := hW
  have hA : DataW.TrodAll enc Tryz.prog W 0 (fun _ => true) true Tryz.f4.params.toList args.toList ds p := hA0
  rw [Tryz.params4] at hA hval hsz
  obtain ⟨v0, vs0, d0, ds0, p0, q0, hargs, rfl, rfl, h0, r0⟩ := trodAll_cons hA
  obtain ⟨rfl, rfl, rfl⟩ := trodAll_nil r0
  obtain rfl : args = #[v0] := by cases args; simp_all
  obtain ⟨rfl, rfl⟩ := trodVars_none hV
  obtain ⟨a0, len0, cap0, rfl⟩ := okWide_slice Tryz.underlying25 (hval 0 25 v0 rfl rfl)
  have k0 := h0
  have lt0 : ∀ x ∈ p0, x.block < W.heap.size := by obtain ⟨m, hm⟩ := k0; exact DataW.trod_lt m _ _ _ hm
  obtain ⟨z0, w0⟩ : ∃ zs, IsRow .u8 W a0 len0 cap0 zs := by
    obtain ⟨fuel, hf⟩ := h0
    rcases open_ints Tryz.underlying25 Tryz.underlying5 (by kernel_rfl) hf with ⟨hcs, _⟩ | ⟨x, l, c, zs, hcs, _, hl, hm, hz, _, hcell, hwz⟩
    · simp [Value.cells] at hcs
      obtain ⟨rfl, rfl, rfl⟩ := hcs
      exact ⟨[], .inl ⟨rfl, rfl, rfl, rfl⟩⟩
    · simp [Value.cells] at hcs
      obtain ⟨rfl, rfl, rfl⟩ := hcs
      exact ⟨zs, .inr ⟨_, rfl, hl, hm, by simpa using hz, hcell, hwz⟩⟩
  have y0 : len0 * 1 ≤ 140737488351232 := Go.Proofs.YtonimccihcodnaaGreatDoorW.PrintWords.sized_ints hsz (j := 0) (t := 25) rfl rfl Tryz.underlying25 Tryz.underlying5 (by kernel_rfl) (by kernel_rfl) h0
  clear hA0 hval0 hsz0 hsz
  have hXW := RowAid.xw_of (m := 1) hSh Rows.fnKeysRow.laid hL (by kernel_rfl) (fun h_ => absurd h_ (by decide)) (fun h_ => absurd h_ (by decide))
  refine (P.laws_FnKeys.walk Pure.FnKeys a0 len0 cap0 z0 W hXW w0 y0).mono fun e W' ⟨he, bel⟩ => ?_
  subst he
  exact ⟨_, rfl, _, _, _, [], _, [], hW', trodAll_mk1 (shut_bool Tryz.underlying4 _), (trodAll_cons_mk (Below.trod laidOut (by kernel_rfl) (of_decide_eq_true (by kernel_rfl)) k0 bel lt0) trodAll_mk0), rfl, bel.frame _, fun h => by cases h⟩
theorem over : Rows.fnKeysRow.holds Tryz.pinned (OpenSpec.ofChange Rows.fnKeysSpec) :=
  OpenClaim.holds_of_wide 4 Tryz.f4 rfl rfl rfl rfl rfl rfl rfl ⟨rfl, rfl, rfl, rfl, rfl⟩ rfl rfl rfl rfl rfl (by kernel_rfl) Tryz.func4 (by kernel_rfl)
    (of_decide_eq_true (by kernel_rfl)) (by unfold Func.isWrapper; first | (rw [if_pos (by decide +kernel)]; kernel_rfl) | (rw [if_neg (by decide +kernel)]; exact ⟨rfl, rfl⟩))
    (fun os started H enc _ => lifted os started H enc)
theorem proved : Rows.FnKeysSaid := over
#print axioms proved
end Go.Proofs.YtonimccihcodnaaGreatDoor.fnKeys
namespace Go.Proofs.YtonimccihcodnaaGreatDoor
/-- The tied card, under a short name, for the claim. -/
theorem fnKeys_card : Rows.FnKeysCardSaid :=
  Claim7.holds_tied_plain_at .later [] [.data, .data, .data, .data, .sentinel, .sentinel, .pinned] true (true, "5d71cc010c7e5b103ca4b64b465079f0d9553a51a8e5b911972eab9e819bcd7f") true
    fnKeys.proved (fun _ h => by cases h) (by kernel_rfl) (fun _ h => by cases h) fnKeys_row_tie rfl ⟨rfl, rfl⟩ (by kernel_rfl) rfl
    (fun f fn hf hfn => by
      obtain rfl : f = 4 := Option.some.inj ((show Tryz.prog.funcNamed "loop.example/g00207/laws.FnKeys" = some 4 by kernel_rfl).symm.trans hf) |>.symm
      obtain rfl : fn = Tryz.f4 := (Option.some.inj (Tryz.func4.symm.trans hfn)).symm
      exact ⟨by kernel_rfl, fun j t ht => by
        rw [Tryz.params4] at ht
        have hm : t ∈ [25] := by simpa using Array.mem_of_getElem? ht
        have hall : ([25].all fun u => !Tryz.prog.wantsStandIn u) = true := by kernel_rfl
        exact (show Tryz.prog.wantsStandIn t = false by simpa using List.all_eq_true.1 hall t hm)⟩)
    (by kernel_rfl)
#print axioms fnKeys_card
end Go.Proofs.YtonimccihcodnaaGreatDoor
