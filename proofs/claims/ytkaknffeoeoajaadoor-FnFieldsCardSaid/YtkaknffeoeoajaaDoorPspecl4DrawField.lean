/- Functions of the Go program as Lean functions, and proofs that each Go function comes to its Lean function's answers; conditions: those that each theorem states. Written by this session's program hprint.py, which drives the kit's printer. -/
import Derived.Test.YtkaknffeoeoajaaDoorP0
import Derived.Test.YtkaknffeoeoajaaDoorPspecl1Below
import Derived.Test.YtkaknffeoeoajaaDoorPspecl1New
import Derived.Test.YtkaknffeoeoajaaDoorPspecl1Once
import Derived.Test.YtkaknffeoeoajaaDoorXA
import Derived.Test.YtkaknffeoeoajaaDoorXB
namespace Go.Proofs.YtkaknffeoeoajaaDoor.P
open Go.RowKit Go.Proofs.YtkaknffeoeoajaaDoorW.PrintWords Go.Proofs.YtkaknffeoeoajaaDoorW.PrintLast Go.Proofs.YtkaknffeoeoajaaDoorW.PrintMore
attribute [local go_sem] max2_int min2_int max_two min_two max_three min_three max_four min_four   -- for this text's walks alone
set_option linter.unusedVariables false
set_option linter.unusedSimpArgs false

/-! ### spec_l4DrawField: function 65 -/
abbrev spec_l4DrawField.d0 : Array Bool := #[false, false, false, false, false, false, false, false, false, false, false, false, false]
abbrev spec_l4DrawField.d1 : Array Bool := #[false, true, false, false, false, false, false, false, false, false, false, false, false]
abbrev spec_l4DrawField.d2 : Array Bool := #[false, true, false, false, false, false, true, false, false, false, false, false, false]
def spec_l4DrawField.f (s0_0 : List Int) (s0_1 : Int) (s0_2 : Int) : Option (ByteArray × ByteArray × Int × Int) := (some (([(⟨#[97]⟩ : ByteArray), (⟨#[65, 99, 99, 101, 112, 116]⟩ : ByteArray), (⟨#[97, 99, 99, 101, 112, 116]⟩ : ByteArray), (⟨#[120, 45, 98]⟩ : ByteArray), (⟨#[67, 111, 110, 110, 101, 99, 116, 105, 111, 110]⟩ : ByteArray), (⟨#[116, 101]⟩ : ByteArray), (⟨#[118, 97, 114, 121]⟩ : ByteArray)] : List ByteArray) : List ByteArray)).bind fun y102 => ((spec_l1Below.f s0_0 s0_1 s0_2 7).bind fun bt105 => (if 0 ≤ bt105.1 then (if bt105.1 < (y102.length : Int) then ((some (([(⟨#[49]⟩ : ByteArray), (⟨#[97, 44, 32, 98]⟩ : ByteArray), (⟨#[]⟩ : ByteArray), (⟨#[120, 45, 98]⟩ : ByteArray), (⟨#[113, 61, 34, 97, 44, 98, 34]⟩ : ByteArray), (⟨#[97]⟩ : ByteArray)] : List ByteArray) : List ByteArray)).bind fun y109 => ((spec_l1Below.f s0_0 bt105.2.1 bt105.2.2 6).bind fun bt112 => (if 0 ≤ bt112.1 then (if bt112.1 < (y109.length : Int) then ((spec_l1Once.f s0_0 bt112.2.1 bt112.2.2 24).bind fun bt117 => (if bt117.1 = true then ((spec_l1Below.f s0_0 bt117.2.1 bt117.2.2 2).bind fun bt120 => (if bt120.1 = 0 then ((some (([(⟨#[]⟩ : ByteArray), (⟨#[97, 32, 98]⟩ : ByteArray), (⟨#[97, 58]⟩ : ByteArray), (⟨#[0]⟩ : ByteArray)] : List ByteArray) : List ByteArray)).bind fun y123 => ((spec_l1Below.f s0_0 bt120.2.1 bt120.2.2 4).bind fun bt126 => (if 0 ≤ bt126.1 then (if bt126.1 < (y123.length : Int) then (some (rdOf ByteArray.empty y123 bt126.1, rdOf ByteArray.empty y109 bt112.1, bt126.2.1, bt126.2.2)) else (none)) else (none)))) else (if bt120.1 = 1 then ((some (([(⟨#[32, 97]⟩ : ByteArray), (⟨#[97, 10]⟩ : ByteArray), (⟨#[97, 127]⟩ : ByteArray), (⟨#[97, 9]⟩ : ByteArray)] : List ByteArray) : List ByteArray)).bind fun y130 => ((spec_l1Below.f s0_0 bt120.2.1 bt120.2.2 4).bind fun bt133 => (if 0 ≤ bt133.1 then (if bt133.1 < (y130.length : Int) then (some (rdOf ByteArray.empty y102 bt105.1, rdOf ByteArray.empty y130 bt133.1, bt133.2.1, bt133.2.2)) else (none)) else (none)))) else (some (rdOf ByteArray.empty y102 bt105.1, rdOf ByteArray.empty y109 bt112.1, bt120.2.1, bt120.2.2))))) else (some (rdOf ByteArray.empty y102 bt105.1, rdOf ByteArray.empty y109 bt112.1, bt117.2.1, bt117.2.2)))) else (none)) else (none)))) else (none)) else (none)))
def spec_l4DrawField.T1 : Bool × List (List Nat × List Nat) := (true, [([], []), ([], []), ([1], [1]), ([0, 2], [0, 2]), ([3], [3]), ([], []), ([], []), ([6, 2], [6]), ([5, 7], [5, 7]), ([8], [8]), ([4, 9], [4, 9]), ([], []), ([11, 10, 7, 0, 1, 2, 3, 4, 5, 6, 7, 8, 9, 10, 11], [10, 11])])
def spec_l4DrawField.B1 : List Nat := [0, 0, 2, 7, 15, 0, 0, 70, 230, 486, 1023, 0, 4095]
theorem spec_l4DrawField.tab1 : rtab .any (opsOf Tryd.f65 1) = spec_l4DrawField.T1 := by kernel_rfl
theorem spec_l4DrawField.bits1 : waitsOk spec_l4DrawField.T1.2 spec_l4DrawField.B1 = true := by kernel_rfl
set_option maxHeartbeats 8000000 in
set_option maxRecDepth 100000 in
theorem spec_l4DrawField.calls (g : Nat) (s0_0 : List Int) (s0_1 : Int) (s0_2 : Int) (r1 : ByteArray) (r2 : ByteArray) (r3 : Int) (r4 : Int) (w0 w : World) (hI : IsS79 w0 w g s0_0 s0_1 s0_2) (hB : Below w0.heap.size w0 w) (h : spec_l4DrawField.f s0_0 s0_1 s0_2 = some (r1, r2, r3, r4)) :
  Calls Tryd.prog 65 #[.pointer (some ⟨g, 0, none⟩)] w fun e w' => e = .returned (.agg #[.string r1, .string r2]) ∧ IsS79 w0 w' g s0_0 r3 r4 ∧ Below w0.heap.size w0 w' ∧ KeepBut w w' g none := by
 have hu43 := Tryd.underlying43
 have HG0_ := Aside0.mk (IsS79.lt hI)
 have HI0 := Aside0.mk hI
 have HK := Aside0.mk (KeepBut.refl w g none)
 have HL := Aside0.mk hB.size
 clear hI
 have HW0 := Aside0.mk hB.size
 have HB := Aside0.mk hB
 clear hB
 have H := h
 unfold spec_l4DrawField.f at H
 clear h
 obtain ⟨y102, hy102⟩ : ∃ y_ : List ByteArray, y_ = (([(⟨#[97]⟩ : ByteArray), (⟨#[65, 99, 99, 101, 112, 116]⟩ : ByteArray), (⟨#[97, 99, 99, 101, 112, 116]⟩ : ByteArray), (⟨#[120, 45, 98]⟩ : ByteArray), (⟨#[67, 111, 110, 110, 101, 99, 116, 105, 111, 110]⟩ : ByteArray), (⟨#[116, 101]⟩ : ByteArray), (⟨#[118, 97, 114, 121]⟩ : ByteArray)] : List ByteArray)) := ⟨_, rfl⟩
 replace H : ((spec_l1Below.f s0_0 s0_1 s0_2 7).bind fun bt105 => (if 0 ≤ bt105.1 then (if bt105.1 < (y102.length : Int) then ((some (([(⟨#[49]⟩ : ByteArray), (⟨#[97, 44, 32, 98]⟩ : ByteArray), (⟨#[]⟩ : ByteArray), (⟨#[120, 45, 98]⟩ : ByteArray), (⟨#[113, 61, 34, 97, 44, 98, 34]⟩ : ByteArray), (⟨#[97]⟩ : ByteArray)] : List ByteArray) : List ByteArray)).bind fun y109 => ((spec_l1Below.f s0_0 bt105.2.1 bt105.2.2 6).bind fun bt112 => (if 0 ≤ bt112.1 then (if bt112.1 < (y109.length : Int) then ((spec_l1Once.f s0_0 bt112.2.1 bt112.2.2 24).bind fun bt117 => (if bt117.1 = true then ((spec_l1Below.f s0_0 bt117.2.1 bt117.2.2 2).bind fun bt120 => (if bt120.1 = 0 then ((some (([(⟨#[]⟩ : ByteArray), (⟨#[97, 32, 98]⟩ : ByteArray), (⟨#[97, 58]⟩ : ByteArray), (⟨#[0]⟩ : ByteArray)] : List ByteArray) : List ByteArray)).bind fun y123 => ((spec_l1Below.f s0_0 bt120.2.1 bt120.2.2 4).bind fun bt126 => (if 0 ≤ bt126.1 then (if bt126.1 < (y123.length : Int) then (some (rdOf ByteArray.empty y123 bt126.1, rdOf ByteArray.empty y109 bt112.1, bt126.2.1, bt126.2.2)) else (none)) else (none)))) else (if bt120.1 = 1 then ((some (([(⟨#[32, 97]⟩ : ByteArray), (⟨#[97, 10]⟩ : ByteArray), (⟨#[97, 127]⟩ : ByteArray), (⟨#[97, 9]⟩ : ByteArray)] : List ByteArray) : List ByteArray)).bind fun y130 => ((spec_l1Below.f s0_0 bt120.2.1 bt120.2.2 4).bind fun bt133 => (if 0 ≤ bt133.1 then (if bt133.1 < (y130.length : Int) then (some (rdOf ByteArray.empty y102 bt105.1, rdOf ByteArray.empty y130 bt133.1, bt133.2.1, bt133.2.2)) else (none)) else (none)))) else (some (rdOf ByteArray.empty y102 bt105.1, rdOf ByteArray.empty y109 bt112.1, bt120.2.1, bt120.2.2))))) else (some (rdOf ByteArray.empty y102 bt105.1, rdOf ByteArray.empty y109 bt112.1, bt117.2.1, bt117.2.2)))) else (none)) else (none)))) else (none)) else (none))) = some (r1, r2, r3, r4) := by first | (rw [hy102]; with_reducible exact H) | (have H2_ := (Option.bind_some _ _).symm.trans H; rw [hy102]; with_reducible exact H2_) | (have H2_ := (Option.bind_some _ _).symm.trans H; with_reducible exact H2_) | with_reducible exact H | (rw [hy102]; exact H) | exact H
 have Ny102 := Aside0.mk hy102
 clear hy102
 obtain ⟨⟨t105, t106, t107⟩, A20, H⟩ := Option.bind_eq_some_iff.mp H
 try dsimp only at H
 have A2 := Aside0.mk A20
 clear A20
 by_cases c3 : 0 ≤ t105
 ·
  rw [if_pos c3] at H
  have c3b0 : decide (0 ≤ t105) = true := decide_eq_true c3
  clear c3
  by_cases c4 : t105 < (y102.length : Int)
  ·
   rw [if_pos c4] at H
   have c4b0 : decide (t105 < (y102.length : Int)) = true := decide_eq_true c4
   clear c4
   obtain ⟨y109, hy109⟩ : ∃ y_ : List ByteArray, y_ = (([(⟨#[49]⟩ : ByteArray), (⟨#[97, 44, 32, 98]⟩ : ByteArray), (⟨#[]⟩ : ByteArray), (⟨#[120, 45, 98]⟩ : ByteArray), (⟨#[113, 61, 34, 97, 44, 98, 34]⟩ : ByteArray), (⟨#[97]⟩ : ByteArray)] : List ByteArray)) := ⟨_, rfl⟩
   replace H : ((spec_l1Below.f s0_0 t106 t107 6).bind fun bt112 => (if 0 ≤ bt112.1 then (if bt112.1 < (y109.length : Int) then ((spec_l1Once.f s0_0 bt112.2.1 bt112.2.2 24).bind fun bt117 => (if bt117.1 = true then ((spec_l1Below.f s0_0 bt117.2.1 bt117.2.2 2).bind fun bt120 => (if bt120.1 = 0 then ((some (([(⟨#[]⟩ : ByteArray), (⟨#[97, 32, 98]⟩ : ByteArray), (⟨#[97, 58]⟩ : ByteArray), (⟨#[0]⟩ : ByteArray)] : List ByteArray) : List ByteArray)).bind fun y123 => ((spec_l1Below.f s0_0 bt120.2.1 bt120.2.2 4).bind fun bt126 => (if 0 ≤ bt126.1 then (if bt126.1 < (y123.length : Int) then (some (rdOf ByteArray.empty y123 bt126.1, rdOf ByteArray.empty y109 bt112.1, bt126.2.1, bt126.2.2)) else (none)) else (none)))) else (if bt120.1 = 1 then ((some (([(⟨#[32, 97]⟩ : ByteArray), (⟨#[97, 10]⟩ : ByteArray), (⟨#[97, 127]⟩ : ByteArray), (⟨#[97, 9]⟩ : ByteArray)] : List ByteArray) : List ByteArray)).bind fun y130 => ((spec_l1Below.f s0_0 bt120.2.1 bt120.2.2 4).bind fun bt133 => (if 0 ≤ bt133.1 then (if bt133.1 < (y130.length : Int) then (some (rdOf ByteArray.empty y102 t105, rdOf ByteArray.empty y130 bt133.1, bt133.2.1, bt133.2.2)) else (none)) else (none)))) else (some (rdOf ByteArray.empty y102 t105, rdOf ByteArray.empty y109 bt112.1, bt120.2.1, bt120.2.2))))) else (some (rdOf ByteArray.empty y102 t105, rdOf ByteArray.empty y109 bt112.1, bt117.2.1, bt117.2.2)))) else (none)) else (none))) = some (r1, r2, r3, r4) := by first | (rw [hy109]; with_reducible exact H) | (have H2_ := (Option.bind_some _ _).symm.trans H; rw [hy109]; with_reducible exact H2_) | (have H2_ := (Option.bind_some _ _).symm.trans H; with_reducible exact H2_) | with_reducible exact H | (rw [hy109]; exact H) | exact H
   have Ny109 := Aside0.mk hy109
   clear hy109
   obtain ⟨⟨t112, t113, t114⟩, A50, H⟩ := Option.bind_eq_some_iff.mp H
   try dsimp only at H
   have A5 := Aside0.mk A50
   clear A50
   by_cases c6 : 0 ≤ t112
   ·
    rw [if_pos c6] at H
    have c6b0 : decide (0 ≤ t112) = true := decide_eq_true c6
    clear c6
    by_cases c7 : t112 < (y109.length : Int)
    ·
     rw [if_pos c7] at H
     have c7b0 : decide (t112 < (y109.length : Int)) = true := decide_eq_true c7
     clear c7
     obtain ⟨⟨t117, t118, t119⟩, A80, H⟩ := Option.bind_eq_some_iff.mp H
     try dsimp only at H
     have A8 := Aside0.mk A80
     clear A80
     by_cases c9 : t117 = true
     ·
      subst c9
      rw [if_pos rfl] at H
      obtain ⟨⟨t120, t121, t122⟩, A100, H⟩ := Option.bind_eq_some_iff.mp H
      try dsimp only at H
      have A10 := Aside0.mk A100
      clear A100
      by_cases c11 : t120 = 0
      ·
       rw [if_pos c11] at H
       have c11b0 : (t120 == 0) = true := beq_iff_eq.mpr c11
       have c11b1 : (t120 != 0) = false := bne_eq_false_iff_eq.mpr c11
       clear c11
       obtain ⟨y123, hy123⟩ : ∃ y_ : List ByteArray, y_ = (([(⟨#[]⟩ : ByteArray), (⟨#[97, 32, 98]⟩ : ByteArray), (⟨#[97, 58]⟩ : ByteArray), (⟨#[0]⟩ : ByteArray)] : List ByteArray)) := ⟨_, rfl⟩
       replace H : ((spec_l1Below.f s0_0 t121 t122 4).bind fun bt126 => (if 0 ≤ bt126.1 then (if bt126.1 < (y123.length : Int) then (some (rdOf ByteArray.empty y123 bt126.1, rdOf ByteArray.empty y109 t112, bt126.2.1, bt126.2.2)) else (none)) else (none))) = some (r1, r2, r3, r4) := by first | (rw [hy123]; with_reducible exact H) | (have H2_ := (Option.bind_some _ _).symm.trans H; rw [hy123]; with_reducible exact H2_) | (have H2_ := (Option.bind_some _ _).symm.trans H; with_reducible exact H2_) | with_reducible exact H | (rw [hy123]; exact H) | exact H
       have Ny123 := Aside0.mk hy123
       clear hy123
       obtain ⟨⟨t126, t127, t128⟩, A120, H⟩ := Option.bind_eq_some_iff.mp H
       try dsimp only at H
       have A12 := Aside0.mk A120
       clear A120
       by_cases c13 : 0 ≤ t126
       ·
        rw [if_pos c13] at H
        have c13b0 : decide (0 ≤ t126) = true := decide_eq_true c13
        clear c13
        by_cases c14 : t126 < (y123.length : Int)
        ·
         rw [if_pos c14] at H
         have c14b0 : decide (t126 < (y123.length : Int)) = true := decide_eq_true c14
         clear c14
         simp only [Option.some.injEq, Prod.mk.injEq] at H
         obtain ⟨rfl, rfl, rfl, rfl⟩ := H
         go_enter Tryd.func65, Tryd.ntmps65
         try go_wp2_with (first | ((with_reducible refine gate_dst (N := 2) rfl ?_); refine bx 2 #[.string (⟨#[]⟩ : ByteArray), .string (⟨#[]⟩ : ByteArray)] 43 ?_; intro gb101 hg w15 hbox hb; have BK101 := Aside0.mk (hbox); have GW101 := Aside0.mk ((zsz hg : w.heap.size ≤ gb101)); have GE101 := Aside0.mk ((Nat.le_trans HW0.out (zsz hg : w.heap.size ≤ gb101) : w0.heap.size ≤ gb101)); have NB0_101 := Aside0.mk ((by rw [hg]; exact Nat.ne_of_lt (Nat.lt_of_lt_of_le HG0_.out (keep_size (w := w) (g := g) (row := none) zkk)) : g ≠ gb101)); have NB101_0 := Aside0.mk ((by rw [hg]; exact Nat.ne_of_gt (Nat.lt_of_lt_of_le HG0_.out (keep_size (w := w) (g := g) (row := none) zkk)) : gb101 ≠ g)); replace HK := Aside0.mk (KeepBut.trans zkk (KeepBut.of_below hb g none) (.inl rfl)); replace HI0 := Aside0.mk (IsS79.below zis hb); replace HB := Aside0.mk (below_step zbh hb); clear hb hbox hg))
         have pi108 : (0 ≤ (t105 : Int)) = True := eq_true (of_decide_eq_true (by first | (with_reducible assumption) | assumption))
         have qi108 : (t105 < (y102.length : Int)) = True := eq_true (of_decide_eq_true (by first | (with_reducible assumption) | assumption))
         have pi115 : (0 ≤ (t112 : Int)) = True := eq_true (of_decide_eq_true (by first | (with_reducible assumption) | assumption))
         have qi115 : (t112 < (y109.length : Int)) = True := eq_true (of_decide_eq_true (by first | (with_reducible assumption) | assumption))
         replace BK101 := Aside0.mk (blk_drew BK101.out)
         replace HK := Aside0.mk (keep_drew HK.out)
         replace HI0 := Aside0.mk (IsS79.drew HI0.out)
         replace HB := Aside0.mk (below_drew1 HB.out)
         refine start_ (n := 13) (S := fun w' => True) (ds := []) spec_l4DrawField.d0 (by kernel_rfl) rfl rfl trivial (fun hHeld => ?_); refine with_tabW spec_l4DrawField.tab1 spec_l4DrawField.bits1 (fun HT_ HW_ => ?_)
         generalize w15.drew = w16 at BK101 HI0 HK HB hHeld ⊢
         refine pu 1 5 spec_l4DrawField.d1 HT_ ?_
         refine pu 6 10 spec_l4DrawField.d2 HT_ ?_
         refine inv_at [0, 2, 3, 4, 5, 7, 8, 9, 10, 11, 12] (fun a0_ b a w' => ∃ (v103 : Value) (adz_v103 : Addr) (v110 : Value) (adz_v110 : Addr) (gb116 : Nat) (m3_ : Value) (m8_ : Value) (m11_ : Value), a = putSel a0_ b [(0, 4, v103), (2, 6, .int .i64 t105), (3, 7, m3_), (4, 8, .string (rdOf ByteArray.empty y102 t105)), (5, 9, v110), (7, 11, .int .i64 t112), (8, 12, m8_), (9, 13, .string (rdOf ByteArray.empty y109 t112)), (10, 14, .agg #[.string (rdOf ByteArray.empty y102 t105), .string (rdOf ByteArray.empty y109 t112)]), (11, 3, m11_)] ∧ (w'.heap[gb101]? = some (.cells #[.string (⟨#[]⟩ : ByteArray), .string (⟨#[]⟩ : ByteArray)] 43 (0, 0))) ∧ (b 2 = false → IsS79 w0 w' g s0_0 s0_1 s0_2) ∧ (KeepBut w w' g none) ∧ (Below w0.heap.size w0 w') ∧ (b 0 = true → Kd.R Kd.string 9 w' w.heap.size (fun _ => True) v103 y102) ∧ (b 0 = true → ∃ c_, (v103 : Value) = .slice (some adz_v103) y102.length c_) ∧ (b 2 = true → b 7 = false → IsS79 w0 w' g s0_0 t106 t107) ∧ (b 5 = true → Kd.R Kd.string 9 w' w.heap.size (fun _ => True) v110 y109) ∧ (b 5 = true → ∃ c_, (v110 : Value) = .slice (some adz_v110) y109.length c_) ∧ (b 7 = true → IsS79 w0 w' g s0_0 t113 t114) ∧ (b 11 = true → b 12 = false → w'.heap[gb116]? = some (.cells #[.string (⟨#[]⟩ : ByteArray), .string (⟨#[]⟩ : ByteArray)] 43 (0, 0))) ∧ (b 11 = true → w.heap.size ≤ gb116) ∧ (b 11 = true → w0.heap.size ≤ gb116) ∧ (b 11 = true → g ≠ gb116) ∧ (b 11 = true → gb116 ≠ g) ∧ (b 11 = true → gb101 ≠ gb116) ∧ (b 11 = true → gb116 ≠ gb101) ∧ (b 12 = true → w'.heap[gb116]? = some (.cells #[.string (rdOf ByteArray.empty y102 t105), .string (rdOf ByteArray.empty y109 t112)] 43 (0, 0))) ∧ (b 3 = true → (m3_ : Value) = .pointer (some (adz_v103.add (t105).toNat))) ∧ (b 8 = true → (m8_ : Value) = .pointer (some (adz_v110.add (t112).toNat))) ∧ (b 11 = true → (m11_ : Value) = .pointer (some ⟨gb116, 0, none⟩))) HT_.out HW_.out (by kernel_rfl) (by kernel_rfl) ?_ ?_ ?_
         ·
          exact ⟨.bool false, ⟨0, 0, none⟩, .bool false, ⟨0, 0, none⟩, 0, .bool false, .bool false, .bool false, by simp only [putSel, Bool.false_eq_true, if_false], BK101.out, fun _ => HI0.out, HK.out, HB.out, fun h_ => absurd h_ (by decide), fun h_ => absurd h_ (by decide), fun h_ => absurd h_ (by decide), fun h_ => absurd h_ (by decide), fun h_ => absurd h_ (by decide), fun h_ => absurd h_ (by decide), fun h_ => absurd h_ (by decide), fun h_ => absurd h_ (by decide), fun h_ => absurd h_ (by decide), fun h_ => absurd h_ (by decide), fun h_ => absurd h_ (by decide), fun h_ => absurd h_ (by decide), fun h_ => absurd h_ (by decide), fun h_ => absurd h_ (by decide), fun h_ => absurd h_ (by decide), fun h_ => absurd h_ (by decide), fun h_ => absurd h_ (by decide)⟩
         ·
          skip
          clear BK101 HB HI0 HK
          refine steps_cons ?_ ?_
          ·
           rintro b a w' ⟨v103, adz_v103, v110, adz_v110, gb116, m3_, m8_, m11_, ha, Q_BK101, Q_HI0, Q_HK, Q_HB, Q_HO104, Q_HA_HO104, Q_HI0_e2, Q_HO111, Q_HA_HO111, Q_HI0_e7, Q_BK116, Q_GW116, Q_GE116, Q_NB0_116, Q_NB116_0, Q_NB101_116, Q_NB116_101, Q_BK116_e12, Q_X3_, Q_X8_, Q_X11_⟩ hb_ hon hoff
           refine ⟨_, rfl, fun K hK => ?_⟩
           replace ha := Aside0.mk ha
           have BK101 := Aside0.mk Q_BK101
           have HK := Aside0.mk Q_HK
           have HB := Aside0.mk Q_HB
           refine Kd.R_lit_step Kd.string _ 9 ?hg (N := 4) ?hd (xs := ([(⟨#[97]⟩ : ByteArray), (⟨#[65, 99, 99, 101, 112, 116]⟩ : ByteArray), (⟨#[97, 99, 99, 101, 112, 116]⟩ : ByteArray), (⟨#[120, 45, 98]⟩ : ByteArray), (⟨#[67, 111, 110, 110, 101, 99, 116, 105, 111, 110]⟩ : ByteArray), (⟨#[116, 101]⟩ : ByteArray), (⟨#[118, 97, 114, 121]⟩ : ByteArray)] : List ByteArray)) (inner := [.string (⟨#[97]⟩ : ByteArray), .string (⟨#[65, 99, 99, 101, 112, 116]⟩ : ByteArray), .string (⟨#[97, 99, 99, 101, 112, 116]⟩ : ByteArray), .string (⟨#[120, 45, 98]⟩ : ByteArray), .string (⟨#[67, 111, 110, 110, 101, 99, 116, 105, 111, 110]⟩ : ByteArray), .string (⟨#[116, 101]⟩ : ByteArray), .string (⟨#[118, 97, 114, 121]⟩ : ByteArray)]) (ok := fun _ => True) (okp := fun _ => True) ?hr ?hp (fun _ hk => hk) trivial (Below.refl _ _) (Nat.le_refl _) (by simp) ?_; (case hd => rfl); (case hg => rfl); (case hr => first | (go_simp; done) | (go_simp; rfl)); (case hp => exact (Reps.one (show Kd.M Kd.string _ _ _ (⟨#[97]⟩ : ByteArray) [.string (⟨#[97]⟩ : ByteArray)] from rfl) (Reps.one (show Kd.M Kd.string _ _ _ (⟨#[65, 99, 99, 101, 112, 116]⟩ : ByteArray) [.string (⟨#[65, 99, 99, 101, 112, 116]⟩ : ByteArray)] from rfl) (Reps.one (show Kd.M Kd.string _ _ _ (⟨#[97, 99, 99, 101, 112, 116]⟩ : ByteArray) [.string (⟨#[97, 99, 99, 101, 112, 116]⟩ : ByteArray)] from rfl) (Reps.one (show Kd.M Kd.string _ _ _ (⟨#[120, 45, 98]⟩ : ByteArray) [.string (⟨#[120, 45, 98]⟩ : ByteArray)] from rfl) (Reps.one (show Kd.M Kd.string _ _ _ (⟨#[67, 111, 110, 110, 101, 99, 116, 105, 111, 110]⟩ : ByteArray) [.string (⟨#[67, 111, 110, 110, 101, 99, 116, 105, 111, 110]⟩ : ByteArray)] from rfl) (Reps.one (show Kd.M Kd.string _ _ _ (⟨#[116, 101]⟩ : ByteArray) [.string (⟨#[116, 101]⟩ : ByteArray)] from rfl) (Reps.one (show Kd.M Kd.string _ _ _ (⟨#[118, 97, 114, 121]⟩ : ByteArray) [.string (⟨#[118, 97, 114, 121]⟩ : ByteArray)] from rfl) (Reps.none _ _)))))))))
           intro v103 w17 ho18 hb hg_ hnew_
           clear hg_ hnew_
           (first | rw [← Ny102.out] at ho18 | (simp only [Int.reduceToNat] at ho18; rw [← Ny102.out] at ho18))
           have n0_ := Aside0.mk (Kd.R_lower ho18 (keep_size (w := w) (g := g) (row := none) zkk))
           have n2_ := Aside0.mk (blk_below (g := gb101) (o := .cells #[.string (⟨#[]⟩ : ByteArray), .string (⟨#[]⟩ : ByteArray)] 43 (0, 0)) bk hb)
           have n3_ := Aside0.mk (KeepBut.trans zkk (KeepBut.of_below hb g none) (.inl rfl))
           have n4_ := Aside0.mk (below_step bh hb)
           have z_HI0 := fun (h0_ : b 2 = false) => (show IsS79 w0 w17 g s0_0 s0_1 s0_2 from by first | exact (IsS79.below (by repeat (first | (with_reducible first | exact (Q_HI0 h0_) | apply IsS79.alloc | apply IsS79.drewN | apply IsS79.drew | apply IsS79.set_1 | apply IsS79.set_2 | refine IsS79.far ?_ NB0_101.out _) | exact (Q_HI0 h0_))) hb))
           have z_HI0_e2 := fun (h0_ : b 2 = true) (h1_ : b 7 = false) => (show IsS79 w0 w17 g s0_0 t106 t107 from by first | exact (IsS79.below (by repeat (first | (with_reducible first | exact (Q_HI0_e2 h0_ h1_) | apply IsS79.alloc | apply IsS79.drewN | apply IsS79.drew | apply IsS79.set_1 | apply IsS79.set_2 | refine IsS79.far ?_ NB0_101.out _) | exact (Q_HI0_e2 h0_ h1_))) hb))
           have z_HO111 := fun (h0_ : b 5 = true) => (show Kd.R Kd.string 9 w17 w.heap.size (fun _ => True) v110 y109 from by first | exact (Kd.R_elder' (by (with_reducible repeat (first | apply Kd.R_alloc | apply Kd.R_drewN | apply Kd.R_drew)); exact (Q_HO111 h0_)) (Kd.R_base ho18) hb) | exact Kd.R_mono (Kd.R_elder' (by (with_reducible repeat (first | apply Kd.R_alloc | apply Kd.R_drewN | apply Kd.R_drew)); exact (Q_HO111 h0_)) (Kd.R_base ho18) hb) (fun _ h_ => by first | trivial | exact h_ | exact h_.1))
           have z_HI0_e7 := fun (h0_ : b 7 = true) => (show IsS79 w0 w17 g s0_0 t113 t114 from by first | exact (IsS79.below (by repeat (first | (with_reducible first | exact (Q_HI0_e7 h0_) | apply IsS79.alloc | apply IsS79.drewN | apply IsS79.drew | apply IsS79.set_1 | apply IsS79.set_2 | refine IsS79.far ?_ NB0_101.out _) | exact (Q_HI0_e7 h0_))) hb))
           have z_BK116 := fun (h0_ : b 11 = true) (h1_ : b 12 = false) => (show w17.heap[gb116]? = some (.cells #[.string (⟨#[]⟩ : ByteArray), .string (⟨#[]⟩ : ByteArray)] 43 (0, 0)) from by first | exact (blk_below (g := gb116) (o := .cells #[.string (⟨#[]⟩ : ByteArray), .string (⟨#[]⟩ : ByteArray)] 43 (0, 0)) (by (with_reducible repeat (first | refine blk_drewN ?_ _ | refine blk_drew ?_ | refine blk_alloc ?_ _)); exact (Q_BK116 h0_ h1_)) hb))
           clear BK101
           clear HK
           clear HB
           have HO104 := n0_
           have BK101 := n2_
           have HK := n3_
           have HB := n4_
           clear n0_ n2_ n3_ n4_
           clear hb ho18
           obtain ⟨Ao19, co19, eo19⟩ := Kd.R_slice HO104.out
           subst eo19
           obtain ⟨ado19, fo19, _⟩ := Kd.at_string (Kd.R_reads' HO104.out).2.2 0 (by decide) (by rw [Ny102.out]; simp)
           cases fo19
           refine hK.out _ _ ⟨.slice (some ado19) y102.length co19, ado19, v110, adz_v110, gb116, m3_, m8_, m11_, (by rw [ha.out]; exact putSel_upk 0 hb_ rfl rfl rfl), bk, z_HI0, zkk, bh, fun _ => (by (with_reducible repeat (first | apply Kd.R_alloc | apply Kd.R_drewN | apply Kd.R_drew)); exact HO104.out), fun _ => ⟨_, rfl⟩, z_HI0_e2, z_HO111, Q_HA_HO111, z_HI0_e7, z_BK116, Q_GW116, Q_GE116, Q_NB0_116, Q_NB116_0, Q_NB101_116, Q_NB116_101, fun h0_ => absurd ((hoff 12 (by kernel_rfl)).symm.trans h0_) (by decide), fun h0_ => absurd ((hoff 3 (by kernel_rfl)).symm.trans h0_) (by decide), Q_X8_, Q_X11_⟩
          refine steps_cons ?_ ?_
          ·
           rintro b a w' ⟨v103, adz_v103, v110, adz_v110, gb116, m3_, m8_, m11_, ha, Q_BK101, Q_HI0, Q_HK, Q_HB, Q_HO104, Q_HA_HO104, Q_HI0_e2, Q_HO111, Q_HA_HO111, Q_HI0_e7, Q_BK116, Q_GW116, Q_GE116, Q_NB0_116, Q_NB116_0, Q_NB101_116, Q_NB116_101, Q_BK116_e12, Q_X3_, Q_X8_, Q_X11_⟩ hb_ hon hoff
           refine ⟨_, rfl, fun K hK => ?_⟩
           have e5 : a.tmps[5]? = some (.pointer (some ⟨g, 0, none⟩)) := by rw [ha]; exact (putSel_off rfl).trans rfl
           replace ha := Aside0.mk ha
           have BK101 := Aside0.mk Q_BK101
           have HI0 := Aside0.mk (Q_HI0 hb_)
           have HK := Aside0.mk Q_HK
           have HB := Aside0.mk Q_HB
           refine goes_ Tryd.func64 (by kernel_rfl) rfl #[.pointer (some ⟨g, 0, none⟩), .int .i64 7] (by rfl) rfl rfl (by first | (simp only [List.map_toArray, List.map_cons, List.map_nil, Act.eval, Array.getD_eq_getD_getElem?, Option.getD_some, e5]; done) | (simp only [List.map_toArray, List.map_cons, List.map_nil, Act.eval, Array.getD_eq_getD_getElem?, Option.getD_some, e5]; rfl)) ?_
           with_reducible refine (spec_l1Below.calls g s0_0 s0_1 s0_2 7 t105 t106 t107 w0 _ ?side1 ?side2 A2.out).mono ?_
           (case side1 => exact zis)
           (case side2 => exact zbh)
           rintro e w17 ⟨rfl, hi, hb, hk⟩
           refine ⟨_, rfl, ?_⟩
           have n0_ := Aside0.mk (KeepBut.blk hk (g' := gb101) (o := .cells #[.string (⟨#[]⟩ : ByteArray), .string (⟨#[]⟩ : ByteArray)] 43 (0, 0)) bk NB101_0.out (by simp))
           have n1_ := Aside0.mk (KeepBut.trans zkk hk (.inl rfl))
           have n2_ := Aside0.mk (hb)
           have n3_ := Aside0.mk (hi)
           have z_HO104 := fun (h0_ : b 0 = true) => (show Kd.R Kd.string 9 w17 w.heap.size (fun _ => True) v103 y102 from by first | exact (Kd.R_mono (Kd.R_keep (IsS79.apart (show IsS79 w0 _ g s0_0 s0_1 s0_2 from zis) (by (with_reducible repeat (first | apply Kd.R_alloc | apply Kd.R_drewN | apply Kd.R_drew)); exact (Q_HO104 h0_)) (by decide)) hk (fun _ h => h.2)) (fun _ h => h.1)) | exact Kd.R_mono (Kd.R_mono (Kd.R_keep (IsS79.apart (show IsS79 w0 _ g s0_0 s0_1 s0_2 from zis) (by (with_reducible repeat (first | apply Kd.R_alloc | apply Kd.R_drewN | apply Kd.R_drew)); exact (Q_HO104 h0_)) (by decide)) hk (fun _ h => h.2)) (fun _ h => h.1)) (fun _ h_ => by first | trivial | exact h_ | exact h_.1))
           have z_HO111 := fun (h0_ : b 5 = true) => (show Kd.R Kd.string 9 w17 w.heap.size (fun _ => True) v110 y109 from by first | exact (Kd.R_mono (Kd.R_keep (IsS79.apart (show IsS79 w0 _ g s0_0 s0_1 s0_2 from zis) (by (with_reducible repeat (first | apply Kd.R_alloc | apply Kd.R_drewN | apply Kd.R_drew)); exact (Q_HO111 h0_)) (by decide)) hk (fun _ h => h.2)) (fun _ h => h.1)) | exact Kd.R_mono (Kd.R_mono (Kd.R_keep (IsS79.apart (show IsS79 w0 _ g s0_0 s0_1 s0_2 from zis) (by (with_reducible repeat (first | apply Kd.R_alloc | apply Kd.R_drewN | apply Kd.R_drew)); exact (Q_HO111 h0_)) (by decide)) hk (fun _ h => h.2)) (fun _ h => h.1)) (fun _ h_ => by first | trivial | exact h_ | exact h_.1))
           have z_BK116 := fun (h0_ : b 11 = true) (h1_ : b 12 = false) => (show w17.heap[gb116]? = some (.cells #[.string (⟨#[]⟩ : ByteArray), .string (⟨#[]⟩ : ByteArray)] 43 (0, 0)) from by first | exact (KeepBut.blk hk (g' := gb116) (o := .cells #[.string (⟨#[]⟩ : ByteArray), .string (⟨#[]⟩ : ByteArray)] 43 (0, 0)) (by (with_reducible repeat (first | refine blk_drewN ?_ _ | refine blk_drew ?_ | refine blk_alloc ?_ _)); exact (Q_BK116 h0_ h1_)) (Q_NB116_0 h0_) (by simp)))
           clear BK101
           clear HK
           clear HB
           clear HI0
           have BK101 := n0_
           have HK := n1_
           have HB := n2_
           have HI0 := n3_
           clear n0_ n1_ n2_ n3_
           (try clear hb)
           (try clear hb2)
           (try clear hk)
           (try clear hi)
           refine hK.out _ _ ⟨v103, adz_v103, v110, adz_v110, gb116, m3_, m8_, m11_, (by rw [ha.out]; exact putSel_upk 1 hb_ rfl rfl rfl), bk, fun h0_ => absurd ((up_self b 2).symm.trans h0_) (by decide), zkk, zbh, z_HO104, Q_HA_HO104, fun _ _ => zis, z_HO111, Q_HA_HO111, fun h0_ => absurd ((hoff 7 (by kernel_rfl)).symm.trans h0_) (by decide), z_BK116, Q_GW116, Q_GE116, Q_NB0_116, Q_NB116_0, Q_NB101_116, Q_NB116_101, fun h0_ => absurd ((hoff 12 (by kernel_rfl)).symm.trans h0_) (by decide), fun h0_ => absurd ((hoff 3 (by kernel_rfl)).symm.trans h0_) (by decide), fun h0_ => absurd ((hoff 8 (by kernel_rfl)).symm.trans h0_) (by decide), Q_X11_⟩
          refine steps_cons ?_ ?_
          ·
           rintro b a w' ⟨v103, adz_v103, v110, adz_v110, gb116, m3_, m8_, m11_, ha, Q_BK101, Q_HI0, Q_HK, Q_HB, Q_HO104, Q_HA_HO104, Q_HI0_e2, Q_HO111, Q_HA_HO111, Q_HI0_e7, Q_BK116, Q_GW116, Q_GE116, Q_NB0_116, Q_NB116_0, Q_NB101_116, Q_NB116_101, Q_BK116_e12, Q_X3_, Q_X8_, Q_X11_⟩ hb_ hon hoff
           refine ⟨_, rfl, fun K hK => ?_⟩
           have e4 : a.tmps[4]? = some (v103) := by rw [ha]; exact putSel_on (e := (0, 4, v103)) 0 rfl rfl (hon 0 (by kernel_rfl)) rfl
           have e6 : a.tmps[6]? = some (.int .i64 t105) := by rw [ha]; exact putSel_on (e := (2, 6, .int .i64 t105)) 1 rfl rfl (hon 2 (by kernel_rfl)) rfl
           replace ha := Aside0.mk ha
           have BK101 := Aside0.mk Q_BK101
           have HK := Aside0.mk Q_HK
           have HB := Aside0.mk Q_HB
           have HO104 := Aside0.mk (Q_HO104 (hon 0 (by kernel_rfl)))
           have HA_HO104 := Aside0.mk (Q_HA_HO104 (hon 0 (by kernel_rfl)))
           obtain ⟨c_, hv_⟩ := HA_HO104.out
           rw [hv_] at e4
           refine value_ (w1 := w') (v := .pointer (some (adz_v103.add (t105).toNat))) (by rfl) rfl ?_ ?_
           ·
            go_simp
            (try simp only [i64_w])
            try rfl
           refine hK.out _ _ ⟨v103, adz_v103, v110, adz_v110, gb116, (.pointer (some (adz_v103.add (t105).toNat))), m8_, m11_, (by rw [ha.out]; exact putSel_upk 2 hb_ rfl rfl rfl), Q_BK101, fun h0_ => absurd ((hon 2 (by kernel_rfl)).symm.trans h0_) (by decide), Q_HK, Q_HB, Q_HO104, Q_HA_HO104, Q_HI0_e2, Q_HO111, Q_HA_HO111, Q_HI0_e7, Q_BK116, Q_GW116, Q_GE116, Q_NB0_116, Q_NB116_0, Q_NB101_116, Q_NB116_101, fun h0_ => absurd ((hoff 12 (by kernel_rfl)).symm.trans h0_) (by decide), fun _ => rfl, Q_X8_, Q_X11_⟩
          refine steps_cons ?_ ?_
          ·
           rintro b a w' ⟨v103, adz_v103, v110, adz_v110, gb116, m3_, m8_, m11_, ha, Q_BK101, Q_HI0, Q_HK, Q_HB, Q_HO104, Q_HA_HO104, Q_HI0_e2, Q_HO111, Q_HA_HO111, Q_HI0_e7, Q_BK116, Q_GW116, Q_GE116, Q_NB0_116, Q_NB116_0, Q_NB101_116, Q_NB116_101, Q_BK116_e12, Q_X3_, Q_X8_, Q_X11_⟩ hb_ hon hoff
           refine ⟨_, rfl, fun K hK => ?_⟩
           have e7 : a.tmps[7]? = some (m3_) := by rw [ha]; exact putSel_on (e := (3, 7, m3_)) 2 rfl rfl (hon 3 (by kernel_rfl)) rfl
           rw [Q_X3_ (hon 3 (by kernel_rfl))] at e7
           replace ha := Aside0.mk ha
           have BK101 := Aside0.mk Q_BK101
           have HK := Aside0.mk Q_HK
           have HB := Aside0.mk Q_HB
           have HO104 := Aside0.mk (Q_HO104 (hon 0 (by kernel_rfl)))
           have HA_HO104 := Aside0.mk (Q_HA_HO104 (hon 0 (by kernel_rfl)))
           obtain ⟨c_, hv_⟩ := HA_HO104.out
           have hF_ := HO104.out
           rw [hv_] at hF_
           obtain ⟨ad_, ea_, hx_⟩ := Kd.at_string (Kd.R_reads' hF_).2.2 t105 (of_eq_true pi108) (of_eq_true qi108)
           cases ea_
           refine value_ (w1 := w') (v := .string (rdOf ByteArray.empty y102 t105)) (by rfl) rfl ?_ ?_
           ·
            go_simp
            (try simp only [i64_w])
            try rfl
           refine hK.out _ _ ⟨v103, adz_v103, v110, adz_v110, gb116, m3_, m8_, m11_, (by rw [ha.out]; exact putSel_upk 3 hb_ rfl rfl rfl), Q_BK101, fun h0_ => absurd ((hon 2 (by kernel_rfl)).symm.trans h0_) (by decide), Q_HK, Q_HB, Q_HO104, Q_HA_HO104, Q_HI0_e2, Q_HO111, Q_HA_HO111, Q_HI0_e7, Q_BK116, Q_GW116, Q_GE116, Q_NB0_116, Q_NB116_0, Q_NB101_116, Q_NB116_101, fun h0_ => absurd ((hoff 12 (by kernel_rfl)).symm.trans h0_) (by decide), Q_X3_, Q_X8_, Q_X11_⟩
          refine steps_cons ?_ ?_
          ·
           rintro b a w' ⟨v103, adz_v103, v110, adz_v110, gb116, m3_, m8_, m11_, ha, Q_BK101, Q_HI0, Q_HK, Q_HB, Q_HO104, Q_HA_HO104, Q_HI0_e2, Q_HO111, Q_HA_HO111, Q_HI0_e7, Q_BK116, Q_GW116, Q_GE116, Q_NB0_116, Q_NB116_0, Q_NB101_116, Q_NB116_101, Q_BK116_e12, Q_X3_, Q_X8_, Q_X11_⟩ hb_ hon hoff
           refine ⟨_, rfl, fun K hK => ?_⟩
           replace ha := Aside0.mk ha
           have BK101 := Aside0.mk Q_BK101
           have HK := Aside0.mk Q_HK
           have HB := Aside0.mk Q_HB
           refine Kd.R_lit_step Kd.string _ 9 ?hg (N := 9) ?hd (xs := ([(⟨#[49]⟩ : ByteArray), (⟨#[97, 44, 32, 98]⟩ : ByteArray), (⟨#[]⟩ : ByteArray), (⟨#[120, 45, 98]⟩ : ByteArray), (⟨#[113, 61, 34, 97, 44, 98, 34]⟩ : ByteArray), (⟨#[97]⟩ : ByteArray)] : List ByteArray)) (inner := [.string (⟨#[49]⟩ : ByteArray), .string (⟨#[97, 44, 32, 98]⟩ : ByteArray), .string (⟨#[]⟩ : ByteArray), .string (⟨#[120, 45, 98]⟩ : ByteArray), .string (⟨#[113, 61, 34, 97, 44, 98, 34]⟩ : ByteArray), .string (⟨#[97]⟩ : ByteArray)]) (ok := fun _ => True) (okp := fun _ => True) ?hr ?hp (fun _ hk => hk) trivial (Below.refl _ _) (Nat.le_refl _) (by simp) ?_; (case hd => rfl); (case hg => rfl); (case hr => first | (go_simp; done) | (go_simp; rfl)); (case hp => exact (Reps.one (show Kd.M Kd.string _ _ _ (⟨#[49]⟩ : ByteArray) [.string (⟨#[49]⟩ : ByteArray)] from rfl) (Reps.one (show Kd.M Kd.string _ _ _ (⟨#[97, 44, 32, 98]⟩ : ByteArray) [.string (⟨#[97, 44, 32, 98]⟩ : ByteArray)] from rfl) (Reps.one (show Kd.M Kd.string _ _ _ (⟨#[]⟩ : ByteArray) [.string (⟨#[]⟩ : ByteArray)] from rfl) (Reps.one (show Kd.M Kd.string _ _ _ (⟨#[120, 45, 98]⟩ : ByteArray) [.string (⟨#[120, 45, 98]⟩ : ByteArray)] from rfl) (Reps.one (show Kd.M Kd.string _ _ _ (⟨#[113, 61, 34, 97, 44, 98, 34]⟩ : ByteArray) [.string (⟨#[113, 61, 34, 97, 44, 98, 34]⟩ : ByteArray)] from rfl) (Reps.one (show Kd.M Kd.string _ _ _ (⟨#[97]⟩ : ByteArray) [.string (⟨#[97]⟩ : ByteArray)] from rfl) (Reps.none _ _))))))))
           intro v110 w17 ho18 hb hg_ hnew_
           clear hg_ hnew_
           (first | rw [← Ny109.out] at ho18 | (simp only [Int.reduceToNat] at ho18; rw [← Ny109.out] at ho18))
           have n0_ := Aside0.mk (Kd.R_lower ho18 (keep_size (w := w) (g := g) (row := none) zkk))
           have n2_ := Aside0.mk (blk_below (g := gb101) (o := .cells #[.string (⟨#[]⟩ : ByteArray), .string (⟨#[]⟩ : ByteArray)] 43 (0, 0)) bk hb)
           have n3_ := Aside0.mk (KeepBut.trans zkk (KeepBut.of_below hb g none) (.inl rfl))
           have n4_ := Aside0.mk (below_step bh hb)
           have z_HI0 := fun (h0_ : b 2 = false) => (show IsS79 w0 w17 g s0_0 s0_1 s0_2 from by first | exact (IsS79.below (by repeat (first | (with_reducible first | exact (Q_HI0 h0_) | apply IsS79.alloc | apply IsS79.drewN | apply IsS79.drew | apply IsS79.set_1 | apply IsS79.set_2 | refine IsS79.far ?_ NB0_101.out _) | exact (Q_HI0 h0_))) hb))
           have z_HO104 := fun (h0_ : b 0 = true) => (show Kd.R Kd.string 9 w17 w.heap.size (fun _ => True) v103 y102 from by first | exact (Kd.R_elder' (by (with_reducible repeat (first | apply Kd.R_alloc | apply Kd.R_drewN | apply Kd.R_drew)); exact (Q_HO104 h0_)) (Kd.R_base ho18) hb) | exact Kd.R_mono (Kd.R_elder' (by (with_reducible repeat (first | apply Kd.R_alloc | apply Kd.R_drewN | apply Kd.R_drew)); exact (Q_HO104 h0_)) (Kd.R_base ho18) hb) (fun _ h_ => by first | trivial | exact h_ | exact h_.1))
           have z_HI0_e2 := fun (h0_ : b 2 = true) (h1_ : b 7 = false) => (show IsS79 w0 w17 g s0_0 t106 t107 from by first | exact (IsS79.below (by repeat (first | (with_reducible first | exact (Q_HI0_e2 h0_ h1_) | apply IsS79.alloc | apply IsS79.drewN | apply IsS79.drew | apply IsS79.set_1 | apply IsS79.set_2 | refine IsS79.far ?_ NB0_101.out _) | exact (Q_HI0_e2 h0_ h1_))) hb))
           have z_HI0_e7 := fun (h0_ : b 7 = true) => (show IsS79 w0 w17 g s0_0 t113 t114 from by first | exact (IsS79.below (by repeat (first | (with_reducible first | exact (Q_HI0_e7 h0_) | apply IsS79.alloc | apply IsS79.drewN | apply IsS79.drew | apply IsS79.set_1 | apply IsS79.set_2 | refine IsS79.far ?_ NB0_101.out _) | exact (Q_HI0_e7 h0_))) hb))
           have z_BK116 := fun (h0_ : b 11 = true) (h1_ : b 12 = false) => (show w17.heap[gb116]? = some (.cells #[.string (⟨#[]⟩ : ByteArray), .string (⟨#[]⟩ : ByteArray)] 43 (0, 0)) from by first | exact (blk_below (g := gb116) (o := .cells #[.string (⟨#[]⟩ : ByteArray), .string (⟨#[]⟩ : ByteArray)] 43 (0, 0)) (by (with_reducible repeat (first | refine blk_drewN ?_ _ | refine blk_drew ?_ | refine blk_alloc ?_ _)); exact (Q_BK116 h0_ h1_)) hb))
           clear BK101
           clear HK
           clear HB
           have HO111 := n0_
           have BK101 := n2_
           have HK := n3_
           have HB := n4_
           clear n0_ n2_ n3_ n4_
           clear hb ho18
           obtain ⟨Ao19, co19, eo19⟩ := Kd.R_slice HO111.out
           subst eo19
           obtain ⟨ado19, fo19, _⟩ := Kd.at_string (Kd.R_reads' HO111.out).2.2 0 (by decide) (by rw [Ny109.out]; simp)
           cases fo19
           refine hK.out _ _ ⟨v103, adz_v103, .slice (some ado19) y109.length co19, ado19, gb116, m3_, m8_, m11_, (by rw [ha.out]; exact putSel_upk 4 hb_ rfl rfl rfl), bk, z_HI0, zkk, bh, z_HO104, Q_HA_HO104, z_HI0_e2, fun _ => (by (with_reducible repeat (first | apply Kd.R_alloc | apply Kd.R_drewN | apply Kd.R_drew)); exact HO111.out), fun _ => ⟨_, rfl⟩, z_HI0_e7, z_BK116, Q_GW116, Q_GE116, Q_NB0_116, Q_NB116_0, Q_NB101_116, Q_NB116_101, fun h0_ => absurd ((hoff 12 (by kernel_rfl)).symm.trans h0_) (by decide), Q_X3_, fun h0_ => absurd ((hoff 8 (by kernel_rfl)).symm.trans h0_) (by decide), Q_X11_⟩
          refine steps_cons ?_ ?_
          ·
           rintro b a w' ⟨v103, adz_v103, v110, adz_v110, gb116, m3_, m8_, m11_, ha, Q_BK101, Q_HI0, Q_HK, Q_HB, Q_HO104, Q_HA_HO104, Q_HI0_e2, Q_HO111, Q_HA_HO111, Q_HI0_e7, Q_BK116, Q_GW116, Q_GE116, Q_NB0_116, Q_NB116_0, Q_NB101_116, Q_NB116_101, Q_BK116_e12, Q_X3_, Q_X8_, Q_X11_⟩ hb_ hon hoff
           refine ⟨_, rfl, fun K hK => ?_⟩
           have e10 : a.tmps[10]? = some (.pointer (some ⟨g, 0, none⟩)) := by rw [ha]; exact (putSel_off rfl).trans rfl
           replace ha := Aside0.mk ha
           have BK101 := Aside0.mk Q_BK101
           have HK := Aside0.mk Q_HK
           have HB := Aside0.mk Q_HB
           have HI0 := Aside0.mk (Q_HI0_e2 (hon 2 (by kernel_rfl)) hb_)
           refine goes_ Tryd.func64 (by kernel_rfl) rfl #[.pointer (some ⟨g, 0, none⟩), .int .i64 6] (by rfl) rfl rfl (by first | (simp only [List.map_toArray, List.map_cons, List.map_nil, Act.eval, Array.getD_eq_getD_getElem?, Option.getD_some, e10]; done) | (simp only [List.map_toArray, List.map_cons, List.map_nil, Act.eval, Array.getD_eq_getD_getElem?, Option.getD_some, e10]; rfl)) ?_
           with_reducible refine (spec_l1Below.calls g s0_0 t106 t107 6 t112 t113 t114 w0 _ ?side1 ?side2 A5.out).mono ?_
           (case side1 => exact zis)
           (case side2 => exact zbh)
           rintro e w19 ⟨rfl, hi, hb, hk⟩
           refine ⟨_, rfl, ?_⟩
           have n0_ := Aside0.mk (KeepBut.blk hk (g' := gb101) (o := .cells #[.string (⟨#[]⟩ : ByteArray), .string (⟨#[]⟩ : ByteArray)] 43 (0, 0)) bk NB101_0.out (by simp))
           have n1_ := Aside0.mk (KeepBut.trans zkk hk (.inl rfl))
           have n2_ := Aside0.mk (hb)
           have n3_ := Aside0.mk (hi)
           have z_HO104 := fun (h0_ : b 0 = true) => (show Kd.R Kd.string 9 w19 w.heap.size (fun _ => True) v103 y102 from by first | exact (Kd.R_mono (Kd.R_keep (IsS79.apart (show IsS79 w0 _ g s0_0 t106 t107 from zis) (by (with_reducible repeat (first | apply Kd.R_alloc | apply Kd.R_drewN | apply Kd.R_drew)); exact (Q_HO104 h0_)) (by decide)) hk (fun _ h => h.2)) (fun _ h => h.1)) | exact Kd.R_mono (Kd.R_mono (Kd.R_keep (IsS79.apart (show IsS79 w0 _ g s0_0 t106 t107 from zis) (by (with_reducible repeat (first | apply Kd.R_alloc | apply Kd.R_drewN | apply Kd.R_drew)); exact (Q_HO104 h0_)) (by decide)) hk (fun _ h => h.2)) (fun _ h => h.1)) (fun _ h_ => by first | trivial | exact h_ | exact h_.1))
           have z_HO111 := fun (h0_ : b 5 = true) => (show Kd.R Kd.string 9 w19 w.heap.size (fun _ => True) v110 y109 from by first | exact (Kd.R_mono (Kd.R_keep (IsS79.apart (show IsS79 w0 _ g s0_0 t106 t107 from zis) (by (with_reducible repeat (first | apply Kd.R_alloc | apply Kd.R_drewN | apply Kd.R_drew)); exact (Q_HO111 h0_)) (by decide)) hk (fun _ h => h.2)) (fun _ h => h.1)) | exact Kd.R_mono (Kd.R_mono (Kd.R_keep (IsS79.apart (show IsS79 w0 _ g s0_0 t106 t107 from zis) (by (with_reducible repeat (first | apply Kd.R_alloc | apply Kd.R_drewN | apply Kd.R_drew)); exact (Q_HO111 h0_)) (by decide)) hk (fun _ h => h.2)) (fun _ h => h.1)) (fun _ h_ => by first | trivial | exact h_ | exact h_.1))
           have z_BK116 := fun (h0_ : b 11 = true) (h1_ : b 12 = false) => (show w19.heap[gb116]? = some (.cells #[.string (⟨#[]⟩ : ByteArray), .string (⟨#[]⟩ : ByteArray)] 43 (0, 0)) from by first | exact (KeepBut.blk hk (g' := gb116) (o := .cells #[.string (⟨#[]⟩ : ByteArray), .string (⟨#[]⟩ : ByteArray)] 43 (0, 0)) (by (with_reducible repeat (first | refine blk_drewN ?_ _ | refine blk_drew ?_ | refine blk_alloc ?_ _)); exact (Q_BK116 h0_ h1_)) (Q_NB116_0 h0_) (by simp)))
           clear BK101
           clear HK
           clear HB
           clear HI0
           have BK101 := n0_
           have HK := n1_
           have HB := n2_
           have HI0 := n3_
           clear n0_ n1_ n2_ n3_
           (try clear hb)
           (try clear hb2)
           (try clear hk)
           (try clear hi)
           refine hK.out _ _ ⟨v103, adz_v103, v110, adz_v110, gb116, m3_, m8_, m11_, (by rw [ha.out]; exact putSel_upk 5 hb_ rfl rfl rfl), bk, fun h0_ => absurd ((hon 2 (by kernel_rfl)).symm.trans h0_) (by decide), zkk, zbh, z_HO104, Q_HA_HO104, fun _ h1_ => absurd ((up_self b 7).symm.trans h1_) (by decide), z_HO111, Q_HA_HO111, fun _ => zis, z_BK116, Q_GW116, Q_GE116, Q_NB0_116, Q_NB116_0, Q_NB101_116, Q_NB116_101, fun h0_ => absurd ((hoff 12 (by kernel_rfl)).symm.trans h0_) (by decide), Q_X3_, fun h0_ => absurd ((hoff 8 (by kernel_rfl)).symm.trans h0_) (by decide), Q_X11_⟩
          refine steps_cons ?_ ?_
          ·
           rintro b a w' ⟨v103, adz_v103, v110, adz_v110, gb116, m3_, m8_, m11_, ha, Q_BK101, Q_HI0, Q_HK, Q_HB, Q_HO104, Q_HA_HO104, Q_HI0_e2, Q_HO111, Q_HA_HO111, Q_HI0_e7, Q_BK116, Q_GW116, Q_GE116, Q_NB0_116, Q_NB116_0, Q_NB101_116, Q_NB116_101, Q_BK116_e12, Q_X3_, Q_X8_, Q_X11_⟩ hb_ hon hoff
           refine ⟨_, rfl, fun K hK => ?_⟩
           have e9 : a.tmps[9]? = some (v110) := by rw [ha]; exact putSel_on (e := (5, 9, v110)) 4 rfl rfl (hon 5 (by kernel_rfl)) rfl
           have e11 : a.tmps[11]? = some (.int .i64 t112) := by rw [ha]; exact putSel_on (e := (7, 11, .int .i64 t112)) 5 rfl rfl (hon 7 (by kernel_rfl)) rfl
           replace ha := Aside0.mk ha
           have BK101 := Aside0.mk Q_BK101
           have HK := Aside0.mk Q_HK
           have HB := Aside0.mk Q_HB
           have HO111 := Aside0.mk (Q_HO111 (hon 5 (by kernel_rfl)))
           have HA_HO111 := Aside0.mk (Q_HA_HO111 (hon 5 (by kernel_rfl)))
           have HI0 := Aside0.mk (Q_HI0_e7 (hon 7 (by kernel_rfl)))
           obtain ⟨c_, hv_⟩ := HA_HO111.out
           rw [hv_] at e9
           refine value_ (w1 := w') (v := .pointer (some (adz_v110.add (t112).toNat))) (by rfl) rfl ?_ ?_
           ·
            go_simp
            (try simp only [i64_w])
            try rfl
           refine hK.out _ _ ⟨v103, adz_v103, v110, adz_v110, gb116, m3_, (.pointer (some (adz_v110.add (t112).toNat))), m11_, (by rw [ha.out]; exact putSel_upk 6 hb_ rfl rfl rfl), Q_BK101, fun h0_ => absurd ((hon 2 (by kernel_rfl)).symm.trans h0_) (by decide), Q_HK, Q_HB, Q_HO104, Q_HA_HO104, fun _ h1_ => absurd ((hon 7 (by kernel_rfl)).symm.trans h1_) (by decide), Q_HO111, Q_HA_HO111, Q_HI0_e7, Q_BK116, Q_GW116, Q_GE116, Q_NB0_116, Q_NB116_0, Q_NB101_116, Q_NB116_101, fun h0_ => absurd ((hoff 12 (by kernel_rfl)).symm.trans h0_) (by decide), Q_X3_, fun _ => rfl, Q_X11_⟩
          refine steps_cons ?_ ?_
          ·
           rintro b a w' ⟨v103, adz_v103, v110, adz_v110, gb116, m3_, m8_, m11_, ha, Q_BK101, Q_HI0, Q_HK, Q_HB, Q_HO104, Q_HA_HO104, Q_HI0_e2, Q_HO111, Q_HA_HO111, Q_HI0_e7, Q_BK116, Q_GW116, Q_GE116, Q_NB0_116, Q_NB116_0, Q_NB101_116, Q_NB116_101, Q_BK116_e12, Q_X3_, Q_X8_, Q_X11_⟩ hb_ hon hoff
           refine ⟨_, rfl, fun K hK => ?_⟩
           have e12 : a.tmps[12]? = some (m8_) := by rw [ha]; exact putSel_on (e := (8, 12, m8_)) 6 rfl rfl (hon 8 (by kernel_rfl)) rfl
           rw [Q_X8_ (hon 8 (by kernel_rfl))] at e12
           replace ha := Aside0.mk ha
           have BK101 := Aside0.mk Q_BK101
           have HK := Aside0.mk Q_HK
           have HB := Aside0.mk Q_HB
           have HO111 := Aside0.mk (Q_HO111 (hon 5 (by kernel_rfl)))
           have HA_HO111 := Aside0.mk (Q_HA_HO111 (hon 5 (by kernel_rfl)))
           have HI0 := Aside0.mk (Q_HI0_e7 (hon 7 (by kernel_rfl)))
           obtain ⟨c_, hv_⟩ := HA_HO111.out
           have hF_ := HO111.out
           rw [hv_] at hF_
           obtain ⟨ad_, ea_, hx_⟩ := Kd.at_string (Kd.R_reads' hF_).2.2 t112 (of_eq_true pi115) (of_eq_true qi115)
           cases ea_
           refine value_ (w1 := w') (v := .string (rdOf ByteArray.empty y109 t112)) (by rfl) rfl ?_ ?_
           ·
            go_simp
            (try simp only [i64_w])
            try rfl
           refine hK.out _ _ ⟨v103, adz_v103, v110, adz_v110, gb116, m3_, m8_, m11_, (by rw [ha.out]; exact putSel_upk 7 hb_ rfl rfl rfl), Q_BK101, fun h0_ => absurd ((hon 2 (by kernel_rfl)).symm.trans h0_) (by decide), Q_HK, Q_HB, Q_HO104, Q_HA_HO104, fun _ h1_ => absurd ((hon 7 (by kernel_rfl)).symm.trans h1_) (by decide), Q_HO111, Q_HA_HO111, Q_HI0_e7, Q_BK116, Q_GW116, Q_GE116, Q_NB0_116, Q_NB116_0, Q_NB101_116, Q_NB116_101, fun h0_ => absurd ((hoff 12 (by kernel_rfl)).symm.trans h0_) (by decide), Q_X3_, Q_X8_, Q_X11_⟩
          refine steps_cons ?_ ?_
          ·
           rintro b a w' ⟨v103, adz_v103, v110, adz_v110, gb116, m3_, m8_, m11_, ha, Q_BK101, Q_HI0, Q_HK, Q_HB, Q_HO104, Q_HA_HO104, Q_HI0_e2, Q_HO111, Q_HA_HO111, Q_HI0_e7, Q_BK116, Q_GW116, Q_GE116, Q_NB0_116, Q_NB116_0, Q_NB101_116, Q_NB116_101, Q_BK116_e12, Q_X3_, Q_X8_, Q_X11_⟩ hb_ hon hoff
           refine ⟨_, rfl, fun K hK => ?_⟩
           have e8 : a.tmps[8]? = some (.string (rdOf ByteArray.empty y102 t105)) := by rw [ha]; exact putSel_on (e := (4, 8, .string (rdOf ByteArray.empty y102 t105))) 3 rfl rfl (hon 4 (by kernel_rfl)) rfl
           have e13 : a.tmps[13]? = some (.string (rdOf ByteArray.empty y109 t112)) := by rw [ha]; exact putSel_on (e := (9, 13, .string (rdOf ByteArray.empty y109 t112))) 7 rfl rfl (hon 9 (by kernel_rfl)) rfl
           replace ha := Aside0.mk ha
           have BK101 := Aside0.mk Q_BK101
           have HK := Aside0.mk Q_HK
           have HB := Aside0.mk Q_HB
           have HO104 := Aside0.mk (Q_HO104 (hon 0 (by kernel_rfl)))
           have HA_HO104 := Aside0.mk (Q_HA_HO104 (hon 0 (by kernel_rfl)))
           have HO111 := Aside0.mk (Q_HO111 (hon 5 (by kernel_rfl)))
           have HA_HO111 := Aside0.mk (Q_HA_HO111 (hon 5 (by kernel_rfl)))
           have HI0 := Aside0.mk (Q_HI0_e7 (hon 7 (by kernel_rfl)))
           refine value_ (w1 := w') (v := .agg #[.string (rdOf ByteArray.empty y102 t105), .string (rdOf ByteArray.empty y109 t112)]) (by rfl) rfl ?_ ?_
           ·
            go_simp
            (try simp only [i64_w])
            try rfl
           refine hK.out _ _ ⟨v103, adz_v103, v110, adz_v110, gb116, m3_, m8_, m11_, (by rw [ha.out]; exact putSel_upk 8 hb_ rfl rfl rfl), Q_BK101, fun h0_ => absurd ((hon 2 (by kernel_rfl)).symm.trans h0_) (by decide), Q_HK, Q_HB, Q_HO104, Q_HA_HO104, fun _ h1_ => absurd ((hon 7 (by kernel_rfl)).symm.trans h1_) (by decide), Q_HO111, Q_HA_HO111, Q_HI0_e7, Q_BK116, Q_GW116, Q_GE116, Q_NB0_116, Q_NB116_0, Q_NB101_116, Q_NB116_101, fun h0_ => absurd ((hoff 12 (by kernel_rfl)).symm.trans h0_) (by decide), Q_X3_, Q_X8_, Q_X11_⟩
          refine steps_cons ?_ ?_
          ·
           rintro b a w' ⟨v103, adz_v103, v110, adz_v110, gb116, m3_, m8_, m11_, ha, Q_BK101, Q_HI0, Q_HK, Q_HB, Q_HO104, Q_HA_HO104, Q_HI0_e2, Q_HO111, Q_HA_HO111, Q_HI0_e7, Q_BK116, Q_GW116, Q_GE116, Q_NB0_116, Q_NB116_0, Q_NB101_116, Q_NB116_101, Q_BK116_e12, Q_X3_, Q_X8_, Q_X11_⟩ hb_ hon hoff
           refine ⟨_, rfl, fun K hK => ?_⟩
           replace ha := Aside0.mk ha
           have BK101 := Aside0.mk Q_BK101
           have HK := Aside0.mk Q_HK
           have HB := Aside0.mk Q_HB
           refine box_step ?hg (N := 3) ?hd (cs := #[.string (⟨#[]⟩ : ByteArray), .string (⟨#[]⟩ : ByteArray)]) (t := 43) ?hr ?_; (case hd => rfl); (case hg => rfl); (case hr => first | (go_simp; done) | (go_simp; rfl))
           intro gb116 hg w17 hbox hb
           have n1_ := Aside0.mk (blk_below (g := gb101) (o := .cells #[.string (⟨#[]⟩ : ByteArray), .string (⟨#[]⟩ : ByteArray)] 43 (0, 0)) bk hb)
           have n2_ := Aside0.mk (KeepBut.trans zkk (KeepBut.of_below hb g none) (.inl rfl))
           have n3_ := Aside0.mk (below_step bh hb)
           have n4_ := Aside0.mk (hbox)
           have n5_ := Aside0.mk ((zsz hg : w.heap.size ≤ gb116))
           have n6_ := Aside0.mk ((Nat.le_trans HW0.out (zsz hg : w.heap.size ≤ gb116) : w0.heap.size ≤ gb116))
           have n7_ := Aside0.mk ((nl hg bk : gb101 ≠ gb116))
           have n8_ := Aside0.mk ((ng hg bk : gb116 ≠ gb101))
           have n9_ := Aside0.mk ((by rw [hg]; exact Nat.ne_of_lt (Nat.lt_of_lt_of_le HG0_.out (keep_size (w := w) (g := g) (row := none) zkk)) : g ≠ gb116))
           have n10_ := Aside0.mk ((by rw [hg]; exact Nat.ne_of_gt (Nat.lt_of_lt_of_le HG0_.out (keep_size (w := w) (g := g) (row := none) zkk)) : gb116 ≠ g))
           have z_HI0 := fun (h0_ : b 2 = false) => (show IsS79 w0 w17 g s0_0 s0_1 s0_2 from by first | exact (IsS79.below (by repeat (first | (with_reducible first | exact (Q_HI0 h0_) | apply IsS79.alloc | apply IsS79.drewN | apply IsS79.drew | apply IsS79.set_1 | apply IsS79.set_2 | refine IsS79.far ?_ NB0_101.out _) | exact (Q_HI0 h0_))) hb))
           have z_HO104 := fun (h0_ : b 0 = true) => (show Kd.R Kd.string 9 w17 w.heap.size (fun _ => True) v103 y102 from by first | exact (Kd.R_below (by (with_reducible repeat (first | apply Kd.R_alloc | apply Kd.R_drewN | apply Kd.R_drew)); exact (Q_HO104 h0_)) hb) | exact Kd.R_mono (Kd.R_below (by (with_reducible repeat (first | apply Kd.R_alloc | apply Kd.R_drewN | apply Kd.R_drew)); exact (Q_HO104 h0_)) hb) (fun _ h_ => by first | trivial | exact h_ | exact h_.1))
           have z_HI0_e2 := fun (h0_ : b 2 = true) (h1_ : b 7 = false) => (show IsS79 w0 w17 g s0_0 t106 t107 from by first | exact (IsS79.below (by repeat (first | (with_reducible first | exact (Q_HI0_e2 h0_ h1_) | apply IsS79.alloc | apply IsS79.drewN | apply IsS79.drew | apply IsS79.set_1 | apply IsS79.set_2 | refine IsS79.far ?_ NB0_101.out _) | exact (Q_HI0_e2 h0_ h1_))) hb))
           have z_HO111 := fun (h0_ : b 5 = true) => (show Kd.R Kd.string 9 w17 w.heap.size (fun _ => True) v110 y109 from by first | exact (Kd.R_below (by (with_reducible repeat (first | apply Kd.R_alloc | apply Kd.R_drewN | apply Kd.R_drew)); exact (Q_HO111 h0_)) hb) | exact Kd.R_mono (Kd.R_below (by (with_reducible repeat (first | apply Kd.R_alloc | apply Kd.R_drewN | apply Kd.R_drew)); exact (Q_HO111 h0_)) hb) (fun _ h_ => by first | trivial | exact h_ | exact h_.1))
           have z_HI0_e7 := fun (h0_ : b 7 = true) => (show IsS79 w0 w17 g s0_0 t113 t114 from by first | exact (IsS79.below (by repeat (first | (with_reducible first | exact (Q_HI0_e7 h0_) | apply IsS79.alloc | apply IsS79.drewN | apply IsS79.drew | apply IsS79.set_1 | apply IsS79.set_2 | refine IsS79.far ?_ NB0_101.out _) | exact (Q_HI0_e7 h0_))) hb))
           clear BK101
           clear HK
           clear HB
           have BK101 := n1_
           have HK := n2_
           have HB := n3_
           have BK116 := n4_
           have GW116 := n5_
           have GE116 := n6_
           have NB101_116 := n7_
           have NB116_101 := n8_
           have NB0_116 := n9_
           have NB116_0 := n10_
           clear n1_ n2_ n3_ n4_ n5_ n6_ n7_ n8_ n9_ n10_
           clear hb hbox hg
           refine hK.out _ _ ⟨v103, adz_v103, v110, adz_v110, gb116, m3_, m8_, (.pointer (some ⟨gb116, 0, none⟩)), (by rw [ha.out]; exact putSel_upk 9 hb_ rfl rfl rfl), bk, z_HI0, zkk, bh, z_HO104, Q_HA_HO104, z_HI0_e2, z_HO111, Q_HA_HO111, z_HI0_e7, fun _ _ => bk, fun _ => GW116.out, fun _ => GE116.out, fun _ => NB0_116.out, fun _ => NB116_0.out, fun _ => NB101_116.out, fun _ => NB116_101.out, fun h0_ => absurd ((hoff 12 (by kernel_rfl)).symm.trans h0_) (by decide), Q_X3_, Q_X8_, fun _ => rfl⟩
          refine steps_cons ?_ ?_
          ·
           rintro b a w' ⟨v103, adz_v103, v110, adz_v110, gb116, m3_, m8_, m11_, ha, Q_BK101, Q_HI0, Q_HK, Q_HB, Q_HO104, Q_HA_HO104, Q_HI0_e2, Q_HO111, Q_HA_HO111, Q_HI0_e7, Q_BK116, Q_GW116, Q_GE116, Q_NB0_116, Q_NB116_0, Q_NB101_116, Q_NB116_101, Q_BK116_e12, Q_X3_, Q_X8_, Q_X11_⟩ hb_ hon hoff
           refine ⟨_, rfl, fun K hK => ?_⟩
           have e3 : a.tmps[3]? = some (m11_) := by rw [ha]; exact putSel_on (e := (11, 3, m11_)) 9 rfl rfl (hon 11 (by kernel_rfl)) rfl
           rw [Q_X11_ (hon 11 (by kernel_rfl))] at e3
           have e14 : a.tmps[14]? = some (.agg #[.string (rdOf ByteArray.empty y102 t105), .string (rdOf ByteArray.empty y109 t112)]) := by rw [ha]; exact putSel_on (e := (10, 14, .agg #[.string (rdOf ByteArray.empty y102 t105), .string (rdOf ByteArray.empty y109 t112)])) 8 rfl rfl (hon 10 (by kernel_rfl)) rfl
           replace ha := Aside0.mk ha
           have BK101 := Aside0.mk Q_BK101
           have HK := Aside0.mk Q_HK
           have HB := Aside0.mk Q_HB
           have HO104 := Aside0.mk (Q_HO104 (hon 0 (by kernel_rfl)))
           have HA_HO104 := Aside0.mk (Q_HA_HO104 (hon 0 (by kernel_rfl)))
           have HO111 := Aside0.mk (Q_HO111 (hon 5 (by kernel_rfl)))
           have HA_HO111 := Aside0.mk (Q_HA_HO111 (hon 5 (by kernel_rfl)))
           have HI0 := Aside0.mk (Q_HI0_e7 (hon 7 (by kernel_rfl)))
           have BK116 := Aside0.mk (Q_BK116 (hon 11 (by kernel_rfl)) hb_)
           have GW116 := Aside0.mk (Q_GW116 (hon 11 (by kernel_rfl)))
           have GE116 := Aside0.mk (Q_GE116 (hon 11 (by kernel_rfl)))
           have NB0_116 := Aside0.mk (Q_NB0_116 (hon 11 (by kernel_rfl)))
           have NB116_0 := Aside0.mk (Q_NB116_0 (hon 11 (by kernel_rfl)))
           have NB101_116 := Aside0.mk (Q_NB101_116 (hon 11 (by kernel_rfl)))
           have NB116_101 := Aside0.mk (Q_NB116_101 (hon 11 (by kernel_rfl)))
           obtain ⟨co27, eo27⟩ := HA_HO104.out
           clear HA_HO104
           subst eo27
           obtain ⟨co28, eo28⟩ := HA_HO111.out
           clear HA_HO111
           subst eo28
           have hs29 : w'.cell? ⟨gb116, 0, none⟩ = some (.string (⟨#[]⟩ : ByteArray)) := bc BK116 0
           have hfs29 := blk_frozen BK116.out 0
           have hns29_0 := NB101_116.out
           have hms29_0 := NB116_101.out
           have hs30 : w'.cell? ⟨gb116, 1, none⟩ = some (.string (⟨#[]⟩ : ByteArray)) := bc BK116 1
           have hfs30 := blk_frozen BK116.out 1
           have hns30_0 := NB101_116.out
           have hms30_0 := NB116_101.out
           refine skip_ (w1 := ?_) (by rfl) rfl ?_ ?_
           rotate_left
           ·
            go_simp
            rfl
           refine hK.out _ _ ⟨.slice (some adz_v103) y102.length co27, adz_v103, .slice (some adz_v110) y109.length co28, adz_v110, gb116, m3_, m8_, m11_, (by rw [ha.out]; exact putSel_none (v := undef) rfl), bkf, fun h0_ => absurd ((hon 2 (by kernel_rfl)).symm.trans h0_) (by decide), zkk, zbh, fun _ => (by (with_reducible repeat (first | apply Kd.R_alloc | apply Kd.R_drewN | apply Kd.R_drew)); exact Kd.R_mono (Kd.R_far (p := ⟨gb116, 1, none⟩) (Kd.R_far (p := ⟨gb116, 0, none⟩) (Kd.R_types HO104.out BK116.out (by decide)) (fun _ hk => hk.2) (.string (rdOf ByteArray.empty y102 t105))) (fun _ hk => hk.2) (.string (rdOf ByteArray.empty y109 t112))) (fun _ hk => hk.1)), fun _ => ⟨_, rfl⟩, fun _ h1_ => absurd ((hon 7 (by kernel_rfl)).symm.trans h1_) (by decide), fun _ => (by (with_reducible repeat (first | apply Kd.R_alloc | apply Kd.R_drewN | apply Kd.R_drew)); exact Kd.R_mono (Kd.R_far (p := ⟨gb116, 1, none⟩) (Kd.R_far (p := ⟨gb116, 0, none⟩) (Kd.R_types HO111.out BK116.out (by decide)) (fun _ hk => hk.2) (.string (rdOf ByteArray.empty y102 t105))) (fun _ hk => hk.2) (.string (rdOf ByteArray.empty y109 t112))) (fun _ hk => hk.1)), fun _ => ⟨_, rfl⟩, fun _ => zis, fun _ h1_ => absurd ((up_self b 12).symm.trans h1_) (by decide), fun _ => GW116.out, fun _ => GE116.out, fun _ => NB0_116.out, fun _ => NB116_0.out, fun _ => NB101_116.out, fun _ => NB116_101.out, fun _ => bkp, Q_X3_, Q_X8_, Q_X11_⟩
          exact steps_nil
         rintro b a w28 hall ⟨v103, adz_v103, v110, adz_v110, gb116, m3_, m8_, m11_, ha, Q_BK101, Q_HI0, Q_HK, Q_HB, Q_HO104, Q_HA_HO104, Q_HI0_e2, Q_HO111, Q_HA_HO111, Q_HI0_e7, Q_BK116, Q_GW116, Q_GE116, Q_NB0_116, Q_NB116_0, Q_NB101_116, Q_NB116_101, Q_BK116_e12, Q_X3_, Q_X8_, Q_X11_⟩
         clear BK101 HB HI0 HK
         have hb0_ := hall 0 (by kernel_rfl)
         have hb2_ := hall 2 (by kernel_rfl)
         have hb3_ := hall 3 (by kernel_rfl)
         have hb4_ := hall 4 (by kernel_rfl)
         have hb5_ := hall 5 (by kernel_rfl)
         have hb7_ := hall 7 (by kernel_rfl)
         have hb8_ := hall 8 (by kernel_rfl)
         have hb9_ := hall 9 (by kernel_rfl)
         have hb10_ := hall 10 (by kernel_rfl)
         have hb11_ := hall 11 (by kernel_rfl)
         have hb12_ := hall 12 (by kernel_rfl)
         subst ha
         obtain rfl := Q_X3_ hb3_
         obtain rfl := Q_X8_ hb8_
         obtain rfl := Q_X11_ hb11_
         simp only [putSel, hb0_, hb2_, hb3_, hb4_, hb5_, hb7_, hb8_, hb9_, hb10_, hb11_, hb12_, if_true, Act.put, List.setIfInBounds_toArray, List.set_cons_zero, List.set_cons_succ]
         have BK101 := Aside0.mk Q_BK101
         clear Q_BK101
         clear Q_HI0
         have HK := Aside0.mk Q_HK
         clear Q_HK
         have HB := Aside0.mk Q_HB
         clear Q_HB
         have HO104 := Aside0.mk (Q_HO104 hb0_)
         clear Q_HO104
         have HA_HO104 := Aside0.mk (Q_HA_HO104 hb0_)
         clear Q_HA_HO104
         clear Q_HI0_e2
         have HO111 := Aside0.mk (Q_HO111 hb5_)
         clear Q_HO111
         have HA_HO111 := Aside0.mk (Q_HA_HO111 hb5_)
         clear Q_HA_HO111
         have HI0 := Aside0.mk (Q_HI0_e7 hb7_)
         clear Q_HI0_e7
         clear Q_BK116
         have GW116 := Aside0.mk (Q_GW116 hb11_)
         clear Q_GW116
         have GE116 := Aside0.mk (Q_GE116 hb11_)
         clear Q_GE116
         have NB0_116 := Aside0.mk (Q_NB0_116 hb11_)
         clear Q_NB0_116
         have NB116_0 := Aside0.mk (Q_NB116_0 hb11_)
         clear Q_NB116_0
         have NB101_116 := Aside0.mk (Q_NB101_116 hb11_)
         clear Q_NB101_116
         have NB116_101 := Aside0.mk (Q_NB116_101 hb11_)
         clear Q_NB116_101
         have BK116 := Aside0.mk (Q_BK116_e12 hb12_)
         clear Q_BK116_e12
         clear hall hb0_ hb2_ hb3_ hb4_ hb5_ hb7_ hb8_ hb9_ hb10_ hb11_ hb12_
         obtain ⟨co29, eo29⟩ := HA_HO104.out
         clear HA_HO104
         subst eo29
         obtain ⟨co30, eo30⟩ := HA_HO111.out
         clear HA_HO111
         subst eo30
         try go_wp2_with (first | ((with_reducible refine gate_callee (f := 36) rfl ?_); refine goesL_ (some 16) rfl rfl Tryd.func36 (by kernel_rfl) rfl #[.pointer (some ⟨g, 0, none⟩), .int .i64 24] rfl mc ?_; (with_reducible refine (spec_l1Once.calls g s0_0 t113 t114 24 true t118 t119 w0 _ ?side1 ?side2 A8.out).mono ?_); (case side1 => exact zis); (case side2 => exact zbh); rintro e w31 ⟨rfl, hi, hb, hk⟩; refine ⟨_, rfl, ?_⟩; replace BK101 := bkk_ BK101 hk NB101_0; replace HO104 := Aside0.mk (Kd.R_mono (Kd.R_keep (IsS79.apart (show IsS79 w0 _ g s0_0 t113 t114 from zis) (by (with_reducible repeat (first | apply Kd.R_alloc | apply Kd.R_drewN | apply Kd.R_drew)); exact HO104.out) (by decide)) hk (fun _ h => h.2)) (fun _ h => h.1)); replace HO111 := Aside0.mk (Kd.R_mono (Kd.R_keep (IsS79.apart (show IsS79 w0 _ g s0_0 t113 t114 from zis) (by (with_reducible repeat (first | apply Kd.R_alloc | apply Kd.R_drewN | apply Kd.R_drew)); exact HO111.out) (by decide)) hk (fun _ h => h.2)) (fun _ h => h.1)); replace BK116 := bkk_ BK116 hk NB116_0; replace HK := Aside0.mk (KeepBut.trans zkk hk (.inl rfl)); replace HI0 := Aside0.mk (hi); replace HB := Aside0.mk (hb); (try clear hb); (try clear hb2); (try clear hk); (try clear hi)) | ((with_reducible refine gate_callee (f := 64) rfl ?_); refine goesL_ (some 18) rfl rfl Tryd.func64 (by kernel_rfl) rfl #[.pointer (some ⟨g, 0, none⟩), .int .i64 2] rfl mc ?_; (with_reducible refine (spec_l1Below.calls g s0_0 t118 t119 2 t120 t121 t122 w0 _ ?side1 ?side2 A10.out).mono ?_); (case side1 => exact zis); (case side2 => exact zbh); rintro e w32 ⟨rfl, hi, hb, hk⟩; refine ⟨_, rfl, ?_⟩; replace BK101 := bkk_ BK101 hk NB101_0; replace HO104 := Aside0.mk (Kd.R_mono (Kd.R_keep (IsS79.apart (show IsS79 w0 _ g s0_0 t118 t119 from zis) (by (with_reducible repeat (first | apply Kd.R_alloc | apply Kd.R_drewN | apply Kd.R_drew)); exact HO104.out) (by decide)) hk (fun _ h => h.2)) (fun _ h => h.1)); replace HO111 := Aside0.mk (Kd.R_mono (Kd.R_keep (IsS79.apart (show IsS79 w0 _ g s0_0 t118 t119 from zis) (by (with_reducible repeat (first | apply Kd.R_alloc | apply Kd.R_drewN | apply Kd.R_drew)); exact HO111.out) (by decide)) hk (fun _ h => h.2)) (fun _ h => h.1)); replace BK116 := bkk_ BK116 hk NB116_0; replace HK := Aside0.mk (KeepBut.trans zkk hk (.inl rfl)); replace HI0 := Aside0.mk (hi); replace HB := Aside0.mk (hb); (try clear hb); (try clear hb2); (try clear hk); (try clear hi)) | ((with_reducible refine gate_dst (N := 21) rfl ?_); refine Kd.R_lit Kd.string _ 9 ?hg (N := 21) ?hd (xs := ([(⟨#[]⟩ : ByteArray), (⟨#[97, 32, 98]⟩ : ByteArray), (⟨#[97, 58]⟩ : ByteArray), (⟨#[0]⟩ : ByteArray)] : List ByteArray)) (inner := [.string (⟨#[]⟩ : ByteArray), .string (⟨#[97, 32, 98]⟩ : ByteArray), .string (⟨#[97, 58]⟩ : ByteArray), .string (⟨#[0]⟩ : ByteArray)]) (ok := fun _ => True) (okp := fun _ => True) ?hr ?hp (fun _ hk => hk) trivial (Below.refl _ _) (Nat.le_refl _) (by simp) ?_; (case hd => rfl); (case hg => rfl); (case hr => first | (go_simp; done) | (go_simp; rfl)); (case hp => exact (Reps.one (show Kd.M Kd.string _ _ _ (⟨#[]⟩ : ByteArray) [.string (⟨#[]⟩ : ByteArray)] from rfl) (Reps.one (show Kd.M Kd.string _ _ _ (⟨#[97, 32, 98]⟩ : ByteArray) [.string (⟨#[97, 32, 98]⟩ : ByteArray)] from rfl) (Reps.one (show Kd.M Kd.string _ _ _ (⟨#[97, 58]⟩ : ByteArray) [.string (⟨#[97, 58]⟩ : ByteArray)] from rfl) (Reps.one (show Kd.M Kd.string _ _ _ (⟨#[0]⟩ : ByteArray) [.string (⟨#[0]⟩ : ByteArray)] from rfl) (Reps.none _ _)))))); intro v124 w33 ho34 hb hg_ hnew_; clear hg_ hnew_; (first | rw [← Ny123.out] at ho34 | (simp only [Int.reduceToNat] at ho34; rw [← Ny123.out] at ho34)); have HO125 := Aside0.mk (Kd.R_lower (Kd.R_new' (Kd.R_new' ho34 (Kd.R_lt (by (with_reducible repeat (first | apply Kd.R_alloc | apply Kd.R_drewN | apply Kd.R_drew)); exact HO104.out))) (Kd.R_lt (by (with_reducible repeat (first | apply Kd.R_alloc | apply Kd.R_drewN | apply Kd.R_drew)); exact HO111.out))) (keep_size (w := w) (g := g) (row := none) zkk)); replace HO104 := Aside0.mk (Kd.R_elder' (by (with_reducible repeat (first | apply Kd.R_alloc | apply Kd.R_drewN | apply Kd.R_drew)); exact HO104.out) (Kd.R_base ho34) hb); replace HO111 := Aside0.mk (Kd.R_elder' (by (with_reducible repeat (first | apply Kd.R_alloc | apply Kd.R_drewN | apply Kd.R_drew)); exact HO111.out) (Kd.R_base ho34) hb); replace BK101 := bkb_ BK101 hb; replace BK116 := bkb_ BK116 hb; replace HK := Aside0.mk (KeepBut.trans zkk (KeepBut.of_below hb g none) (.inl rfl)); replace HI0 := Aside0.mk (IsS79.below zis hb); replace HB := Aside0.mk (below_step zbh hb); clear hb ho34) | ((with_reducible refine gate_callee (f := 64) rfl ?_); refine goesL_ (some 23) rfl rfl Tryd.func64 (by kernel_rfl) rfl #[.pointer (some ⟨g, 0, none⟩), .int .i64 4] rfl mc ?_; (with_reducible refine (spec_l1Below.calls g s0_0 t121 t122 4 t126 t127 t128 w0 _ ?side1 ?side2 A12.out).mono ?_); (case side1 => exact zis); (case side2 => exact zbh); rintro e w35 ⟨rfl, hi, hb, hk⟩; refine ⟨_, rfl, ?_⟩; replace BK101 := bkk_ BK101 hk NB101_0; replace HO104 := Aside0.mk (Kd.R_mono (Kd.R_keep (IsS79.apart (show IsS79 w0 _ g s0_0 t121 t122 from zis) (by (with_reducible repeat (first | apply Kd.R_alloc | apply Kd.R_drewN | apply Kd.R_drew)); exact HO104.out) (by decide)) hk (fun _ h => h.2)) (fun _ h => h.1)); replace HO111 := Aside0.mk (Kd.R_mono (Kd.R_keep (IsS79.apart (show IsS79 w0 _ g s0_0 t121 t122 from zis) (by (with_reducible repeat (first | apply Kd.R_alloc | apply Kd.R_drewN | apply Kd.R_drew)); exact HO111.out) (by decide)) hk (fun _ h => h.2)) (fun _ h => h.1)); replace BK116 := bkk_ BK116 hk NB116_0; replace HO125 := Aside0.mk (Kd.R_mono (Kd.R_keep (IsS79.apart (show IsS79 w0 _ g s0_0 t121 t122 from zis) (by (with_reducible repeat (first | apply Kd.R_alloc | apply Kd.R_drewN | apply Kd.R_drew)); exact HO125.out) (by decide)) hk (fun _ h => h.2)) (fun _ h => h.1)); replace HK := Aside0.mk (KeepBut.trans zkk hk (.inl rfl)); replace HI0 := Aside0.mk (hi); replace HB := Aside0.mk (hb); (try clear hb); (try clear hb2); (try clear hk); (try clear hi); obtain ⟨Ao36, co36, eo36⟩ := Kd.R_slice HO125.out; subst eo36; have p129 : 0 ≤ (t126 : Int) := of_decide_eq_true (by first | (with_reducible assumption) | assumption); have q129 : t126 < (y123.length : Int) := of_decide_eq_true (by first | (with_reducible assumption) | assumption); obtain ⟨ad129, e129, hx129_0⟩ := Kd.at_string (Kd.R_reads' HO125.out).2.2 t126 p129 q129; cases e129; replace p129 := eq_true p129; replace q129 := eq_true q129; have hnb37 := NB116_101.out; have hnc37 := NB101_116.out; have hnb38 := NB116_0.out; have hnc38 := NB0_116.out; obtain ⟨hcz39_0, hcz39_1⟩ := zcf2 BK116; obtain ⟨hfz39_0, hfz39_1⟩ := zff2 BK116; have hnb40 := NB101_0.out; have hnc40 := NB0_101.out; obtain ⟨hcz41_0, hcz41_1⟩ := zcf2 BK101; obtain ⟨hfz41_0, hfz41_1⟩ := zff2 BK101))
         refine bodyPost_ret (results_cell_row rfl _ _ gb101 43 #[.string (rdOf ByteArray.empty y123 t126), .string (rdOf ByteArray.empty y109 t112)] (0, 0) _ rfl bkp Tryd.underlying43 rfl (by kernel_rfl)) rfl ?_
         exact ⟨er, zis, zbh, zkk⟩
        ·
         rw [if_neg c14] at H
         exact absurd H (by simp)
       ·
        rw [if_neg c13] at H
        exact absurd H (by simp)
      ·
       rw [if_neg c11] at H
       have c11b0 : (t120 == 0) = false := beq_eq_false_iff_ne.mpr c11
       have c11b1 : (t120 != 0) = true := bne_iff_ne.mpr c11
       by_cases c42 : t120 = 1
       ·
        rw [if_pos c42] at H
        have c42b0 : (t120 == 1) = true := beq_iff_eq.mpr c42
        have c42b1 : (t120 != 1) = false := bne_eq_false_iff_eq.mpr c42
        clear c42
        obtain ⟨y130, hy130⟩ : ∃ y_ : List ByteArray, y_ = (([(⟨#[32, 97]⟩ : ByteArray), (⟨#[97, 10]⟩ : ByteArray), (⟨#[97, 127]⟩ : ByteArray), (⟨#[97, 9]⟩ : ByteArray)] : List ByteArray)) := ⟨_, rfl⟩
        replace H : ((spec_l1Below.f s0_0 t121 t122 4).bind fun bt133 => (if 0 ≤ bt133.1 then (if bt133.1 < (y130.length : Int) then (some (rdOf ByteArray.empty y102 t105, rdOf ByteArray.empty y130 bt133.1, bt133.2.1, bt133.2.2)) else (none)) else (none))) = some (r1, r2, r3, r4) := by first | (rw [hy130]; with_reducible exact H) | (have H2_ := (Option.bind_some _ _).symm.trans H; rw [hy130]; with_reducible exact H2_) | (have H2_ := (Option.bind_some _ _).symm.trans H; with_reducible exact H2_) | with_reducible exact H | (rw [hy130]; exact H) | exact H
        have Ny130 := Aside0.mk hy130
        clear hy130
        obtain ⟨⟨t133, t134, t135⟩, A430, H⟩ := Option.bind_eq_some_iff.mp H
        try dsimp only at H
        have A43 := Aside0.mk A430
        clear A430
        by_cases c44 : 0 ≤ t133
        ·
         rw [if_pos c44] at H
         have c44b0 : decide (0 ≤ t133) = true := decide_eq_true c44
         clear c44
         by_cases c45 : t133 < (y130.length : Int)
         ·
          rw [if_pos c45] at H
          have c45b0 : decide (t133 < (y130.length : Int)) = true := decide_eq_true c45
          clear c45
          simp only [Option.some.injEq, Prod.mk.injEq] at H
          obtain ⟨rfl, rfl, rfl, rfl⟩ := H
          go_enter Tryd.func65, Tryd.ntmps65
          try go_wp2_with (first | ((with_reducible refine gate_dst (N := 2) rfl ?_); refine bx 2 #[.string (⟨#[]⟩ : ByteArray), .string (⟨#[]⟩ : ByteArray)] 43 ?_; intro gb101 hg w46 hbox hb; have BK101 := Aside0.mk (hbox); have GW101 := Aside0.mk ((zsz hg : w.heap.size ≤ gb101)); have GE101 := Aside0.mk ((Nat.le_trans HW0.out (zsz hg : w.heap.size ≤ gb101) : w0.heap.size ≤ gb101)); have NB0_101 := Aside0.mk ((by rw [hg]; exact Nat.ne_of_lt (Nat.lt_of_lt_of_le HG0_.out (keep_size (w := w) (g := g) (row := none) zkk)) : g ≠ gb101)); have NB101_0 := Aside0.mk ((by rw [hg]; exact Nat.ne_of_gt (Nat.lt_of_lt_of_le HG0_.out (keep_size (w := w) (g := g) (row := none) zkk)) : gb101 ≠ g)); replace HK := Aside0.mk (KeepBut.trans zkk (KeepBut.of_below hb g none) (.inl rfl)); replace HI0 := Aside0.mk (IsS79.below zis hb); replace HB := Aside0.mk (below_step zbh hb); clear hb hbox hg))
          have pi108 : (0 ≤ (t105 : Int)) = True := eq_true (of_decide_eq_true (by first | (with_reducible assumption) | assumption))
          have qi108 : (t105 < (y102.length : Int)) = True := eq_true (of_decide_eq_true (by first | (with_reducible assumption) | assumption))
          have pi115 : (0 ≤ (t112 : Int)) = True := eq_true (of_decide_eq_true (by first | (with_reducible assumption) | assumption))
          have qi115 : (t112 < (y109.length : Int)) = True := eq_true (of_decide_eq_true (by first | (with_reducible assumption) | assumption))
          replace BK101 := Aside0.mk (blk_drew BK101.out)
          replace HK := Aside0.mk (keep_drew HK.out)
          replace HI0 := Aside0.mk (IsS79.drew HI0.out)
          replace HB := Aside0.mk (below_drew1 HB.out)
          refine start_ (n := 13) (S := fun w' => True) (ds := []) spec_l4DrawField.d0 (by kernel_rfl) rfl rfl trivial (fun hHeld => ?_); refine with_tabW spec_l4DrawField.tab1 spec_l4DrawField.bits1 (fun HT_ HW_ => ?_)
          generalize w46.drew = w47 at BK101 HI0 HK HB hHeld ⊢
          refine pu 1 5 spec_l4DrawField.d1 HT_ ?_
          refine pu 6 10 spec_l4DrawField.d2 HT_ ?_
          refine inv_at [0, 2, 3, 4, 5, 7, 8, 9, 10, 11, 12] (fun a0_ b a w' => ∃ (v103 : Value) (adz_v103 : Addr) (v110 : Value) (adz_v110 : Addr) (gb116 : Nat) (m3_ : Value) (m8_ : Value) (m11_ : Value), a = putSel a0_ b [(0, 4, v103), (2, 6, .int .i64 t105), (3, 7, m3_), (4, 8, .string (rdOf ByteArray.empty y102 t105)), (5, 9, v110), (7, 11, .int .i64 t112), (8, 12, m8_), (9, 13, .string (rdOf ByteArray.empty y109 t112)), (10, 14, .agg #[.string (rdOf ByteArray.empty y102 t105), .string (rdOf ByteArray.empty y109 t112)]), (11, 3, m11_)] ∧ (w'.heap[gb101]? = some (.cells #[.string (⟨#[]⟩ : ByteArray), .string (⟨#[]⟩ : ByteArray)] 43 (0, 0))) ∧ (b 2 = false → IsS79 w0 w' g s0_0 s0_1 s0_2) ∧ (KeepBut w w' g none) ∧ (Below w0.heap.size w0 w') ∧ (b 0 = true → Kd.R Kd.string 9 w' w.heap.size (fun _ => True) v103 y102) ∧ (b 0 = true → ∃ c_, (v103 : Value) = .slice (some adz_v103) y102.length c_) ∧ (b 2 = true → b 7 = false → IsS79 w0 w' g s0_0 t106 t107) ∧ (b 5 = true → Kd.R Kd.string 9 w' w.heap.size (fun _ => True) v110 y109) ∧ (b 5 = true → ∃ c_, (v110 : Value) = .slice (some adz_v110) y109.length c_) ∧ (b 7 = true → IsS79 w0 w' g s0_0 t113 t114) ∧ (b 11 = true → b 12 = false → w'.heap[gb116]? = some (.cells #[.string (⟨#[]⟩ : ByteArray), .string (⟨#[]⟩ : ByteArray)] 43 (0, 0))) ∧ (b 11 = true → w.heap.size ≤ gb116) ∧ (b 11 = true → w0.heap.size ≤ gb116) ∧ (b 11 = true → g ≠ gb116) ∧ (b 11 = true → gb116 ≠ g) ∧ (b 11 = true → gb101 ≠ gb116) ∧ (b 11 = true → gb116 ≠ gb101) ∧ (b 12 = true → w'.heap[gb116]? = some (.cells #[.string (rdOf ByteArray.empty y102 t105), .string (rdOf ByteArray.empty y109 t112)] 43 (0, 0))) ∧ (b 3 = true → (m3_ : Value) = .pointer (some (adz_v103.add (t105).toNat))) ∧ (b 8 = true → (m8_ : Value) = .pointer (some (adz_v110.add (t112).toNat))) ∧ (b 11 = true → (m11_ : Value) = .pointer (some ⟨gb116, 0, none⟩))) HT_.out HW_.out (by kernel_rfl) (by kernel_rfl) ?_ ?_ ?_
          ·
           exact ⟨.bool false, ⟨0, 0, none⟩, .bool false, ⟨0, 0, none⟩, 0, .bool false, .bool false, .bool false, by simp only [putSel, Bool.false_eq_true, if_false], BK101.out, fun _ => HI0.out, HK.out, HB.out, fun h_ => absurd h_ (by decide), fun h_ => absurd h_ (by decide), fun h_ => absurd h_ (by decide), fun h_ => absurd h_ (by decide), fun h_ => absurd h_ (by decide), fun h_ => absurd h_ (by decide), fun h_ => absurd h_ (by decide), fun h_ => absurd h_ (by decide), fun h_ => absurd h_ (by decide), fun h_ => absurd h_ (by decide), fun h_ => absurd h_ (by decide), fun h_ => absurd h_ (by decide), fun h_ => absurd h_ (by decide), fun h_ => absurd h_ (by decide), fun h_ => absurd h_ (by decide), fun h_ => absurd h_ (by decide), fun h_ => absurd h_ (by decide)⟩
          ·
           skip
           clear BK101 HB HI0 HK
           refine steps_cons ?_ ?_
           ·
            rintro b a w' ⟨v103, adz_v103, v110, adz_v110, gb116, m3_, m8_, m11_, ha, Q_BK101, Q_HI0, Q_HK, Q_HB, Q_HO104, Q_HA_HO104, Q_HI0_e2, Q_HO111, Q_HA_HO111, Q_HI0_e7, Q_BK116, Q_GW116, Q_GE116, Q_NB0_116, Q_NB116_0, Q_NB101_116, Q_NB116_101, Q_BK116_e12, Q_X3_, Q_X8_, Q_X11_⟩ hb_ hon hoff
            refine ⟨_, rfl, fun K hK => ?_⟩
            replace ha := Aside0.mk ha
            have BK101 := Aside0.mk Q_BK101
            have HK := Aside0.mk Q_HK
            have HB := Aside0.mk Q_HB
            refine Kd.R_lit_step Kd.string _ 9 ?hg (N := 4) ?hd (xs := ([(⟨#[97]⟩ : ByteArray), (⟨#[65, 99, 99, 101, 112, 116]⟩ : ByteArray), (⟨#[97, 99, 99, 101, 112, 116]⟩ : ByteArray), (⟨#[120, 45, 98]⟩ : ByteArray), (⟨#[67, 111, 110, 110, 101, 99, 116, 105, 111, 110]⟩ : ByteArray), (⟨#[116, 101]⟩ : ByteArray), (⟨#[118, 97, 114, 121]⟩ : ByteArray)] : List ByteArray)) (inner := [.string (⟨#[97]⟩ : ByteArray), .string (⟨#[65, 99, 99, 101, 112, 116]⟩ : ByteArray), .string (⟨#[97, 99, 99, 101, 112, 116]⟩ : ByteArray), .string (⟨#[120, 45, 98]⟩ : ByteArray), .string (⟨#[67, 111, 110, 110, 101, 99, 116, 105, 111, 110]⟩ : ByteArray), .string (⟨#[116, 101]⟩ : ByteArray), .string (⟨#[118, 97, 114, 121]⟩ : ByteArray)]) (ok := fun _ => True) (okp := fun _ => True) ?hr ?hp (fun _ hk => hk) trivial (Below.refl _ _) (Nat.le_refl _) (by simp) ?_; (case hd => rfl); (case hg => rfl); (case hr => first | (go_simp; done) | (go_simp; rfl)); (case hp => exact (Reps.one (show Kd.M Kd.string _ _ _ (⟨#[97]⟩ : ByteArray) [.string (⟨#[97]⟩ : ByteArray)] from rfl) (Reps.one (show Kd.M Kd.string _ _ _ (⟨#[65, 99, 99, 101, 112, 116]⟩ : ByteArray) [.string (⟨#[65, 99, 99, 101, 112, 116]⟩ : ByteArray)] from rfl) (Reps.one (show Kd.M Kd.string _ _ _ (⟨#[97, 99, 99, 101, 112, 116]⟩ : ByteArray) [.string (⟨#[97, 99, 99, 101, 112, 116]⟩ : ByteArray)] from rfl) (Reps.one (show Kd.M Kd.string _ _ _ (⟨#[120, 45, 98]⟩ : ByteArray) [.string (⟨#[120, 45, 98]⟩ : ByteArray)] from rfl) (Reps.one (show Kd.M Kd.string _ _ _ (⟨#[67, 111, 110, 110, 101, 99, 116, 105, 111, 110]⟩ : ByteArray) [.string (⟨#[67, 111, 110, 110, 101, 99, 116, 105, 111, 110]⟩ : ByteArray)] from rfl) (Reps.one (show Kd.M Kd.string _ _ _ (⟨#[116, 101]⟩ : ByteArray) [.string (⟨#[116, 101]⟩ : ByteArray)] from rfl) (Reps.one (show Kd.M Kd.string _ _ _ (⟨#[118, 97, 114, 121]⟩ : ByteArray) [.string (⟨#[118, 97, 114, 121]⟩ : ByteArray)] from rfl) (Reps.none _ _)))))))))
            intro v103 w48 ho49 hb hg_ hnew_
            clear hg_ hnew_
            (first | rw [← Ny102.out] at ho49 | (simp only [Int.reduceToNat] at ho49; rw [← Ny102.out] at ho49))
            have n0_ := Aside0.mk (Kd.R_lower ho49 (keep_size (w := w) (g := g) (row := none) zkk))
            have n2_ := Aside0.mk (blk_below (g := gb101) (o := .cells #[.string (⟨#[]⟩ : ByteArray), .string (⟨#[]⟩ : ByteArray)] 43 (0, 0)) bk hb)
            have n3_ := Aside0.mk (KeepBut.trans zkk (KeepBut.of_below hb g none) (.inl rfl))
            have n4_ := Aside0.mk (below_step bh hb)
            have z_HI0 := fun (h0_ : b 2 = false) => (show IsS79 w0 w48 g s0_0 s0_1 s0_2 from by first | exact (IsS79.below (by repeat (first | (with_reducible first | exact (Q_HI0 h0_) | apply IsS79.alloc | apply IsS79.drewN | apply IsS79.drew | apply IsS79.set_1 | apply IsS79.set_2 | refine IsS79.far ?_ NB0_101.out _) | exact (Q_HI0 h0_))) hb))
            have z_HI0_e2 := fun (h0_ : b 2 = true) (h1_ : b 7 = false) => (show IsS79 w0 w48 g s0_0 t106 t107 from by first | exact (IsS79.below (by repeat (first | (with_reducible first | exact (Q_HI0_e2 h0_ h1_) | apply IsS79.alloc | apply IsS79.drewN | apply IsS79.drew | apply IsS79.set_1 | apply IsS79.set_2 | refine IsS79.far ?_ NB0_101.out _) | exact (Q_HI0_e2 h0_ h1_))) hb))
            have z_HO111 := fun (h0_ : b 5 = true) => (show Kd.R Kd.string 9 w48 w.heap.size (fun _ => True) v110 y109 from by first | exact (Kd.R_elder' (by (with_reducible repeat (first | apply Kd.R_alloc | apply Kd.R_drewN | apply Kd.R_drew)); exact (Q_HO111 h0_)) (Kd.R_base ho49) hb) | exact Kd.R_mono (Kd.R_elder' (by (with_reducible repeat (first | apply Kd.R_alloc | apply Kd.R_drewN | apply Kd.R_drew)); exact (Q_HO111 h0_)) (Kd.R_base ho49) hb) (fun _ h_ => by first | trivial | exact h_ | exact h_.1))
            have z_HI0_e7 := fun (h0_ : b 7 = true) => (show IsS79 w0 w48 g s0_0 t113 t114 from by first | exact (IsS79.below (by repeat (first | (with_reducible first | exact (Q_HI0_e7 h0_) | apply IsS79.alloc | apply IsS79.drewN | apply IsS79.drew | apply IsS79.set_1 | apply IsS79.set_2 | refine IsS79.far ?_ NB0_101.out _) | exact (Q_HI0_e7 h0_))) hb))
            have z_BK116 := fun (h0_ : b 11 = true) (h1_ : b 12 = false) => (show w48.heap[gb116]? = some (.cells #[.string (⟨#[]⟩ : ByteArray), .string (⟨#[]⟩ : ByteArray)] 43 (0, 0)) from by first | exact (blk_below (g := gb116) (o := .cells #[.string (⟨#[]⟩ : ByteArray), .string (⟨#[]⟩ : ByteArray)] 43 (0, 0)) (by (with_reducible repeat (first | refine blk_drewN ?_ _ | refine blk_drew ?_ | refine blk_alloc ?_ _)); exact (Q_BK116 h0_ h1_)) hb))
            clear BK101
            clear HK
            clear HB
            have HO104 := n0_
            have BK101 := n2_
            have HK := n3_
            have HB := n4_
            clear n0_ n2_ n3_ n4_
            clear hb ho49
            obtain ⟨Ao50, co50, eo50⟩ := Kd.R_slice HO104.out
            subst eo50
            obtain ⟨ado50, fo50, _⟩ := Kd.at_string (Kd.R_reads' HO104.out).2.2 0 (by decide) (by rw [Ny102.out]; simp)
            cases fo50
            refine hK.out _ _ ⟨.slice (some ado50) y102.length co50, ado50, v110, adz_v110, gb116, m3_, m8_, m11_, (by rw [ha.out]; exact putSel_upk 0 hb_ rfl rfl rfl), bk, z_HI0, zkk, bh, fun _ => (by (with_reducible repeat (first | apply Kd.R_alloc | apply Kd.R_drewN | apply Kd.R_drew)); exact HO104.out), fun _ => ⟨_, rfl⟩, z_HI0_e2, z_HO111, Q_HA_HO111, z_HI0_e7, z_BK116, Q_GW116, Q_GE116, Q_NB0_116, Q_NB116_0, Q_NB101_116, Q_NB116_101, fun h0_ => absurd ((hoff 12 (by kernel_rfl)).symm.trans h0_) (by decide), fun h0_ => absurd ((hoff 3 (by kernel_rfl)).symm.trans h0_) (by decide), Q_X8_, Q_X11_⟩
           refine steps_cons ?_ ?_
           ·
            rintro b a w' ⟨v103, adz_v103, v110, adz_v110, gb116, m3_, m8_, m11_, ha, Q_BK101, Q_HI0, Q_HK, Q_HB, Q_HO104, Q_HA_HO104, Q_HI0_e2, Q_HO111, Q_HA_HO111, Q_HI0_e7, Q_BK116, Q_GW116, Q_GE116, Q_NB0_116, Q_NB116_0, Q_NB101_116, Q_NB116_101, Q_BK116_e12, Q_X3_, Q_X8_, Q_X11_⟩ hb_ hon hoff
            refine ⟨_, rfl, fun K hK => ?_⟩
            have e5 : a.tmps[5]? = some (.pointer (some ⟨g, 0, none⟩)) := by rw [ha]; exact (putSel_off rfl).trans rfl
            replace ha := Aside0.mk ha
            have BK101 := Aside0.mk Q_BK101
            have HI0 := Aside0.mk (Q_HI0 hb_)
            have HK := Aside0.mk Q_HK
            have HB := Aside0.mk Q_HB
            refine goes_ Tryd.func64 (by kernel_rfl) rfl #[.pointer (some ⟨g, 0, none⟩), .int .i64 7] (by rfl) rfl rfl (by first | (simp only [List.map_toArray, List.map_cons, List.map_nil, Act.eval, Array.getD_eq_getD_getElem?, Option.getD_some, e5]; done) | (simp only [List.map_toArray, List.map_cons, List.map_nil, Act.eval, Array.getD_eq_getD_getElem?, Option.getD_some, e5]; rfl)) ?_
            with_reducible refine (spec_l1Below.calls g s0_0 s0_1 s0_2 7 t105 t106 t107 w0 _ ?side1 ?side2 A2.out).mono ?_
            (case side1 => exact zis)
            (case side2 => exact zbh)
            rintro e w48 ⟨rfl, hi, hb, hk⟩
            refine ⟨_, rfl, ?_⟩
            have n0_ := Aside0.mk (KeepBut.blk hk (g' := gb101) (o := .cells #[.string (⟨#[]⟩ : ByteArray), .string (⟨#[]⟩ : ByteArray)] 43 (0, 0)) bk NB101_0.out (by simp))
            have n1_ := Aside0.mk (KeepBut.trans zkk hk (.inl rfl))
            have n2_ := Aside0.mk (hb)
            have n3_ := Aside0.mk (hi)
            have z_HO104 := fun (h0_ : b 0 = true) => (show Kd.R Kd.string 9 w48 w.heap.size (fun _ => True) v103 y102 from by first | exact (Kd.R_mono (Kd.R_keep (IsS79.apart (show IsS79 w0 _ g s0_0 s0_1 s0_2 from zis) (by (with_reducible repeat (first | apply Kd.R_alloc | apply Kd.R_drewN | apply Kd.R_drew)); exact (Q_HO104 h0_)) (by decide)) hk (fun _ h => h.2)) (fun _ h => h.1)) | exact Kd.R_mono (Kd.R_mono (Kd.R_keep (IsS79.apart (show IsS79 w0 _ g s0_0 s0_1 s0_2 from zis) (by (with_reducible repeat (first | apply Kd.R_alloc | apply Kd.R_drewN | apply Kd.R_drew)); exact (Q_HO104 h0_)) (by decide)) hk (fun _ h => h.2)) (fun _ h => h.1)) (fun _ h_ => by first | trivial | exact h_ | exact h_.1))
            have z_HO111 := fun (h0_ : b 5 = true) => (show Kd.R Kd.string 9 w48 w.heap.size (fun _ => True) v110 y109 from by first | exact (Kd.R_mono (Kd.R_keep (IsS79.apart (show IsS79 w0 _ g s0_0 s0_1 s0_2 from zis) (by (with_reducible repeat (first | apply Kd.R_alloc | apply Kd.R_drewN | apply Kd.R_drew)); exact (Q_HO111 h0_)) (by decide)) hk (fun _ h => h.2)) (fun _ h => h.1)) | exact Kd.R_mono (Kd.R_mono (Kd.R_keep (IsS79.apart (show IsS79 w0 _ g s0_0 s0_1 s0_2 from zis) (by (with_reducible repeat (first | apply Kd.R_alloc | apply Kd.R_drewN | apply Kd.R_drew)); exact (Q_HO111 h0_)) (by decide)) hk (fun _ h => h.2)) (fun _ h => h.1)) (fun _ h_ => by first | trivial | exact h_ | exact h_.1))
            have z_BK116 := fun (h0_ : b 11 = true) (h1_ : b 12 = false) => (show w48.heap[gb116]? = some (.cells #[.string (⟨#[]⟩ : ByteArray), .string (⟨#[]⟩ : ByteArray)] 43 (0, 0)) from by first | exact (KeepBut.blk hk (g' := gb116) (o := .cells #[.string (⟨#[]⟩ : ByteArray), .string (⟨#[]⟩ : ByteArray)] 43 (0, 0)) (by (with_reducible repeat (first | refine blk_drewN ?_ _ | refine blk_drew ?_ | refine blk_alloc ?_ _)); exact (Q_BK116 h0_ h1_)) (Q_NB116_0 h0_) (by simp)))
            clear BK101
            clear HK
            clear HB
            clear HI0
            have BK101 := n0_
            have HK := n1_
            have HB := n2_
            have HI0 := n3_
            clear n0_ n1_ n2_ n3_
            (try clear hb)
            (try clear hb2)
            (try clear hk)
            (try clear hi)
            refine hK.out _ _ ⟨v103, adz_v103, v110, adz_v110, gb116, m3_, m8_, m11_, (by rw [ha.out]; exact putSel_upk 1 hb_ rfl rfl rfl), bk, fun h0_ => absurd ((up_self b 2).symm.trans h0_) (by decide), zkk, zbh, z_HO104, Q_HA_HO104, fun _ _ => zis, z_HO111, Q_HA_HO111, fun h0_ => absurd ((hoff 7 (by kernel_rfl)).symm.trans h0_) (by decide), z_BK116, Q_GW116, Q_GE116, Q_NB0_116, Q_NB116_0, Q_NB101_116, Q_NB116_101, fun h0_ => absurd ((hoff 12 (by kernel_rfl)).symm.trans h0_) (by decide), fun h0_ => absurd ((hoff 3 (by kernel_rfl)).symm.trans h0_) (by decide), fun h0_ => absurd ((hoff 8 (by kernel_rfl)).symm.trans h0_) (by decide), Q_X11_⟩
           refine steps_cons ?_ ?_
           ·
            rintro b a w' ⟨v103, adz_v103, v110, adz_v110, gb116, m3_, m8_, m11_, ha, Q_BK101, Q_HI0, Q_HK, Q_HB, Q_HO104, Q_HA_HO104, Q_HI0_e2, Q_HO111, Q_HA_HO111, Q_HI0_e7, Q_BK116, Q_GW116, Q_GE116, Q_NB0_116, Q_NB116_0, Q_NB101_116, Q_NB116_101, Q_BK116_e12, Q_X3_, Q_X8_, Q_X11_⟩ hb_ hon hoff
            refine ⟨_, rfl, fun K hK => ?_⟩
            have e4 : a.tmps[4]? = some (v103) := by rw [ha]; exact putSel_on (e := (0, 4, v103)) 0 rfl rfl (hon 0 (by kernel_rfl)) rfl
            have e6 : a.tmps[6]? = some (.int .i64 t105) := by rw [ha]; exact putSel_on (e := (2, 6, .int .i64 t105)) 1 rfl rfl (hon 2 (by kernel_rfl)) rfl
            replace ha := Aside0.mk ha
            have BK101 := Aside0.mk Q_BK101
            have HK := Aside0.mk Q_HK
            have HB := Aside0.mk Q_HB
            have HO104 := Aside0.mk (Q_HO104 (hon 0 (by kernel_rfl)))
            have HA_HO104 := Aside0.mk (Q_HA_HO104 (hon 0 (by kernel_rfl)))
            obtain ⟨c_, hv_⟩ := HA_HO104.out
            rw [hv_] at e4
            refine value_ (w1 := w') (v := .pointer (some (adz_v103.add (t105).toNat))) (by rfl) rfl ?_ ?_
            ·
             go_simp
             (try simp only [i64_w])
             try rfl
            refine hK.out _ _ ⟨v103, adz_v103, v110, adz_v110, gb116, (.pointer (some (adz_v103.add (t105).toNat))), m8_, m11_, (by rw [ha.out]; exact putSel_upk 2 hb_ rfl rfl rfl), Q_BK101, fun h0_ => absurd ((hon 2 (by kernel_rfl)).symm.trans h0_) (by decide), Q_HK, Q_HB, Q_HO104, Q_HA_HO104, Q_HI0_e2, Q_HO111, Q_HA_HO111, Q_HI0_e7, Q_BK116, Q_GW116, Q_GE116, Q_NB0_116, Q_NB116_0, Q_NB101_116, Q_NB116_101, fun h0_ => absurd ((hoff 12 (by kernel_rfl)).symm.trans h0_) (by decide), fun _ => rfl, Q_X8_, Q_X11_⟩
           refine steps_cons ?_ ?_
           ·
            rintro b a w' ⟨v103, adz_v103, v110, adz_v110, gb116, m3_, m8_, m11_, ha, Q_BK101, Q_HI0, Q_HK, Q_HB, Q_HO104, Q_HA_HO104, Q_HI0_e2, Q_HO111, Q_HA_HO111, Q_HI0_e7, Q_BK116, Q_GW116, Q_GE116, Q_NB0_116, Q_NB116_0, Q_NB101_116, Q_NB116_101, Q_BK116_e12, Q_X3_, Q_X8_, Q_X11_⟩ hb_ hon hoff
            refine ⟨_, rfl, fun K hK => ?_⟩
            have e7 : a.tmps[7]? = some (m3_) := by rw [ha]; exact putSel_on (e := (3, 7, m3_)) 2 rfl rfl (hon 3 (by kernel_rfl)) rfl
            rw [Q_X3_ (hon 3 (by kernel_rfl))] at e7
            replace ha := Aside0.mk ha
            have BK101 := Aside0.mk Q_BK101
            have HK := Aside0.mk Q_HK
            have HB := Aside0.mk Q_HB
            have HO104 := Aside0.mk (Q_HO104 (hon 0 (by kernel_rfl)))
            have HA_HO104 := Aside0.mk (Q_HA_HO104 (hon 0 (by kernel_rfl)))
            obtain ⟨c_, hv_⟩ := HA_HO104.out
            have hF_ := HO104.out
            rw [hv_] at hF_
            obtain ⟨ad_, ea_, hx_⟩ := Kd.at_string (Kd.R_reads' hF_).2.2 t105 (of_eq_true pi108) (of_eq_true qi108)
            cases ea_
            refine value_ (w1 := w') (v := .string (rdOf ByteArray.empty y102 t105)) (by rfl) rfl ?_ ?_
            ·
             go_simp
             (try simp only [i64_w])
             try rfl
            refine hK.out _ _ ⟨v103, adz_v103, v110, adz_v110, gb116, m3_, m8_, m11_, (by rw [ha.out]; exact putSel_upk 3 hb_ rfl rfl rfl), Q_BK101, fun h0_ => absurd ((hon 2 (by kernel_rfl)).symm.trans h0_) (by decide), Q_HK, Q_HB, Q_HO104, Q_HA_HO104, Q_HI0_e2, Q_HO111, Q_HA_HO111, Q_HI0_e7, Q_BK116, Q_GW116, Q_GE116, Q_NB0_116, Q_NB116_0, Q_NB101_116, Q_NB116_101, fun h0_ => absurd ((hoff 12 (by kernel_rfl)).symm.trans h0_) (by decide), Q_X3_, Q_X8_, Q_X11_⟩
           refine steps_cons ?_ ?_
           ·
            rintro b a w' ⟨v103, adz_v103, v110, adz_v110, gb116, m3_, m8_, m11_, ha, Q_BK101, Q_HI0, Q_HK, Q_HB, Q_HO104, Q_HA_HO104, Q_HI0_e2, Q_HO111, Q_HA_HO111, Q_HI0_e7, Q_BK116, Q_GW116, Q_GE116, Q_NB0_116, Q_NB116_0, Q_NB101_116, Q_NB116_101, Q_BK116_e12, Q_X3_, Q_X8_, Q_X11_⟩ hb_ hon hoff
            refine ⟨_, rfl, fun K hK => ?_⟩
            replace ha := Aside0.mk ha
            have BK101 := Aside0.mk Q_BK101
            have HK := Aside0.mk Q_HK
            have HB := Aside0.mk Q_HB
            refine Kd.R_lit_step Kd.string _ 9 ?hg (N := 9) ?hd (xs := ([(⟨#[49]⟩ : ByteArray), (⟨#[97, 44, 32, 98]⟩ : ByteArray), (⟨#[]⟩ : ByteArray), (⟨#[120, 45, 98]⟩ : ByteArray), (⟨#[113, 61, 34, 97, 44, 98, 34]⟩ : ByteArray), (⟨#[97]⟩ : ByteArray)] : List ByteArray)) (inner := [.string (⟨#[49]⟩ : ByteArray), .string (⟨#[97, 44, 32, 98]⟩ : ByteArray), .string (⟨#[]⟩ : ByteArray), .string (⟨#[120, 45, 98]⟩ : ByteArray), .string (⟨#[113, 61, 34, 97, 44, 98, 34]⟩ : ByteArray), .string (⟨#[97]⟩ : ByteArray)]) (ok := fun _ => True) (okp := fun _ => True) ?hr ?hp (fun _ hk => hk) trivial (Below.refl _ _) (Nat.le_refl _) (by simp) ?_; (case hd => rfl); (case hg => rfl); (case hr => first | (go_simp; done) | (go_simp; rfl)); (case hp => exact (Reps.one (show Kd.M Kd.string _ _ _ (⟨#[49]⟩ : ByteArray) [.string (⟨#[49]⟩ : ByteArray)] from rfl) (Reps.one (show Kd.M Kd.string _ _ _ (⟨#[97, 44, 32, 98]⟩ : ByteArray) [.string (⟨#[97, 44, 32, 98]⟩ : ByteArray)] from rfl) (Reps.one (show Kd.M Kd.string _ _ _ (⟨#[]⟩ : ByteArray) [.string (⟨#[]⟩ : ByteArray)] from rfl) (Reps.one (show Kd.M Kd.string _ _ _ (⟨#[120, 45, 98]⟩ : ByteArray) [.string (⟨#[120, 45, 98]⟩ : ByteArray)] from rfl) (Reps.one (show Kd.M Kd.string _ _ _ (⟨#[113, 61, 34, 97, 44, 98, 34]⟩ : ByteArray) [.string (⟨#[113, 61, 34, 97, 44, 98, 34]⟩ : ByteArray)] from rfl) (Reps.one (show Kd.M Kd.string _ _ _ (⟨#[97]⟩ : ByteArray) [.string (⟨#[97]⟩ : ByteArray)] from rfl) (Reps.none _ _))))))))
            intro v110 w48 ho49 hb hg_ hnew_
            clear hg_ hnew_
            (first | rw [← Ny109.out] at ho49 | (simp only [Int.reduceToNat] at ho49; rw [← Ny109.out] at ho49))
            have n0_ := Aside0.mk (Kd.R_lower ho49 (keep_size (w := w) (g := g) (row := none) zkk))
            have n2_ := Aside0.mk (blk_below (g := gb101) (o := .cells #[.string (⟨#[]⟩ : ByteArray), .string (⟨#[]⟩ : ByteArray)] 43 (0, 0)) bk hb)
            have n3_ := Aside0.mk (KeepBut.trans zkk (KeepBut.of_below hb g none) (.inl rfl))
            have n4_ := Aside0.mk (below_step bh hb)
            have z_HI0 := fun (h0_ : b 2 = false) => (show IsS79 w0 w48 g s0_0 s0_1 s0_2 from by first | exact (IsS79.below (by repeat (first | (with_reducible first | exact (Q_HI0 h0_) | apply IsS79.alloc | apply IsS79.drewN | apply IsS79.drew | apply IsS79.set_1 | apply IsS79.set_2 | refine IsS79.far ?_ NB0_101.out _) | exact (Q_HI0 h0_))) hb))
            have z_HO104 := fun (h0_ : b 0 = true) => (show Kd.R Kd.string 9 w48 w.heap.size (fun _ => True) v103 y102 from by first | exact (Kd.R_elder' (by (with_reducible repeat (first | apply Kd.R_alloc | apply Kd.R_drewN | apply Kd.R_drew)); exact (Q_HO104 h0_)) (Kd.R_base ho49) hb) | exact Kd.R_mono (Kd.R_elder' (by (with_reducible repeat (first | apply Kd.R_alloc | apply Kd.R_drewN | apply Kd.R_drew)); exact (Q_HO104 h0_)) (Kd.R_base ho49) hb) (fun _ h_ => by first | trivial | exact h_ | exact h_.1))
            have z_HI0_e2 := fun (h0_ : b 2 = true) (h1_ : b 7 = false) => (show IsS79 w0 w48 g s0_0 t106 t107 from by first | exact (IsS79.below (by repeat (first | (with_reducible first | exact (Q_HI0_e2 h0_ h1_) | apply IsS79.alloc | apply IsS79.drewN | apply IsS79.drew | apply IsS79.set_1 | apply IsS79.set_2 | refine IsS79.far ?_ NB0_101.out _) | exact (Q_HI0_e2 h0_ h1_))) hb))
            have z_HI0_e7 := fun (h0_ : b 7 = true) => (show IsS79 w0 w48 g s0_0 t113 t114 from by first | exact (IsS79.below (by repeat (first | (with_reducible first | exact (Q_HI0_e7 h0_) | apply IsS79.alloc | apply IsS79.drewN | apply IsS79.drew | apply IsS79.set_1 | apply IsS79.set_2 | refine IsS79.far ?_ NB0_101.out _) | exact (Q_HI0_e7 h0_))) hb))
            have z_BK116 := fun (h0_ : b 11 = true) (h1_ : b 12 = false) => (show w48.heap[gb116]? = some (.cells #[.string (⟨#[]⟩ : ByteArray), .string (⟨#[]⟩ : ByteArray)] 43 (0, 0)) from by first | exact (blk_below (g := gb116) (o := .cells #[.string (⟨#[]⟩ : ByteArray), .string (⟨#[]⟩ : ByteArray)] 43 (0, 0)) (by (with_reducible repeat (first | refine blk_drewN ?_ _ | refine blk_drew ?_ | refine blk_alloc ?_ _)); exact (Q_BK116 h0_ h1_)) hb))
            clear BK101
            clear HK
            clear HB
            have HO111 := n0_
            have BK101 := n2_
            have HK := n3_
            have HB := n4_
            clear n0_ n2_ n3_ n4_
            clear hb ho49
            obtain ⟨Ao50, co50, eo50⟩ := Kd.R_slice HO111.out
            subst eo50
            obtain ⟨ado50, fo50, _⟩ := Kd.at_string (Kd.R_reads' HO111.out).2.2 0 (by decide) (by rw [Ny109.out]; simp)
            cases fo50
            refine hK.out _ _ ⟨v103, adz_v103, .slice (some ado50) y109.length co50, ado50, gb116, m3_, m8_, m11_, (by rw [ha.out]; exact putSel_upk 4 hb_ rfl rfl rfl), bk, z_HI0, zkk, bh, z_HO104, Q_HA_HO104, z_HI0_e2, fun _ => (by (with_reducible repeat (first | apply Kd.R_alloc | apply Kd.R_drewN | apply Kd.R_drew)); exact HO111.out), fun _ => ⟨_, rfl⟩, z_HI0_e7, z_BK116, Q_GW116, Q_GE116, Q_NB0_116, Q_NB116_0, Q_NB101_116, Q_NB116_101, fun h0_ => absurd ((hoff 12 (by kernel_rfl)).symm.trans h0_) (by decide), Q_X3_, fun h0_ => absurd ((hoff 8 (by kernel_rfl)).symm.trans h0_) (by decide), Q_X11_⟩
           refine steps_cons ?_ ?_
           ·
            rintro b a w' ⟨v103, adz_v103, v110, adz_v110, gb116, m3_, m8_, m11_, ha, Q_BK101, Q_HI0, Q_HK, Q_HB, Q_HO104, Q_HA_HO104, Q_HI0_e2, Q_HO111, Q_HA_HO111, Q_HI0_e7, Q_BK116, Q_GW116, Q_GE116, Q_NB0_116, Q_NB116_0, Q_NB101_116, Q_NB116_101, Q_BK116_e12, Q_X3_, Q_X8_, Q_X11_⟩ hb_ hon hoff
            refine ⟨_, rfl, fun K hK => ?_⟩
            have e10 : a.tmps[10]? = some (.pointer (some ⟨g, 0, none⟩)) := by rw [ha]; exact (putSel_off rfl).trans rfl
            replace ha := Aside0.mk ha
            have BK101 := Aside0.mk Q_BK101
            have HK := Aside0.mk Q_HK
            have HB := Aside0.mk Q_HB
            have HI0 := Aside0.mk (Q_HI0_e2 (hon 2 (by kernel_rfl)) hb_)
            refine goes_ Tryd.func64 (by kernel_rfl) rfl #[.pointer (some ⟨g, 0, none⟩), .int .i64 6] (by rfl) rfl rfl (by first | (simp only [List.map_toArray, List.map_cons, List.map_nil, Act.eval, Array.getD_eq_getD_getElem?, Option.getD_some, e10]; done) | (simp only [List.map_toArray, List.map_cons, List.map_nil, Act.eval, Array.getD_eq_getD_getElem?, Option.getD_some, e10]; rfl)) ?_
            with_reducible refine (spec_l1Below.calls g s0_0 t106 t107 6 t112 t113 t114 w0 _ ?side1 ?side2 A5.out).mono ?_
            (case side1 => exact zis)
            (case side2 => exact zbh)
            rintro e w50 ⟨rfl, hi, hb, hk⟩
            refine ⟨_, rfl, ?_⟩
            have n0_ := Aside0.mk (KeepBut.blk hk (g' := gb101) (o := .cells #[.string (⟨#[]⟩ : ByteArray), .string (⟨#[]⟩ : ByteArray)] 43 (0, 0)) bk NB101_0.out (by simp))
            have n1_ := Aside0.mk (KeepBut.trans zkk hk (.inl rfl))
            have n2_ := Aside0.mk (hb)
            have n3_ := Aside0.mk (hi)
            have z_HO104 := fun (h0_ : b 0 = true) => (show Kd.R Kd.string 9 w50 w.heap.size (fun _ => True) v103 y102 from by first | exact (Kd.R_mono (Kd.R_keep (IsS79.apart (show IsS79 w0 _ g s0_0 t106 t107 from zis) (by (with_reducible repeat (first | apply Kd.R_alloc | apply Kd.R_drewN | apply Kd.R_drew)); exact (Q_HO104 h0_)) (by decide)) hk (fun _ h => h.2)) (fun _ h => h.1)) | exact Kd.R_mono (Kd.R_mono (Kd.R_keep (IsS79.apart (show IsS79 w0 _ g s0_0 t106 t107 from zis) (by (with_reducible repeat (first | apply Kd.R_alloc | apply Kd.R_drewN | apply Kd.R_drew)); exact (Q_HO104 h0_)) (by decide)) hk (fun _ h => h.2)) (fun _ h => h.1)) (fun _ h_ => by first | trivial | exact h_ | exact h_.1))
            have z_HO111 := fun (h0_ : b 5 = true) => (show Kd.R Kd.string 9 w50 w.heap.size (fun _ => True) v110 y109 from by first | exact (Kd.R_mono (Kd.R_keep (IsS79.apart (show IsS79 w0 _ g s0_0 t106 t107 from zis) (by (with_reducible repeat (first | apply Kd.R_alloc | apply Kd.R_drewN | apply Kd.R_drew)); exact (Q_HO111 h0_)) (by decide)) hk (fun _ h => h.2)) (fun _ h => h.1)) | exact Kd.R_mono (Kd.R_mono (Kd.R_keep (IsS79.apart (show IsS79 w0 _ g s0_0 t106 t107 from zis) (by (with_reducible repeat (first | apply Kd.R_alloc | apply Kd.R_drewN | apply Kd.R_drew)); exact (Q_HO111 h0_)) (by decide)) hk (fun _ h => h.2)) (fun _ h => h.1)) (fun _ h_ => by first | trivial | exact h_ | exact h_.1))
            have z_BK116 := fun (h0_ : b 11 = true) (h1_ : b 12 = false) => (show w50.heap[gb116]? = some (.cells #[.string (⟨#[]⟩ : ByteArray), .string (⟨#[]⟩ : ByteArray)] 43 (0, 0)) from by first | exact (KeepBut.blk hk (g' := gb116) (o := .cells #[.string (⟨#[]⟩ : ByteArray), .string (⟨#[]⟩ : ByteArray)] 43 (0, 0)) (by (with_reducible repeat (first | refine blk_drewN ?_ _ | refine blk_drew ?_ | refine blk_alloc ?_ _)); exact (Q_BK116 h0_ h1_)) (Q_NB116_0 h0_) (by simp)))
            clear BK101
            clear HK
            clear HB
            clear HI0
            have BK101 := n0_
            have HK := n1_
            have HB := n2_
            have HI0 := n3_
            clear n0_ n1_ n2_ n3_
            (try clear hb)
            (try clear hb2)
            (try clear hk)
            (try clear hi)
            refine hK.out _ _ ⟨v103, adz_v103, v110, adz_v110, gb116, m3_, m8_, m11_, (by rw [ha.out]; exact putSel_upk 5 hb_ rfl rfl rfl), bk, fun h0_ => absurd ((hon 2 (by kernel_rfl)).symm.trans h0_) (by decide), zkk, zbh, z_HO104, Q_HA_HO104, fun _ h1_ => absurd ((up_self b 7).symm.trans h1_) (by decide), z_HO111, Q_HA_HO111, fun _ => zis, z_BK116, Q_GW116, Q_GE116, Q_NB0_116, Q_NB116_0, Q_NB101_116, Q_NB116_101, fun h0_ => absurd ((hoff 12 (by kernel_rfl)).symm.trans h0_) (by decide), Q_X3_, fun h0_ => absurd ((hoff 8 (by kernel_rfl)).symm.trans h0_) (by decide), Q_X11_⟩
           refine steps_cons ?_ ?_
           ·
            rintro b a w' ⟨v103, adz_v103, v110, adz_v110, gb116, m3_, m8_, m11_, ha, Q_BK101, Q_HI0, Q_HK, Q_HB, Q_HO104, Q_HA_HO104, Q_HI0_e2, Q_HO111, Q_HA_HO111, Q_HI0_e7, Q_BK116, Q_GW116, Q_GE116, Q_NB0_116, Q_NB116_0, Q_NB101_116, Q_NB116_101, Q_BK116_e12, Q_X3_, Q_X8_, Q_X11_⟩ hb_ hon hoff
            refine ⟨_, rfl, fun K hK => ?_⟩
            have e9 : a.tmps[9]? = some (v110) := by rw [ha]; exact putSel_on (e := (5, 9, v110)) 4 rfl rfl (hon 5 (by kernel_rfl)) rfl
            have e11 : a.tmps[11]? = some (.int .i64 t112) := by rw [ha]; exact putSel_on (e := (7, 11, .int .i64 t112)) 5 rfl rfl (hon 7 (by kernel_rfl)) rfl
            replace ha := Aside0.mk ha
            have BK101 := Aside0.mk Q_BK101
            have HK := Aside0.mk Q_HK
            have HB := Aside0.mk Q_HB
            have HO111 := Aside0.mk (Q_HO111 (hon 5 (by kernel_rfl)))
            have HA_HO111 := Aside0.mk (Q_HA_HO111 (hon 5 (by kernel_rfl)))
            have HI0 := Aside0.mk (Q_HI0_e7 (hon 7 (by kernel_rfl)))
            obtain ⟨c_, hv_⟩ := HA_HO111.out
            rw [hv_] at e9
            refine value_ (w1 := w') (v := .pointer (some (adz_v110.add (t112).toNat))) (by rfl) rfl ?_ ?_
            ·
             go_simp
             (try simp only [i64_w])
             try rfl
            refine hK.out _ _ ⟨v103, adz_v103, v110, adz_v110, gb116, m3_, (.pointer (some (adz_v110.add (t112).toNat))), m11_, (by rw [ha.out]; exact putSel_upk 6 hb_ rfl rfl rfl), Q_BK101, fun h0_ => absurd ((hon 2 (by kernel_rfl)).symm.trans h0_) (by decide), Q_HK, Q_HB, Q_HO104, Q_HA_HO104, fun _ h1_ => absurd ((hon 7 (by kernel_rfl)).symm.trans h1_) (by decide), Q_HO111, Q_HA_HO111, Q_HI0_e7, Q_BK116, Q_GW116, Q_GE116, Q_NB0_116, Q_NB116_0, Q_NB101_116, Q_NB116_101, fun h0_ => absurd ((hoff 12 (by kernel_rfl)).symm.trans h0_) (by decide), Q_X3_, fun _ => rfl, Q_X11_⟩
           refine steps_cons ?_ ?_
           ·
            rintro b a w' ⟨v103, adz_v103, v110, adz_v110, gb116, m3_, m8_, m11_, ha, Q_BK101, Q_HI0, Q_HK, Q_HB, Q_HO104, Q_HA_HO104, Q_HI0_e2, Q_HO111, Q_HA_HO111, Q_HI0_e7, Q_BK116, Q_GW116, Q_GE116, Q_NB0_116, Q_NB116_0, Q_NB101_116, Q_NB116_101, Q_BK116_e12, Q_X3_, Q_X8_, Q_X11_⟩ hb_ hon hoff
            refine ⟨_, rfl, fun K hK => ?_⟩
            have e12 : a.tmps[12]? = some (m8_) := by rw [ha]; exact putSel_on (e := (8, 12, m8_)) 6 rfl rfl (hon 8 (by kernel_rfl)) rfl
            rw [Q_X8_ (hon 8 (by kernel_rfl))] at e12
            replace ha := Aside0.mk ha
            have BK101 := Aside0.mk Q_BK101
            have HK := Aside0.mk Q_HK
            have HB := Aside0.mk Q_HB
            have HO111 := Aside0.mk (Q_HO111 (hon 5 (by kernel_rfl)))
            have HA_HO111 := Aside0.mk (Q_HA_HO111 (hon 5 (by kernel_rfl)))
            have HI0 := Aside0.mk (Q_HI0_e7 (hon 7 (by kernel_rfl)))
            obtain ⟨c_, hv_⟩ := HA_HO111.out
            have hF_ := HO111.out
            rw [hv_] at hF_
            obtain ⟨ad_, ea_, hx_⟩ := Kd.at_string (Kd.R_reads' hF_).2.2 t112 (of_eq_true pi115) (of_eq_true qi115)
            cases ea_
            refine value_ (w1 := w') (v := .string (rdOf ByteArray.empty y109 t112)) (by rfl) rfl ?_ ?_
            ·
             go_simp
             (try simp only [i64_w])
             try rfl
            refine hK.out _ _ ⟨v103, adz_v103, v110, adz_v110, gb116, m3_, m8_, m11_, (by rw [ha.out]; exact putSel_upk 7 hb_ rfl rfl rfl), Q_BK101, fun h0_ => absurd ((hon 2 (by kernel_rfl)).symm.trans h0_) (by decide), Q_HK, Q_HB, Q_HO104, Q_HA_HO104, fun _ h1_ => absurd ((hon 7 (by kernel_rfl)).symm.trans h1_) (by decide), Q_HO111, Q_HA_HO111, Q_HI0_e7, Q_BK116, Q_GW116, Q_GE116, Q_NB0_116, Q_NB116_0, Q_NB101_116, Q_NB116_101, fun h0_ => absurd ((hoff 12 (by kernel_rfl)).symm.trans h0_) (by decide), Q_X3_, Q_X8_, Q_X11_⟩
           refine steps_cons ?_ ?_
           ·
            rintro b a w' ⟨v103, adz_v103, v110, adz_v110, gb116, m3_, m8_, m11_, ha, Q_BK101, Q_HI0, Q_HK, Q_HB, Q_HO104, Q_HA_HO104, Q_HI0_e2, Q_HO111, Q_HA_HO111, Q_HI0_e7, Q_BK116, Q_GW116, Q_GE116, Q_NB0_116, Q_NB116_0, Q_NB101_116, Q_NB116_101, Q_BK116_e12, Q_X3_, Q_X8_, Q_X11_⟩ hb_ hon hoff
            refine ⟨_, rfl, fun K hK => ?_⟩
            have e8 : a.tmps[8]? = some (.string (rdOf ByteArray.empty y102 t105)) := by rw [ha]; exact putSel_on (e := (4, 8, .string (rdOf ByteArray.empty y102 t105))) 3 rfl rfl (hon 4 (by kernel_rfl)) rfl
            have e13 : a.tmps[13]? = some (.string (rdOf ByteArray.empty y109 t112)) := by rw [ha]; exact putSel_on (e := (9, 13, .string (rdOf ByteArray.empty y109 t112))) 7 rfl rfl (hon 9 (by kernel_rfl)) rfl
            replace ha := Aside0.mk ha
            have BK101 := Aside0.mk Q_BK101
            have HK := Aside0.mk Q_HK
            have HB := Aside0.mk Q_HB
            have HO104 := Aside0.mk (Q_HO104 (hon 0 (by kernel_rfl)))
            have HA_HO104 := Aside0.mk (Q_HA_HO104 (hon 0 (by kernel_rfl)))
            have HO111 := Aside0.mk (Q_HO111 (hon 5 (by kernel_rfl)))
            have HA_HO111 := Aside0.mk (Q_HA_HO111 (hon 5 (by kernel_rfl)))
            have HI0 := Aside0.mk (Q_HI0_e7 (hon 7 (by kernel_rfl)))
            refine value_ (w1 := w') (v := .agg #[.string (rdOf ByteArray.empty y102 t105), .string (rdOf ByteArray.empty y109 t112)]) (by rfl) rfl ?_ ?_
            ·
             go_simp
             (try simp only [i64_w])
             try rfl
            refine hK.out _ _ ⟨v103, adz_v103, v110, adz_v110, gb116, m3_, m8_, m11_, (by rw [ha.out]; exact putSel_upk 8 hb_ rfl rfl rfl), Q_BK101, fun h0_ => absurd ((hon 2 (by kernel_rfl)).symm.trans h0_) (by decide), Q_HK, Q_HB, Q_HO104, Q_HA_HO104, fun _ h1_ => absurd ((hon 7 (by kernel_rfl)).symm.trans h1_) (by decide), Q_HO111, Q_HA_HO111, Q_HI0_e7, Q_BK116, Q_GW116, Q_GE116, Q_NB0_116, Q_NB116_0, Q_NB101_116, Q_NB116_101, fun h0_ => absurd ((hoff 12 (by kernel_rfl)).symm.trans h0_) (by decide), Q_X3_, Q_X8_, Q_X11_⟩
           refine steps_cons ?_ ?_
           ·
            rintro b a w' ⟨v103, adz_v103, v110, adz_v110, gb116, m3_, m8_, m11_, ha, Q_BK101, Q_HI0, Q_HK, Q_HB, Q_HO104, Q_HA_HO104, Q_HI0_e2, Q_HO111, Q_HA_HO111, Q_HI0_e7, Q_BK116, Q_GW116, Q_GE116, Q_NB0_116, Q_NB116_0, Q_NB101_116, Q_NB116_101, Q_BK116_e12, Q_X3_, Q_X8_, Q_X11_⟩ hb_ hon hoff
            refine ⟨_, rfl, fun K hK => ?_⟩
            replace ha := Aside0.mk ha
            have BK101 := Aside0.mk Q_BK101
            have HK := Aside0.mk Q_HK
            have HB := Aside0.mk Q_HB
            refine box_step ?hg (N := 3) ?hd (cs := #[.string (⟨#[]⟩ : ByteArray), .string (⟨#[]⟩ : ByteArray)]) (t := 43) ?hr ?_; (case hd => rfl); (case hg => rfl); (case hr => first | (go_simp; done) | (go_simp; rfl))
            intro gb116 hg w48 hbox hb
            have n1_ := Aside0.mk (blk_below (g := gb101) (o := .cells #[.string (⟨#[]⟩ : ByteArray), .string (⟨#[]⟩ : ByteArray)] 43 (0, 0)) bk hb)
            have n2_ := Aside0.mk (KeepBut.trans zkk (KeepBut.of_below hb g none) (.inl rfl))
            have n3_ := Aside0.mk (below_step bh hb)
            have n4_ := Aside0.mk (hbox)
            have n5_ := Aside0.mk ((zsz hg : w.heap.size ≤ gb116))
            have n6_ := Aside0.mk ((Nat.le_trans HW0.out (zsz hg : w.heap.size ≤ gb116) : w0.heap.size ≤ gb116))
            have n7_ := Aside0.mk ((nl hg bk : gb101 ≠ gb116))
            have n8_ := Aside0.mk ((ng hg bk : gb116 ≠ gb101))
            have n9_ := Aside0.mk ((by rw [hg]; exact Nat.ne_of_lt (Nat.lt_of_lt_of_le HG0_.out (keep_size (w := w) (g := g) (row := none) zkk)) : g ≠ gb116))
            have n10_ := Aside0.mk ((by rw [hg]; exact Nat.ne_of_gt (Nat.lt_of_lt_of_le HG0_.out (keep_size (w := w) (g := g) (row := none) zkk)) : gb116 ≠ g))
            have z_HI0 := fun (h0_ : b 2 = false) => (show IsS79 w0 w48 g s0_0 s0_1 s0_2 from by first | exact (IsS79.below (by repeat (first | (with_reducible first | exact (Q_HI0 h0_) | apply IsS79.alloc | apply IsS79.drewN | apply IsS79.drew | apply IsS79.set_1 | apply IsS79.set_2 | refine IsS79.far ?_ NB0_101.out _) | exact (Q_HI0 h0_))) hb))
            have z_HO104 := fun (h0_ : b 0 = true) => (show Kd.R Kd.string 9 w48 w.heap.size (fun _ => True) v103 y102 from by first | exact (Kd.R_below (by (with_reducible repeat (first | apply Kd.R_alloc | apply Kd.R_drewN | apply Kd.R_drew)); exact (Q_HO104 h0_)) hb) | exact Kd.R_mono (Kd.R_below (by (with_reducible repeat (first | apply Kd.R_alloc | apply Kd.R_drewN | apply Kd.R_drew)); exact (Q_HO104 h0_)) hb) (fun _ h_ => by first | trivial | exact h_ | exact h_.1))
            have z_HI0_e2 := fun (h0_ : b 2 = true) (h1_ : b 7 = false) => (show IsS79 w0 w48 g s0_0 t106 t107 from by first | exact (IsS79.below (by repeat (first | (with_reducible first | exact (Q_HI0_e2 h0_ h1_) | apply IsS79.alloc | apply IsS79.drewN | apply IsS79.drew | apply IsS79.set_1 | apply IsS79.set_2 | refine IsS79.far ?_ NB0_101.out _) | exact (Q_HI0_e2 h0_ h1_))) hb))
            have z_HO111 := fun (h0_ : b 5 = true) => (show Kd.R Kd.string 9 w48 w.heap.size (fun _ => True) v110 y109 from by first | exact (Kd.R_below (by (with_reducible repeat (first | apply Kd.R_alloc | apply Kd.R_drewN | apply Kd.R_drew)); exact (Q_HO111 h0_)) hb) | exact Kd.R_mono (Kd.R_below (by (with_reducible repeat (first | apply Kd.R_alloc | apply Kd.R_drewN | apply Kd.R_drew)); exact (Q_HO111 h0_)) hb) (fun _ h_ => by first | trivial | exact h_ | exact h_.1))
            have z_HI0_e7 := fun (h0_ : b 7 = true) => (show IsS79 w0 w48 g s0_0 t113 t114 from by first | exact (IsS79.below (by repeat (first | (with_reducible first | exact (Q_HI0_e7 h0_) | apply IsS79.alloc | apply IsS79.drewN | apply IsS79.drew | apply IsS79.set_1 | apply IsS79.set_2 | refine IsS79.far ?_ NB0_101.out _) | exact (Q_HI0_e7 h0_))) hb))
            clear BK101
            clear HK
            clear HB
            have BK101 := n1_
            have HK := n2_
            have HB := n3_
            have BK116 := n4_
            have GW116 := n5_
            have GE116 := n6_
            have NB101_116 := n7_
            have NB116_101 := n8_
            have NB0_116 := n9_
            have NB116_0 := n10_
            clear n1_ n2_ n3_ n4_ n5_ n6_ n7_ n8_ n9_ n10_
            clear hb hbox hg
            refine hK.out _ _ ⟨v103, adz_v103, v110, adz_v110, gb116, m3_, m8_, (.pointer (some ⟨gb116, 0, none⟩)), (by rw [ha.out]; exact putSel_upk 9 hb_ rfl rfl rfl), bk, z_HI0, zkk, bh, z_HO104, Q_HA_HO104, z_HI0_e2, z_HO111, Q_HA_HO111, z_HI0_e7, fun _ _ => bk, fun _ => GW116.out, fun _ => GE116.out, fun _ => NB0_116.out, fun _ => NB116_0.out, fun _ => NB101_116.out, fun _ => NB116_101.out, fun h0_ => absurd ((hoff 12 (by kernel_rfl)).symm.trans h0_) (by decide), Q_X3_, Q_X8_, fun _ => rfl⟩
           refine steps_cons ?_ ?_
           ·
            rintro b a w' ⟨v103, adz_v103, v110, adz_v110, gb116, m3_, m8_, m11_, ha, Q_BK101, Q_HI0, Q_HK, Q_HB, Q_HO104, Q_HA_HO104, Q_HI0_e2, Q_HO111, Q_HA_HO111, Q_HI0_e7, Q_BK116, Q_GW116, Q_GE116, Q_NB0_116, Q_NB116_0, Q_NB101_116, Q_NB116_101, Q_BK116_e12, Q_X3_, Q_X8_, Q_X11_⟩ hb_ hon hoff
            refine ⟨_, rfl, fun K hK => ?_⟩
            have e3 : a.tmps[3]? = some (m11_) := by rw [ha]; exact putSel_on (e := (11, 3, m11_)) 9 rfl rfl (hon 11 (by kernel_rfl)) rfl
            rw [Q_X11_ (hon 11 (by kernel_rfl))] at e3
            have e14 : a.tmps[14]? = some (.agg #[.string (rdOf ByteArray.empty y102 t105), .string (rdOf ByteArray.empty y109 t112)]) := by rw [ha]; exact putSel_on (e := (10, 14, .agg #[.string (rdOf ByteArray.empty y102 t105), .string (rdOf ByteArray.empty y109 t112)])) 8 rfl rfl (hon 10 (by kernel_rfl)) rfl
            replace ha := Aside0.mk ha
            have BK101 := Aside0.mk Q_BK101
            have HK := Aside0.mk Q_HK
            have HB := Aside0.mk Q_HB
            have HO104 := Aside0.mk (Q_HO104 (hon 0 (by kernel_rfl)))
            have HA_HO104 := Aside0.mk (Q_HA_HO104 (hon 0 (by kernel_rfl)))
            have HO111 := Aside0.mk (Q_HO111 (hon 5 (by kernel_rfl)))
            have HA_HO111 := Aside0.mk (Q_HA_HO111 (hon 5 (by kernel_rfl)))
            have HI0 := Aside0.mk (Q_HI0_e7 (hon 7 (by kernel_rfl)))
            have BK116 := Aside0.mk (Q_BK116 (hon 11 (by kernel_rfl)) hb_)
            have GW116 := Aside0.mk (Q_GW116 (hon 11 (by kernel_rfl)))
            have GE116 := Aside0.mk (Q_GE116 (hon 11 (by kernel_rfl)))
            have NB0_116 := Aside0.mk (Q_NB0_116 (hon 11 (by kernel_rfl)))
            have NB116_0 := Aside0.mk (Q_NB116_0 (hon 11 (by kernel_rfl)))
            have NB101_116 := Aside0.mk (Q_NB101_116 (hon 11 (by kernel_rfl)))
            have NB116_101 := Aside0.mk (Q_NB116_101 (hon 11 (by kernel_rfl)))
            obtain ⟨co58, eo58⟩ := HA_HO104.out
            clear HA_HO104
            subst eo58
            obtain ⟨co59, eo59⟩ := HA_HO111.out
            clear HA_HO111
            subst eo59
            have hs60 : w'.cell? ⟨gb116, 0, none⟩ = some (.string (⟨#[]⟩ : ByteArray)) := bc BK116 0
            have hfs60 := blk_frozen BK116.out 0
            have hns60_0 := NB101_116.out
            have hms60_0 := NB116_101.out
            have hs61 : w'.cell? ⟨gb116, 1, none⟩ = some (.string (⟨#[]⟩ : ByteArray)) := bc BK116 1
            have hfs61 := blk_frozen BK116.out 1
            have hns61_0 := NB101_116.out
            have hms61_0 := NB116_101.out
            refine skip_ (w1 := ?_) (by rfl) rfl ?_ ?_
            rotate_left
            ·
             go_simp
             rfl
            refine hK.out _ _ ⟨.slice (some adz_v103) y102.length co58, adz_v103, .slice (some adz_v110) y109.length co59, adz_v110, gb116, m3_, m8_, m11_, (by rw [ha.out]; exact putSel_none (v := undef) rfl), bkf, fun h0_ => absurd ((hon 2 (by kernel_rfl)).symm.trans h0_) (by decide), zkk, zbh, fun _ => (by (with_reducible repeat (first | apply Kd.R_alloc | apply Kd.R_drewN | apply Kd.R_drew)); exact Kd.R_mono (Kd.R_far (p := ⟨gb116, 1, none⟩) (Kd.R_far (p := ⟨gb116, 0, none⟩) (Kd.R_types HO104.out BK116.out (by decide)) (fun _ hk => hk.2) (.string (rdOf ByteArray.empty y102 t105))) (fun _ hk => hk.2) (.string (rdOf ByteArray.empty y109 t112))) (fun _ hk => hk.1)), fun _ => ⟨_, rfl⟩, fun _ h1_ => absurd ((hon 7 (by kernel_rfl)).symm.trans h1_) (by decide), fun _ => (by (with_reducible repeat (first | apply Kd.R_alloc | apply Kd.R_drewN | apply Kd.R_drew)); exact Kd.R_mono (Kd.R_far (p := ⟨gb116, 1, none⟩) (Kd.R_far (p := ⟨gb116, 0, none⟩) (Kd.R_types HO111.out BK116.out (by decide)) (fun _ hk => hk.2) (.string (rdOf ByteArray.empty y102 t105))) (fun _ hk => hk.2) (.string (rdOf ByteArray.empty y109 t112))) (fun _ hk => hk.1)), fun _ => ⟨_, rfl⟩, fun _ => zis, fun _ h1_ => absurd ((up_self b 12).symm.trans h1_) (by decide), fun _ => GW116.out, fun _ => GE116.out, fun _ => NB0_116.out, fun _ => NB116_0.out, fun _ => NB101_116.out, fun _ => NB116_101.out, fun _ => bkp, Q_X3_, Q_X8_, Q_X11_⟩
           exact steps_nil
          rintro b a w59 hall ⟨v103, adz_v103, v110, adz_v110, gb116, m3_, m8_, m11_, ha, Q_BK101, Q_HI0, Q_HK, Q_HB, Q_HO104, Q_HA_HO104, Q_HI0_e2, Q_HO111, Q_HA_HO111, Q_HI0_e7, Q_BK116, Q_GW116, Q_GE116, Q_NB0_116, Q_NB116_0, Q_NB101_116, Q_NB116_101, Q_BK116_e12, Q_X3_, Q_X8_, Q_X11_⟩
          clear BK101 HB HI0 HK
          have hb0_ := hall 0 (by kernel_rfl)
          have hb2_ := hall 2 (by kernel_rfl)
          have hb3_ := hall 3 (by kernel_rfl)
          have hb4_ := hall 4 (by kernel_rfl)
          have hb5_ := hall 5 (by kernel_rfl)
          have hb7_ := hall 7 (by kernel_rfl)
          have hb8_ := hall 8 (by kernel_rfl)
          have hb9_ := hall 9 (by kernel_rfl)
          have hb10_ := hall 10 (by kernel_rfl)
          have hb11_ := hall 11 (by kernel_rfl)
          have hb12_ := hall 12 (by kernel_rfl)
          subst ha
          obtain rfl := Q_X3_ hb3_
          obtain rfl := Q_X8_ hb8_
          obtain rfl := Q_X11_ hb11_
          simp only [putSel, hb0_, hb2_, hb3_, hb4_, hb5_, hb7_, hb8_, hb9_, hb10_, hb11_, hb12_, if_true, Act.put, List.setIfInBounds_toArray, List.set_cons_zero, List.set_cons_succ]
          have BK101 := Aside0.mk Q_BK101
          clear Q_BK101
          clear Q_HI0
          have HK := Aside0.mk Q_HK
          clear Q_HK
          have HB := Aside0.mk Q_HB
          clear Q_HB
          have HO104 := Aside0.mk (Q_HO104 hb0_)
          clear Q_HO104
          have HA_HO104 := Aside0.mk (Q_HA_HO104 hb0_)
          clear Q_HA_HO104
          clear Q_HI0_e2
          have HO111 := Aside0.mk (Q_HO111 hb5_)
          clear Q_HO111
          have HA_HO111 := Aside0.mk (Q_HA_HO111 hb5_)
          clear Q_HA_HO111
          have HI0 := Aside0.mk (Q_HI0_e7 hb7_)
          clear Q_HI0_e7
          clear Q_BK116
          have GW116 := Aside0.mk (Q_GW116 hb11_)
          clear Q_GW116
          have GE116 := Aside0.mk (Q_GE116 hb11_)
          clear Q_GE116
          have NB0_116 := Aside0.mk (Q_NB0_116 hb11_)
          clear Q_NB0_116
          have NB116_0 := Aside0.mk (Q_NB116_0 hb11_)
          clear Q_NB116_0
          have NB101_116 := Aside0.mk (Q_NB101_116 hb11_)
          clear Q_NB101_116
          have NB116_101 := Aside0.mk (Q_NB116_101 hb11_)
          clear Q_NB116_101
          have BK116 := Aside0.mk (Q_BK116_e12 hb12_)
          clear Q_BK116_e12
          clear hall hb0_ hb2_ hb3_ hb4_ hb5_ hb7_ hb8_ hb9_ hb10_ hb11_ hb12_
          obtain ⟨co60, eo60⟩ := HA_HO104.out
          clear HA_HO104
          subst eo60
          obtain ⟨co61, eo61⟩ := HA_HO111.out
          clear HA_HO111
          subst eo61
          try go_wp2_with (first | ((with_reducible refine gate_callee (f := 36) rfl ?_); refine goesL_ (some 16) rfl rfl Tryd.func36 (by kernel_rfl) rfl #[.pointer (some ⟨g, 0, none⟩), .int .i64 24] rfl mc ?_; (with_reducible refine (spec_l1Once.calls g s0_0 t113 t114 24 true t118 t119 w0 _ ?side1 ?side2 A8.out).mono ?_); (case side1 => exact zis); (case side2 => exact zbh); rintro e w62 ⟨rfl, hi, hb, hk⟩; refine ⟨_, rfl, ?_⟩; replace BK101 := bkk_ BK101 hk NB101_0; replace HO104 := Aside0.mk (Kd.R_mono (Kd.R_keep (IsS79.apart (show IsS79 w0 _ g s0_0 t113 t114 from zis) (by (with_reducible repeat (first | apply Kd.R_alloc | apply Kd.R_drewN | apply Kd.R_drew)); exact HO104.out) (by decide)) hk (fun _ h => h.2)) (fun _ h => h.1)); replace HO111 := Aside0.mk (Kd.R_mono (Kd.R_keep (IsS79.apart (show IsS79 w0 _ g s0_0 t113 t114 from zis) (by (with_reducible repeat (first | apply Kd.R_alloc | apply Kd.R_drewN | apply Kd.R_drew)); exact HO111.out) (by decide)) hk (fun _ h => h.2)) (fun _ h => h.1)); replace BK116 := bkk_ BK116 hk NB116_0; replace HK := Aside0.mk (KeepBut.trans zkk hk (.inl rfl)); replace HI0 := Aside0.mk (hi); replace HB := Aside0.mk (hb); (try clear hb); (try clear hb2); (try clear hk); (try clear hi)) | ((with_reducible refine gate_callee (f := 64) rfl ?_); refine goesL_ (some 18) rfl rfl Tryd.func64 (by kernel_rfl) rfl #[.pointer (some ⟨g, 0, none⟩), .int .i64 2] rfl mc ?_; (with_reducible refine (spec_l1Below.calls g s0_0 t118 t119 2 t120 t121 t122 w0 _ ?side1 ?side2 A10.out).mono ?_); (case side1 => exact zis); (case side2 => exact zbh); rintro e w63 ⟨rfl, hi, hb, hk⟩; refine ⟨_, rfl, ?_⟩; replace BK101 := bkk_ BK101 hk NB101_0; replace HO104 := Aside0.mk (Kd.R_mono (Kd.R_keep (IsS79.apart (show IsS79 w0 _ g s0_0 t118 t119 from zis) (by (with_reducible repeat (first | apply Kd.R_alloc | apply Kd.R_drewN | apply Kd.R_drew)); exact HO104.out) (by decide)) hk (fun _ h => h.2)) (fun _ h => h.1)); replace HO111 := Aside0.mk (Kd.R_mono (Kd.R_keep (IsS79.apart (show IsS79 w0 _ g s0_0 t118 t119 from zis) (by (with_reducible repeat (first | apply Kd.R_alloc | apply Kd.R_drewN | apply Kd.R_drew)); exact HO111.out) (by decide)) hk (fun _ h => h.2)) (fun _ h => h.1)); replace BK116 := bkk_ BK116 hk NB116_0; replace HK := Aside0.mk (KeepBut.trans zkk hk (.inl rfl)); replace HI0 := Aside0.mk (hi); replace HB := Aside0.mk (hb); (try clear hb); (try clear hb2); (try clear hk); (try clear hi)) | ((with_reducible refine gate_dst (N := 29) rfl ?_); refine Kd.R_lit Kd.string _ 9 ?hg (N := 29) ?hd (xs := ([(⟨#[32, 97]⟩ : ByteArray), (⟨#[97, 10]⟩ : ByteArray), (⟨#[97, 127]⟩ : ByteArray), (⟨#[97, 9]⟩ : ByteArray)] : List ByteArray)) (inner := [.string (⟨#[32, 97]⟩ : ByteArray), .string (⟨#[97, 10]⟩ : ByteArray), .string (⟨#[97, 127]⟩ : ByteArray), .string (⟨#[97, 9]⟩ : ByteArray)]) (ok := fun _ => True) (okp := fun _ => True) ?hr ?hp (fun _ hk => hk) trivial (Below.refl _ _) (Nat.le_refl _) (by simp) ?_; (case hd => rfl); (case hg => rfl); (case hr => first | (go_simp; done) | (go_simp; rfl)); (case hp => exact (Reps.one (show Kd.M Kd.string _ _ _ (⟨#[32, 97]⟩ : ByteArray) [.string (⟨#[32, 97]⟩ : ByteArray)] from rfl) (Reps.one (show Kd.M Kd.string _ _ _ (⟨#[97, 10]⟩ : ByteArray) [.string (⟨#[97, 10]⟩ : ByteArray)] from rfl) (Reps.one (show Kd.M Kd.string _ _ _ (⟨#[97, 127]⟩ : ByteArray) [.string (⟨#[97, 127]⟩ : ByteArray)] from rfl) (Reps.one (show Kd.M Kd.string _ _ _ (⟨#[97, 9]⟩ : ByteArray) [.string (⟨#[97, 9]⟩ : ByteArray)] from rfl) (Reps.none _ _)))))); intro v131 w64 ho65 hb hg_ hnew_; clear hg_ hnew_; (first | rw [← Ny130.out] at ho65 | (simp only [Int.reduceToNat] at ho65; rw [← Ny130.out] at ho65)); have HO132 := Aside0.mk (Kd.R_lower (Kd.R_new' (Kd.R_new' ho65 (Kd.R_lt (by (with_reducible repeat (first | apply Kd.R_alloc | apply Kd.R_drewN | apply Kd.R_drew)); exact HO104.out))) (Kd.R_lt (by (with_reducible repeat (first | apply Kd.R_alloc | apply Kd.R_drewN | apply Kd.R_drew)); exact HO111.out))) (keep_size (w := w) (g := g) (row := none) zkk)); replace HO104 := Aside0.mk (Kd.R_elder' (by (with_reducible repeat (first | apply Kd.R_alloc | apply Kd.R_drewN | apply Kd.R_drew)); exact HO104.out) (Kd.R_base ho65) hb); replace HO111 := Aside0.mk (Kd.R_elder' (by (with_reducible repeat (first | apply Kd.R_alloc | apply Kd.R_drewN | apply Kd.R_drew)); exact HO111.out) (Kd.R_base ho65) hb); replace BK101 := bkb_ BK101 hb; replace BK116 := bkb_ BK116 hb; replace HK := Aside0.mk (KeepBut.trans zkk (KeepBut.of_below hb g none) (.inl rfl)); replace HI0 := Aside0.mk (IsS79.below zis hb); replace HB := Aside0.mk (below_step zbh hb); clear hb ho65) | ((with_reducible refine gate_callee (f := 64) rfl ?_); refine goesL_ (some 31) rfl rfl Tryd.func64 (by kernel_rfl) rfl #[.pointer (some ⟨g, 0, none⟩), .int .i64 4] rfl mc ?_; (with_reducible refine (spec_l1Below.calls g s0_0 t121 t122 4 t133 t134 t135 w0 _ ?side1 ?side2 A43.out).mono ?_); (case side1 => exact zis); (case side2 => exact zbh); rintro e w66 ⟨rfl, hi, hb, hk⟩; refine ⟨_, rfl, ?_⟩; replace BK101 := bkk_ BK101 hk NB101_0; replace HO104 := Aside0.mk (Kd.R_mono (Kd.R_keep (IsS79.apart (show IsS79 w0 _ g s0_0 t121 t122 from zis) (by (with_reducible repeat (first | apply Kd.R_alloc | apply Kd.R_drewN | apply Kd.R_drew)); exact HO104.out) (by decide)) hk (fun _ h => h.2)) (fun _ h => h.1)); replace HO111 := Aside0.mk (Kd.R_mono (Kd.R_keep (IsS79.apart (show IsS79 w0 _ g s0_0 t121 t122 from zis) (by (with_reducible repeat (first | apply Kd.R_alloc | apply Kd.R_drewN | apply Kd.R_drew)); exact HO111.out) (by decide)) hk (fun _ h => h.2)) (fun _ h => h.1)); replace BK116 := bkk_ BK116 hk NB116_0; replace HO132 := Aside0.mk (Kd.R_mono (Kd.R_keep (IsS79.apart (show IsS79 w0 _ g s0_0 t121 t122 from zis) (by (with_reducible repeat (first | apply Kd.R_alloc | apply Kd.R_drewN | apply Kd.R_drew)); exact HO132.out) (by decide)) hk (fun _ h => h.2)) (fun _ h => h.1)); replace HK := Aside0.mk (KeepBut.trans zkk hk (.inl rfl)); replace HI0 := Aside0.mk (hi); replace HB := Aside0.mk (hb); (try clear hb); (try clear hb2); (try clear hk); (try clear hi); obtain ⟨Ao67, co67, eo67⟩ := Kd.R_slice HO132.out; subst eo67; have p136 : 0 ≤ (t133 : Int) := of_decide_eq_true (by first | (with_reducible assumption) | assumption); have q136 : t133 < (y130.length : Int) := of_decide_eq_true (by first | (with_reducible assumption) | assumption); obtain ⟨ad136, e136, hx136_0⟩ := Kd.at_string (Kd.R_reads' HO132.out).2.2 t133 p136 q136; cases e136; replace p136 := eq_true p136; replace q136 := eq_true q136; have hnb68 := NB116_101.out; have hnc68 := NB101_116.out; have hnb69 := NB116_0.out; have hnc69 := NB0_116.out; obtain ⟨hcz70_0, hcz70_1⟩ := zcf2 BK116; obtain ⟨hfz70_0, hfz70_1⟩ := zff2 BK116; have hnb71 := NB101_0.out; have hnc71 := NB0_101.out; obtain ⟨hcz72_0, hcz72_1⟩ := zcf2 BK101; obtain ⟨hfz72_0, hfz72_1⟩ := zff2 BK101))
          refine bodyPost_ret (results_cell_row rfl _ _ gb101 43 #[.string (rdOf ByteArray.empty y102 t105), .string (rdOf ByteArray.empty y130 t133)] (0, 0) _ rfl bkp Tryd.underlying43 rfl (by kernel_rfl)) rfl ?_
          exact ⟨er, zis, zbh, zkk⟩
         ·
          rw [if_neg c45] at H
          exact absurd H (by simp)
        ·
         rw [if_neg c44] at H
         exact absurd H (by simp)
       ·
        rw [if_neg c42] at H
        have c42b0 : (t120 == 1) = false := beq_eq_false_iff_ne.mpr c42
        have c42b1 : (t120 != 1) = true := bne_iff_ne.mpr c42
        simp only [Option.some.injEq, Prod.mk.injEq] at H
        obtain ⟨rfl, rfl, rfl, rfl⟩ := H
        go_enter Tryd.func65, Tryd.ntmps65
        try go_wp2_with (first | ((with_reducible refine gate_dst (N := 2) rfl ?_); refine bx 2 #[.string (⟨#[]⟩ : ByteArray), .string (⟨#[]⟩ : ByteArray)] 43 ?_; intro gb101 hg w73 hbox hb; have BK101 := Aside0.mk (hbox); have GW101 := Aside0.mk ((zsz hg : w.heap.size ≤ gb101)); have GE101 := Aside0.mk ((Nat.le_trans HW0.out (zsz hg : w.heap.size ≤ gb101) : w0.heap.size ≤ gb101)); have NB0_101 := Aside0.mk ((by rw [hg]; exact Nat.ne_of_lt (Nat.lt_of_lt_of_le HG0_.out (keep_size (w := w) (g := g) (row := none) zkk)) : g ≠ gb101)); have NB101_0 := Aside0.mk ((by rw [hg]; exact Nat.ne_of_gt (Nat.lt_of_lt_of_le HG0_.out (keep_size (w := w) (g := g) (row := none) zkk)) : gb101 ≠ g)); replace HK := Aside0.mk (KeepBut.trans zkk (KeepBut.of_below hb g none) (.inl rfl)); replace HI0 := Aside0.mk (IsS79.below zis hb); replace HB := Aside0.mk (below_step zbh hb); clear hb hbox hg))
        have pi108 : (0 ≤ (t105 : Int)) = True := eq_true (of_decide_eq_true (by first | (with_reducible assumption) | assumption))
        have qi108 : (t105 < (y102.length : Int)) = True := eq_true (of_decide_eq_true (by first | (with_reducible assumption) | assumption))
        have pi115 : (0 ≤ (t112 : Int)) = True := eq_true (of_decide_eq_true (by first | (with_reducible assumption) | assumption))
        have qi115 : (t112 < (y109.length : Int)) = True := eq_true (of_decide_eq_true (by first | (with_reducible assumption) | assumption))
        replace BK101 := Aside0.mk (blk_drew BK101.out)
        replace HK := Aside0.mk (keep_drew HK.out)
        replace HI0 := Aside0.mk (IsS79.drew HI0.out)
        replace HB := Aside0.mk (below_drew1 HB.out)
        refine start_ (n := 13) (S := fun w' => True) (ds := []) spec_l4DrawField.d0 (by kernel_rfl) rfl rfl trivial (fun hHeld => ?_); refine with_tabW spec_l4DrawField.tab1 spec_l4DrawField.bits1 (fun HT_ HW_ => ?_)
        generalize w73.drew = w74 at BK101 HI0 HK HB hHeld ⊢
        refine pu 1 5 spec_l4DrawField.d1 HT_ ?_
        refine pu 6 10 spec_l4DrawField.d2 HT_ ?_
        refine inv_at [0, 2, 3, 4, 5, 7, 8, 9, 10, 11, 12] (fun a0_ b a w' => ∃ (v103 : Value) (adz_v103 : Addr) (v110 : Value) (adz_v110 : Addr) (gb116 : Nat) (m3_ : Value) (m8_ : Value) (m11_ : Value), a = putSel a0_ b [(0, 4, v103), (2, 6, .int .i64 t105), (3, 7, m3_), (4, 8, .string (rdOf ByteArray.empty y102 t105)), (5, 9, v110), (7, 11, .int .i64 t112), (8, 12, m8_), (9, 13, .string (rdOf ByteArray.empty y109 t112)), (10, 14, .agg #[.string (rdOf ByteArray.empty y102 t105), .string (rdOf ByteArray.empty y109 t112)]), (11, 3, m11_)] ∧ (w'.heap[gb101]? = some (.cells #[.string (⟨#[]⟩ : ByteArray), .string (⟨#[]⟩ : ByteArray)] 43 (0, 0))) ∧ (b 2 = false → IsS79 w0 w' g s0_0 s0_1 s0_2) ∧ (KeepBut w w' g none) ∧ (Below w0.heap.size w0 w') ∧ (b 0 = true → Kd.R Kd.string 9 w' w.heap.size (fun _ => True) v103 y102) ∧ (b 0 = true → ∃ c_, (v103 : Value) = .slice (some adz_v103) y102.length c_) ∧ (b 2 = true → b 7 = false → IsS79 w0 w' g s0_0 t106 t107) ∧ (b 5 = true → Kd.R Kd.string 9 w' w.heap.size (fun _ => True) v110 y109) ∧ (b 5 = true → ∃ c_, (v110 : Value) = .slice (some adz_v110) y109.length c_) ∧ (b 7 = true → IsS79 w0 w' g s0_0 t113 t114) ∧ (b 11 = true → b 12 = false → w'.heap[gb116]? = some (.cells #[.string (⟨#[]⟩ : ByteArray), .string (⟨#[]⟩ : ByteArray)] 43 (0, 0))) ∧ (b 11 = true → w.heap.size ≤ gb116) ∧ (b 11 = true → w0.heap.size ≤ gb116) ∧ (b 11 = true → g ≠ gb116) ∧ (b 11 = true → gb116 ≠ g) ∧ (b 11 = true → gb101 ≠ gb116) ∧ (b 11 = true → gb116 ≠ gb101) ∧ (b 12 = true → w'.heap[gb116]? = some (.cells #[.string (rdOf ByteArray.empty y102 t105), .string (rdOf ByteArray.empty y109 t112)] 43 (0, 0))) ∧ (b 3 = true → (m3_ : Value) = .pointer (some (adz_v103.add (t105).toNat))) ∧ (b 8 = true → (m8_ : Value) = .pointer (some (adz_v110.add (t112).toNat))) ∧ (b 11 = true → (m11_ : Value) = .pointer (some ⟨gb116, 0, none⟩))) HT_.out HW_.out (by kernel_rfl) (by kernel_rfl) ?_ ?_ ?_
        ·
         exact ⟨.bool false, ⟨0, 0, none⟩, .bool false, ⟨0, 0, none⟩, 0, .bool false, .bool false, .bool false, by simp only [putSel, Bool.false_eq_true, if_false], BK101.out, fun _ => HI0.out, HK.out, HB.out, fun h_ => absurd h_ (by decide), fun h_ => absurd h_ (by decide), fun h_ => absurd h_ (by decide), fun h_ => absurd h_ (by decide), fun h_ => absurd h_ (by decide), fun h_ => absurd h_ (by decide), fun h_ => absurd h_ (by decide), fun h_ => absurd h_ (by decide), fun h_ => absurd h_ (by decide), fun h_ => absurd h_ (by decide), fun h_ => absurd h_ (by decide), fun h_ => absurd h_ (by decide), fun h_ => absurd h_ (by decide), fun h_ => absurd h_ (by decide), fun h_ => absurd h_ (by decide), fun h_ => absurd h_ (by decide), fun h_ => absurd h_ (by decide)⟩
        ·
         skip
         clear BK101 HB HI0 HK
         refine steps_cons ?_ ?_
         ·
          rintro b a w' ⟨v103, adz_v103, v110, adz_v110, gb116, m3_, m8_, m11_, ha, Q_BK101, Q_HI0, Q_HK, Q_HB, Q_HO104, Q_HA_HO104, Q_HI0_e2, Q_HO111, Q_HA_HO111, Q_HI0_e7, Q_BK116, Q_GW116, Q_GE116, Q_NB0_116, Q_NB116_0, Q_NB101_116, Q_NB116_101, Q_BK116_e12, Q_X3_, Q_X8_, Q_X11_⟩ hb_ hon hoff
          refine ⟨_, rfl, fun K hK => ?_⟩
          replace ha := Aside0.mk ha
          have BK101 := Aside0.mk Q_BK101
          have HK := Aside0.mk Q_HK
          have HB := Aside0.mk Q_HB
          refine Kd.R_lit_step Kd.string _ 9 ?hg (N := 4) ?hd (xs := ([(⟨#[97]⟩ : ByteArray), (⟨#[65, 99, 99, 101, 112, 116]⟩ : ByteArray), (⟨#[97, 99, 99, 101, 112, 116]⟩ : ByteArray), (⟨#[120, 45, 98]⟩ : ByteArray), (⟨#[67, 111, 110, 110, 101, 99, 116, 105, 111, 110]⟩ : ByteArray), (⟨#[116, 101]⟩ : ByteArray), (⟨#[118, 97, 114, 121]⟩ : ByteArray)] : List ByteArray)) (inner := [.string (⟨#[97]⟩ : ByteArray), .string (⟨#[65, 99, 99, 101, 112, 116]⟩ : ByteArray), .string (⟨#[97, 99, 99, 101, 112, 116]⟩ : ByteArray), .string (⟨#[120, 45, 98]⟩ : ByteArray), .string (⟨#[67, 111, 110, 110, 101, 99, 116, 105, 111, 110]⟩ : ByteArray), .string (⟨#[116, 101]⟩ : ByteArray), .string (⟨#[118, 97, 114, 121]⟩ : ByteArray)]) (ok := fun _ => True) (okp := fun _ => True) ?hr ?hp (fun _ hk => hk) trivial (Below.refl _ _) (Nat.le_refl _) (by simp) ?_; (case hd => rfl); (case hg => rfl); (case hr => first | (go_simp; done) | (go_simp; rfl)); (case hp => exact (Reps.one (show Kd.M Kd.string _ _ _ (⟨#[97]⟩ : ByteArray) [.string (⟨#[97]⟩ : ByteArray)] from rfl) (Reps.one (show Kd.M Kd.string _ _ _ (⟨#[65, 99, 99, 101, 112, 116]⟩ : ByteArray) [.string (⟨#[65, 99, 99, 101, 112, 116]⟩ : ByteArray)] from rfl) (Reps.one (show Kd.M Kd.string _ _ _ (⟨#[97, 99, 99, 101, 112, 116]⟩ : ByteArray) [.string (⟨#[97, 99, 99, 101, 112, 116]⟩ : ByteArray)] from rfl) (Reps.one (show Kd.M Kd.string _ _ _ (⟨#[120, 45, 98]⟩ : ByteArray) [.string (⟨#[120, 45, 98]⟩ : ByteArray)] from rfl) (Reps.one (show Kd.M Kd.string _ _ _ (⟨#[67, 111, 110, 110, 101, 99, 116, 105, 111, 110]⟩ : ByteArray) [.string (⟨#[67, 111, 110, 110, 101, 99, 116, 105, 111, 110]⟩ : ByteArray)] from rfl) (Reps.one (show Kd.M Kd.string _ _ _ (⟨#[116, 101]⟩ : ByteArray) [.string (⟨#[116, 101]⟩ : ByteArray)] from rfl) (Reps.one (show Kd.M Kd.string _ _ _ (⟨#[118, 97, 114, 121]⟩ : ByteArray) [.string (⟨#[118, 97, 114, 121]⟩ : ByteArray)] from rfl) (Reps.none _ _)))))))))
          intro v103 w75 ho76 hb hg_ hnew_
          clear hg_ hnew_
          (first | rw [← Ny102.out] at ho76 | (simp only [Int.reduceToNat] at ho76; rw [← Ny102.out] at ho76))
          have n0_ := Aside0.mk (Kd.R_lower ho76 (keep_size (w := w) (g := g) (row := none) zkk))
          have n2_ := Aside0.mk (blk_below (g := gb101) (o := .cells #[.string (⟨#[]⟩ : ByteArray), .string (⟨#[]⟩ : ByteArray)] 43 (0, 0)) bk hb)
          have n3_ := Aside0.mk (KeepBut.trans zkk (KeepBut.of_below hb g none) (.inl rfl))
          have n4_ := Aside0.mk (below_step bh hb)
          have z_HI0 := fun (h0_ : b 2 = false) => (show IsS79 w0 w75 g s0_0 s0_1 s0_2 from by first | exact (IsS79.below (by repeat (first | (with_reducible first | exact (Q_HI0 h0_) | apply IsS79.alloc | apply IsS79.drewN | apply IsS79.drew | apply IsS79.set_1 | apply IsS79.set_2 | refine IsS79.far ?_ NB0_101.out _) | exact (Q_HI0 h0_))) hb))
          have z_HI0_e2 := fun (h0_ : b 2 = true) (h1_ : b 7 = false) => (show IsS79 w0 w75 g s0_0 t106 t107 from by first | exact (IsS79.below (by repeat (first | (with_reducible first | exact (Q_HI0_e2 h0_ h1_) | apply IsS79.alloc | apply IsS79.drewN | apply IsS79.drew | apply IsS79.set_1 | apply IsS79.set_2 | refine IsS79.far ?_ NB0_101.out _) | exact (Q_HI0_e2 h0_ h1_))) hb))
          have z_HO111 := fun (h0_ : b 5 = true) => (show Kd.R Kd.string 9 w75 w.heap.size (fun _ => True) v110 y109 from by first | exact (Kd.R_elder' (by (with_reducible repeat (first | apply Kd.R_alloc | apply Kd.R_drewN | apply Kd.R_drew)); exact (Q_HO111 h0_)) (Kd.R_base ho76) hb) | exact Kd.R_mono (Kd.R_elder' (by (with_reducible repeat (first | apply Kd.R_alloc | apply Kd.R_drewN | apply Kd.R_drew)); exact (Q_HO111 h0_)) (Kd.R_base ho76) hb) (fun _ h_ => by first | trivial | exact h_ | exact h_.1))
          have z_HI0_e7 := fun (h0_ : b 7 = true) => (show IsS79 w0 w75 g s0_0 t113 t114 from by first | exact (IsS79.below (by repeat (first | (with_reducible first | exact (Q_HI0_e7 h0_) | apply IsS79.alloc | apply IsS79.drewN | apply IsS79.drew | apply IsS79.set_1 | apply IsS79.set_2 | refine IsS79.far ?_ NB0_101.out _) | exact (Q_HI0_e7 h0_))) hb))
          have z_BK116 := fun (h0_ : b 11 = true) (h1_ : b 12 = false) => (show w75.heap[gb116]? = some (.cells #[.string (⟨#[]⟩ : ByteArray), .string (⟨#[]⟩ : ByteArray)] 43 (0, 0)) from by first | exact (blk_below (g := gb116) (o := .cells #[.string (⟨#[]⟩ : ByteArray), .string (⟨#[]⟩ : ByteArray)] 43 (0, 0)) (by (with_reducible repeat (first | refine blk_drewN ?_ _ | refine blk_drew ?_ | refine blk_alloc ?_ _)); exact (Q_BK116 h0_ h1_)) hb))
          clear BK101
          clear HK
          clear HB
          have HO104 := n0_
          have BK101 := n2_
          have HK := n3_
          have HB := n4_
          clear n0_ n2_ n3_ n4_
          clear hb ho76
          obtain ⟨Ao77, co77, eo77⟩ := Kd.R_slice HO104.out
          subst eo77
          obtain ⟨ado77, fo77, _⟩ := Kd.at_string (Kd.R_reads' HO104.out).2.2 0 (by decide) (by rw [Ny102.out]; simp)
          cases fo77
          refine hK.out _ _ ⟨.slice (some ado77) y102.length co77, ado77, v110, adz_v110, gb116, m3_, m8_, m11_, (by rw [ha.out]; exact putSel_upk 0 hb_ rfl rfl rfl), bk, z_HI0, zkk, bh, fun _ => (by (with_reducible repeat (first | apply Kd.R_alloc | apply Kd.R_drewN | apply Kd.R_drew)); exact HO104.out), fun _ => ⟨_, rfl⟩, z_HI0_e2, z_HO111, Q_HA_HO111, z_HI0_e7, z_BK116, Q_GW116, Q_GE116, Q_NB0_116, Q_NB116_0, Q_NB101_116, Q_NB116_101, fun h0_ => absurd ((hoff 12 (by kernel_rfl)).symm.trans h0_) (by decide), fun h0_ => absurd ((hoff 3 (by kernel_rfl)).symm.trans h0_) (by decide), Q_X8_, Q_X11_⟩
         refine steps_cons ?_ ?_
         ·
          rintro b a w' ⟨v103, adz_v103, v110, adz_v110, gb116, m3_, m8_, m11_, ha, Q_BK101, Q_HI0, Q_HK, Q_HB, Q_HO104, Q_HA_HO104, Q_HI0_e2, Q_HO111, Q_HA_HO111, Q_HI0_e7, Q_BK116, Q_GW116, Q_GE116, Q_NB0_116, Q_NB116_0, Q_NB101_116, Q_NB116_101, Q_BK116_e12, Q_X3_, Q_X8_, Q_X11_⟩ hb_ hon hoff
          refine ⟨_, rfl, fun K hK => ?_⟩
          have e5 : a.tmps[5]? = some (.pointer (some ⟨g, 0, none⟩)) := by rw [ha]; exact (putSel_off rfl).trans rfl
          replace ha := Aside0.mk ha
          have BK101 := Aside0.mk Q_BK101
          have HI0 := Aside0.mk (Q_HI0 hb_)
          have HK := Aside0.mk Q_HK
          have HB := Aside0.mk Q_HB
          refine goes_ Tryd.func64 (by kernel_rfl) rfl #[.pointer (some ⟨g, 0, none⟩), .int .i64 7] (by rfl) rfl rfl (by first | (simp only [List.map_toArray, List.map_cons, List.map_nil, Act.eval, Array.getD_eq_getD_getElem?, Option.getD_some, e5]; done) | (simp only [List.map_toArray, List.map_cons, List.map_nil, Act.eval, Array.getD_eq_getD_getElem?, Option.getD_some, e5]; rfl)) ?_
          with_reducible refine (spec_l1Below.calls g s0_0 s0_1 s0_2 7 t105 t106 t107 w0 _ ?side1 ?side2 A2.out).mono ?_
          (case side1 => exact zis)
          (case side2 => exact zbh)
          rintro e w75 ⟨rfl, hi, hb, hk⟩
          refine ⟨_, rfl, ?_⟩
          have n0_ := Aside0.mk (KeepBut.blk hk (g' := gb101) (o := .cells #[.string (⟨#[]⟩ : ByteArray), .string (⟨#[]⟩ : ByteArray)] 43 (0, 0)) bk NB101_0.out (by simp))
          have n1_ := Aside0.mk (KeepBut.trans zkk hk (.inl rfl))
          have n2_ := Aside0.mk (hb)
          have n3_ := Aside0.mk (hi)
          have z_HO104 := fun (h0_ : b 0 = true) => (show Kd.R Kd.string 9 w75 w.heap.size (fun _ => True) v103 y102 from by first | exact (Kd.R_mono (Kd.R_keep (IsS79.apart (show IsS79 w0 _ g s0_0 s0_1 s0_2 from zis) (by (with_reducible repeat (first | apply Kd.R_alloc | apply Kd.R_drewN | apply Kd.R_drew)); exact (Q_HO104 h0_)) (by decide)) hk (fun _ h => h.2)) (fun _ h => h.1)) | exact Kd.R_mono (Kd.R_mono (Kd.R_keep (IsS79.apart (show IsS79 w0 _ g s0_0 s0_1 s0_2 from zis) (by (with_reducible repeat (first | apply Kd.R_alloc | apply Kd.R_drewN | apply Kd.R_drew)); exact (Q_HO104 h0_)) (by decide)) hk (fun _ h => h.2)) (fun _ h => h.1)) (fun _ h_ => by first | trivial | exact h_ | exact h_.1))
          have z_HO111 := fun (h0_ : b 5 = true) => (show Kd.R Kd.string 9 w75 w.heap.size (fun _ => True) v110 y109 from by first | exact (Kd.R_mono (Kd.R_keep (IsS79.apart (show IsS79 w0 _ g s0_0 s0_1 s0_2 from zis) (by (with_reducible repeat (first | apply Kd.R_alloc | apply Kd.R_drewN | apply Kd.R_drew)); exact (Q_HO111 h0_)) (by decide)) hk (fun _ h => h.2)) (fun _ h => h.1)) | exact Kd.R_mono (Kd.R_mono (Kd.R_keep (IsS79.apart (show IsS79 w0 _ g s0_0 s0_1 s0_2 from zis) (by (with_reducible repeat (first | apply Kd.R_alloc | apply Kd.R_drewN | apply Kd.R_drew)); exact (Q_HO111 h0_)) (by decide)) hk (fun _ h => h.2)) (fun _ h => h.1)) (fun _ h_ => by first | trivial | exact h_ | exact h_.1))
          have z_BK116 := fun (h0_ : b 11 = true) (h1_ : b 12 = false) => (show w75.heap[gb116]? = some (.cells #[.string (⟨#[]⟩ : ByteArray), .string (⟨#[]⟩ : ByteArray)] 43 (0, 0)) from by first | exact (KeepBut.blk hk (g' := gb116) (o := .cells #[.string (⟨#[]⟩ : ByteArray), .string (⟨#[]⟩ : ByteArray)] 43 (0, 0)) (by (with_reducible repeat (first | refine blk_drewN ?_ _ | refine blk_drew ?_ | refine blk_alloc ?_ _)); exact (Q_BK116 h0_ h1_)) (Q_NB116_0 h0_) (by simp)))
          clear BK101
          clear HK
          clear HB
          clear HI0
          have BK101 := n0_
          have HK := n1_
          have HB := n2_
          have HI0 := n3_
          clear n0_ n1_ n2_ n3_
          (try clear hb)
          (try clear hb2)
          (try clear hk)
          (try clear hi)
          refine hK.out _ _ ⟨v103, adz_v103, v110, adz_v110, gb116, m3_, m8_, m11_, (by rw [ha.out]; exact putSel_upk 1 hb_ rfl rfl rfl), bk, fun h0_ => absurd ((up_self b 2).symm.trans h0_) (by decide), zkk, zbh, z_HO104, Q_HA_HO104, fun _ _ => zis, z_HO111, Q_HA_HO111, fun h0_ => absurd ((hoff 7 (by kernel_rfl)).symm.trans h0_) (by decide), z_BK116, Q_GW116, Q_GE116, Q_NB0_116, Q_NB116_0, Q_NB101_116, Q_NB116_101, fun h0_ => absurd ((hoff 12 (by kernel_rfl)).symm.trans h0_) (by decide), fun h0_ => absurd ((hoff 3 (by kernel_rfl)).symm.trans h0_) (by decide), fun h0_ => absurd ((hoff 8 (by kernel_rfl)).symm.trans h0_) (by decide), Q_X11_⟩
         refine steps_cons ?_ ?_
         ·
          rintro b a w' ⟨v103, adz_v103, v110, adz_v110, gb116, m3_, m8_, m11_, ha, Q_BK101, Q_HI0, Q_HK, Q_HB, Q_HO104, Q_HA_HO104, Q_HI0_e2, Q_HO111, Q_HA_HO111, Q_HI0_e7, Q_BK116, Q_GW116, Q_GE116, Q_NB0_116, Q_NB116_0, Q_NB101_116, Q_NB116_101, Q_BK116_e12, Q_X3_, Q_X8_, Q_X11_⟩ hb_ hon hoff
          refine ⟨_, rfl, fun K hK => ?_⟩
          have e4 : a.tmps[4]? = some (v103) := by rw [ha]; exact putSel_on (e := (0, 4, v103)) 0 rfl rfl (hon 0 (by kernel_rfl)) rfl
          have e6 : a.tmps[6]? = some (.int .i64 t105) := by rw [ha]; exact putSel_on (e := (2, 6, .int .i64 t105)) 1 rfl rfl (hon 2 (by kernel_rfl)) rfl
          replace ha := Aside0.mk ha
          have BK101 := Aside0.mk Q_BK101
          have HK := Aside0.mk Q_HK
          have HB := Aside0.mk Q_HB
          have HO104 := Aside0.mk (Q_HO104 (hon 0 (by kernel_rfl)))
          have HA_HO104 := Aside0.mk (Q_HA_HO104 (hon 0 (by kernel_rfl)))
          obtain ⟨c_, hv_⟩ := HA_HO104.out
          rw [hv_] at e4
          refine value_ (w1 := w') (v := .pointer (some (adz_v103.add (t105).toNat))) (by rfl) rfl ?_ ?_
          ·
           go_simp
           (try simp only [i64_w])
           try rfl
          refine hK.out _ _ ⟨v103, adz_v103, v110, adz_v110, gb116, (.pointer (some (adz_v103.add (t105).toNat))), m8_, m11_, (by rw [ha.out]; exact putSel_upk 2 hb_ rfl rfl rfl), Q_BK101, fun h0_ => absurd ((hon 2 (by kernel_rfl)).symm.trans h0_) (by decide), Q_HK, Q_HB, Q_HO104, Q_HA_HO104, Q_HI0_e2, Q_HO111, Q_HA_HO111, Q_HI0_e7, Q_BK116, Q_GW116, Q_GE116, Q_NB0_116, Q_NB116_0, Q_NB101_116, Q_NB116_101, fun h0_ => absurd ((hoff 12 (by kernel_rfl)).symm.trans h0_) (by decide), fun _ => rfl, Q_X8_, Q_X11_⟩
         refine steps_cons ?_ ?_
         ·
          rintro b a w' ⟨v103, adz_v103, v110, adz_v110, gb116, m3_, m8_, m11_, ha, Q_BK101, Q_HI0, Q_HK, Q_HB, Q_HO104, Q_HA_HO104, Q_HI0_e2, Q_HO111, Q_HA_HO111, Q_HI0_e7, Q_BK116, Q_GW116, Q_GE116, Q_NB0_116, Q_NB116_0, Q_NB101_116, Q_NB116_101, Q_BK116_e12, Q_X3_, Q_X8_, Q_X11_⟩ hb_ hon hoff
          refine ⟨_, rfl, fun K hK => ?_⟩
          have e7 : a.tmps[7]? = some (m3_) := by rw [ha]; exact putSel_on (e := (3, 7, m3_)) 2 rfl rfl (hon 3 (by kernel_rfl)) rfl
          rw [Q_X3_ (hon 3 (by kernel_rfl))] at e7
          replace ha := Aside0.mk ha
          have BK101 := Aside0.mk Q_BK101
          have HK := Aside0.mk Q_HK
          have HB := Aside0.mk Q_HB
          have HO104 := Aside0.mk (Q_HO104 (hon 0 (by kernel_rfl)))
          have HA_HO104 := Aside0.mk (Q_HA_HO104 (hon 0 (by kernel_rfl)))
          obtain ⟨c_, hv_⟩ := HA_HO104.out
          have hF_ := HO104.out
          rw [hv_] at hF_
          obtain ⟨ad_, ea_, hx_⟩ := Kd.at_string (Kd.R_reads' hF_).2.2 t105 (of_eq_true pi108) (of_eq_true qi108)
          cases ea_
          refine value_ (w1 := w') (v := .string (rdOf ByteArray.empty y102 t105)) (by rfl) rfl ?_ ?_
          ·
           go_simp
           (try simp only [i64_w])
           try rfl
          refine hK.out _ _ ⟨v103, adz_v103, v110, adz_v110, gb116, m3_, m8_, m11_, (by rw [ha.out]; exact putSel_upk 3 hb_ rfl rfl rfl), Q_BK101, fun h0_ => absurd ((hon 2 (by kernel_rfl)).symm.trans h0_) (by decide), Q_HK, Q_HB, Q_HO104, Q_HA_HO104, Q_HI0_e2, Q_HO111, Q_HA_HO111, Q_HI0_e7, Q_BK116, Q_GW116, Q_GE116, Q_NB0_116, Q_NB116_0, Q_NB101_116, Q_NB116_101, fun h0_ => absurd ((hoff 12 (by kernel_rfl)).symm.trans h0_) (by decide), Q_X3_, Q_X8_, Q_X11_⟩
         refine steps_cons ?_ ?_
         ·
          rintro b a w' ⟨v103, adz_v103, v110, adz_v110, gb116, m3_, m8_, m11_, ha, Q_BK101, Q_HI0, Q_HK, Q_HB, Q_HO104, Q_HA_HO104, Q_HI0_e2, Q_HO111, Q_HA_HO111, Q_HI0_e7, Q_BK116, Q_GW116, Q_GE116, Q_NB0_116, Q_NB116_0, Q_NB101_116, Q_NB116_101, Q_BK116_e12, Q_X3_, Q_X8_, Q_X11_⟩ hb_ hon hoff
          refine ⟨_, rfl, fun K hK => ?_⟩
          replace ha := Aside0.mk ha
          have BK101 := Aside0.mk Q_BK101
          have HK := Aside0.mk Q_HK
          have HB := Aside0.mk Q_HB
          refine Kd.R_lit_step Kd.string _ 9 ?hg (N := 9) ?hd (xs := ([(⟨#[49]⟩ : ByteArray), (⟨#[97, 44, 32, 98]⟩ : ByteArray), (⟨#[]⟩ : ByteArray), (⟨#[120, 45, 98]⟩ : ByteArray), (⟨#[113, 61, 34, 97, 44, 98, 34]⟩ : ByteArray), (⟨#[97]⟩ : ByteArray)] : List ByteArray)) (inner := [.string (⟨#[49]⟩ : ByteArray), .string (⟨#[97, 44, 32, 98]⟩ : ByteArray), .string (⟨#[]⟩ : ByteArray), .string (⟨#[120, 45, 98]⟩ : ByteArray), .string (⟨#[113, 61, 34, 97, 44, 98, 34]⟩ : ByteArray), .string (⟨#[97]⟩ : ByteArray)]) (ok := fun _ => True) (okp := fun _ => True) ?hr ?hp (fun _ hk => hk) trivial (Below.refl _ _) (Nat.le_refl _) (by simp) ?_; (case hd => rfl); (case hg => rfl); (case hr => first | (go_simp; done) | (go_simp; rfl)); (case hp => exact (Reps.one (show Kd.M Kd.string _ _ _ (⟨#[49]⟩ : ByteArray) [.string (⟨#[49]⟩ : ByteArray)] from rfl) (Reps.one (show Kd.M Kd.string _ _ _ (⟨#[97, 44, 32, 98]⟩ : ByteArray) [.string (⟨#[97, 44, 32, 98]⟩ : ByteArray)] from rfl) (Reps.one (show Kd.M Kd.string _ _ _ (⟨#[]⟩ : ByteArray) [.string (⟨#[]⟩ : ByteArray)] from rfl) (Reps.one (show Kd.M Kd.string _ _ _ (⟨#[120, 45, 98]⟩ : ByteArray) [.string (⟨#[120, 45, 98]⟩ : ByteArray)] from rfl) (Reps.one (show Kd.M Kd.string _ _ _ (⟨#[113, 61, 34, 97, 44, 98, 34]⟩ : ByteArray) [.string (⟨#[113, 61, 34, 97, 44, 98, 34]⟩ : ByteArray)] from rfl) (Reps.one (show Kd.M Kd.string _ _ _ (⟨#[97]⟩ : ByteArray) [.string (⟨#[97]⟩ : ByteArray)] from rfl) (Reps.none _ _))))))))
          intro v110 w75 ho76 hb hg_ hnew_
          clear hg_ hnew_
          (first | rw [← Ny109.out] at ho76 | (simp only [Int.reduceToNat] at ho76; rw [← Ny109.out] at ho76))
          have n0_ := Aside0.mk (Kd.R_lower ho76 (keep_size (w := w) (g := g) (row := none) zkk))
          have n2_ := Aside0.mk (blk_below (g := gb101) (o := .cells #[.string (⟨#[]⟩ : ByteArray), .string (⟨#[]⟩ : ByteArray)] 43 (0, 0)) bk hb)
          have n3_ := Aside0.mk (KeepBut.trans zkk (KeepBut.of_below hb g none) (.inl rfl))
          have n4_ := Aside0.mk (below_step bh hb)
          have z_HI0 := fun (h0_ : b 2 = false) => (show IsS79 w0 w75 g s0_0 s0_1 s0_2 from by first | exact (IsS79.below (by repeat (first | (with_reducible first | exact (Q_HI0 h0_) | apply IsS79.alloc | apply IsS79.drewN | apply IsS79.drew | apply IsS79.set_1 | apply IsS79.set_2 | refine IsS79.far ?_ NB0_101.out _) | exact (Q_HI0 h0_))) hb))
          have z_HO104 := fun (h0_ : b 0 = true) => (show Kd.R Kd.string 9 w75 w.heap.size (fun _ => True) v103 y102 from by first | exact (Kd.R_elder' (by (with_reducible repeat (first | apply Kd.R_alloc | apply Kd.R_drewN | apply Kd.R_drew)); exact (Q_HO104 h0_)) (Kd.R_base ho76) hb) | exact Kd.R_mono (Kd.R_elder' (by (with_reducible repeat (first | apply Kd.R_alloc | apply Kd.R_drewN | apply Kd.R_drew)); exact (Q_HO104 h0_)) (Kd.R_base ho76) hb) (fun _ h_ => by first | trivial | exact h_ | exact h_.1))
          have z_HI0_e2 := fun (h0_ : b 2 = true) (h1_ : b 7 = false) => (show IsS79 w0 w75 g s0_0 t106 t107 from by first | exact (IsS79.below (by repeat (first | (with_reducible first | exact (Q_HI0_e2 h0_ h1_) | apply IsS79.alloc | apply IsS79.drewN | apply IsS79.drew | apply IsS79.set_1 | apply IsS79.set_2 | refine IsS79.far ?_ NB0_101.out _) | exact (Q_HI0_e2 h0_ h1_))) hb))
          have z_HI0_e7 := fun (h0_ : b 7 = true) => (show IsS79 w0 w75 g s0_0 t113 t114 from by first | exact (IsS79.below (by repeat (first | (with_reducible first | exact (Q_HI0_e7 h0_) | apply IsS79.alloc | apply IsS79.drewN | apply IsS79.drew | apply IsS79.set_1 | apply IsS79.set_2 | refine IsS79.far ?_ NB0_101.out _) | exact (Q_HI0_e7 h0_))) hb))
          have z_BK116 := fun (h0_ : b 11 = true) (h1_ : b 12 = false) => (show w75.heap[gb116]? = some (.cells #[.string (⟨#[]⟩ : ByteArray), .string (⟨#[]⟩ : ByteArray)] 43 (0, 0)) from by first | exact (blk_below (g := gb116) (o := .cells #[.string (⟨#[]⟩ : ByteArray), .string (⟨#[]⟩ : ByteArray)] 43 (0, 0)) (by (with_reducible repeat (first | refine blk_drewN ?_ _ | refine blk_drew ?_ | refine blk_alloc ?_ _)); exact (Q_BK116 h0_ h1_)) hb))
          clear BK101
          clear HK
          clear HB
          have HO111 := n0_
          have BK101 := n2_
          have HK := n3_
          have HB := n4_
          clear n0_ n2_ n3_ n4_
          clear hb ho76
          obtain ⟨Ao77, co77, eo77⟩ := Kd.R_slice HO111.out
          subst eo77
          obtain ⟨ado77, fo77, _⟩ := Kd.at_string (Kd.R_reads' HO111.out).2.2 0 (by decide) (by rw [Ny109.out]; simp)
          cases fo77
          refine hK.out _ _ ⟨v103, adz_v103, .slice (some ado77) y109.length co77, ado77, gb116, m3_, m8_, m11_, (by rw [ha.out]; exact putSel_upk 4 hb_ rfl rfl rfl), bk, z_HI0, zkk, bh, z_HO104, Q_HA_HO104, z_HI0_e2, fun _ => (by (with_reducible repeat (first | apply Kd.R_alloc | apply Kd.R_drewN | apply Kd.R_drew)); exact HO111.out), fun _ => ⟨_, rfl⟩, z_HI0_e7, z_BK116, Q_GW116, Q_GE116, Q_NB0_116, Q_NB116_0, Q_NB101_116, Q_NB116_101, fun h0_ => absurd ((hoff 12 (by kernel_rfl)).symm.trans h0_) (by decide), Q_X3_, fun h0_ => absurd ((hoff 8 (by kernel_rfl)).symm.trans h0_) (by decide), Q_X11_⟩
         refine steps_cons ?_ ?_
         ·
          rintro b a w' ⟨v103, adz_v103, v110, adz_v110, gb116, m3_, m8_, m11_, ha, Q_BK101, Q_HI0, Q_HK, Q_HB, Q_HO104, Q_HA_HO104, Q_HI0_e2, Q_HO111, Q_HA_HO111, Q_HI0_e7, Q_BK116, Q_GW116, Q_GE116, Q_NB0_116, Q_NB116_0, Q_NB101_116, Q_NB116_101, Q_BK116_e12, Q_X3_, Q_X8_, Q_X11_⟩ hb_ hon hoff
          refine ⟨_, rfl, fun K hK => ?_⟩
          have e10 : a.tmps[10]? = some (.pointer (some ⟨g, 0, none⟩)) := by rw [ha]; exact (putSel_off rfl).trans rfl
          replace ha := Aside0.mk ha
          have BK101 := Aside0.mk Q_BK101
          have HK := Aside0.mk Q_HK
          have HB := Aside0.mk Q_HB
          have HI0 := Aside0.mk (Q_HI0_e2 (hon 2 (by kernel_rfl)) hb_)
          refine goes_ Tryd.func64 (by kernel_rfl) rfl #[.pointer (some ⟨g, 0, none⟩), .int .i64 6] (by rfl) rfl rfl (by first | (simp only [List.map_toArray, List.map_cons, List.map_nil, Act.eval, Array.getD_eq_getD_getElem?, Option.getD_some, e10]; done) | (simp only [List.map_toArray, List.map_cons, List.map_nil, Act.eval, Array.getD_eq_getD_getElem?, Option.getD_some, e10]; rfl)) ?_
          with_reducible refine (spec_l1Below.calls g s0_0 t106 t107 6 t112 t113 t114 w0 _ ?side1 ?side2 A5.out).mono ?_
          (case side1 => exact zis)
          (case side2 => exact zbh)
          rintro e w77 ⟨rfl, hi, hb, hk⟩
          refine ⟨_, rfl, ?_⟩
          have n0_ := Aside0.mk (KeepBut.blk hk (g' := gb101) (o := .cells #[.string (⟨#[]⟩ : ByteArray), .string (⟨#[]⟩ : ByteArray)] 43 (0, 0)) bk NB101_0.out (by simp))
          have n1_ := Aside0.mk (KeepBut.trans zkk hk (.inl rfl))
          have n2_ := Aside0.mk (hb)
          have n3_ := Aside0.mk (hi)
          have z_HO104 := fun (h0_ : b 0 = true) => (show Kd.R Kd.string 9 w77 w.heap.size (fun _ => True) v103 y102 from by first | exact (Kd.R_mono (Kd.R_keep (IsS79.apart (show IsS79 w0 _ g s0_0 t106 t107 from zis) (by (with_reducible repeat (first | apply Kd.R_alloc | apply Kd.R_drewN | apply Kd.R_drew)); exact (Q_HO104 h0_)) (by decide)) hk (fun _ h => h.2)) (fun _ h => h.1)) | exact Kd.R_mono (Kd.R_mono (Kd.R_keep (IsS79.apart (show IsS79 w0 _ g s0_0 t106 t107 from zis) (by (with_reducible repeat (first | apply Kd.R_alloc | apply Kd.R_drewN | apply Kd.R_drew)); exact (Q_HO104 h0_)) (by decide)) hk (fun _ h => h.2)) (fun _ h => h.1)) (fun _ h_ => by first | trivial | exact h_ | exact h_.1))
          have z_HO111 := fun (h0_ : b 5 = true) => (show Kd.R Kd.string 9 w77 w.heap.size (fun _ => True) v110 y109 from by first | exact (Kd.R_mono (Kd.R_keep (IsS79.apart (show IsS79 w0 _ g s0_0 t106 t107 from zis) (by (with_reducible repeat (first | apply Kd.R_alloc | apply Kd.R_drewN | apply Kd.R_drew)); exact (Q_HO111 h0_)) (by decide)) hk (fun _ h => h.2)) (fun _ h => h.1)) | exact Kd.R_mono (Kd.R_mono (Kd.R_keep (IsS79.apart (show IsS79 w0 _ g s0_0 t106 t107 from zis) (by (with_reducible repeat (first | apply Kd.R_alloc | apply Kd.R_drewN | apply Kd.R_drew)); exact (Q_HO111 h0_)) (by decide)) hk (fun _ h => h.2)) (fun _ h => h.1)) (fun _ h_ => by first | trivial | exact h_ | exact h_.1))
          have z_BK116 := fun (h0_ : b 11 = true) (h1_ : b 12 = false) => (show w77.heap[gb116]? = some (.cells #[.string (⟨#[]⟩ : ByteArray), .string (⟨#[]⟩ : ByteArray)] 43 (0, 0)) from by first | exact (KeepBut.blk hk (g' := gb116) (o := .cells #[.string (⟨#[]⟩ : ByteArray), .string (⟨#[]⟩ : ByteArray)] 43 (0, 0)) (by (with_reducible repeat (first | refine blk_drewN ?_ _ | refine blk_drew ?_ | refine blk_alloc ?_ _)); exact (Q_BK116 h0_ h1_)) (Q_NB116_0 h0_) (by simp)))
          clear BK101
          clear HK
          clear HB
          clear HI0
          have BK101 := n0_
          have HK := n1_
          have HB := n2_
          have HI0 := n3_
          clear n0_ n1_ n2_ n3_
          (try clear hb)
          (try clear hb2)
          (try clear hk)
          (try clear hi)
          refine hK.out _ _ ⟨v103, adz_v103, v110, adz_v110, gb116, m3_, m8_, m11_, (by rw [ha.out]; exact putSel_upk 5 hb_ rfl rfl rfl), bk, fun h0_ => absurd ((hon 2 (by kernel_rfl)).symm.trans h0_) (by decide), zkk, zbh, z_HO104, Q_HA_HO104, fun _ h1_ => absurd ((up_self b 7).symm.trans h1_) (by decide), z_HO111, Q_HA_HO111, fun _ => zis, z_BK116, Q_GW116, Q_GE116, Q_NB0_116, Q_NB116_0, Q_NB101_116, Q_NB116_101, fun h0_ => absurd ((hoff 12 (by kernel_rfl)).symm.trans h0_) (by decide), Q_X3_, fun h0_ => absurd ((hoff 8 (by kernel_rfl)).symm.trans h0_) (by decide), Q_X11_⟩
         refine steps_cons ?_ ?_
         ·
          rintro b a w' ⟨v103, adz_v103, v110, adz_v110, gb116, m3_, m8_, m11_, ha, Q_BK101, Q_HI0, Q_HK, Q_HB, Q_HO104, Q_HA_HO104, Q_HI0_e2, Q_HO111, Q_HA_HO111, Q_HI0_e7, Q_BK116, Q_GW116, Q_GE116, Q_NB0_116, Q_NB116_0, Q_NB101_116, Q_NB116_101, Q_BK116_e12, Q_X3_, Q_X8_, Q_X11_⟩ hb_ hon hoff
          refine ⟨_, rfl, fun K hK => ?_⟩
          have e9 : a.tmps[9]? = some (v110) := by rw [ha]; exact putSel_on (e := (5, 9, v110)) 4 rfl rfl (hon 5 (by kernel_rfl)) rfl
          have e11 : a.tmps[11]? = some (.int .i64 t112) := by rw [ha]; exact putSel_on (e := (7, 11, .int .i64 t112)) 5 rfl rfl (hon 7 (by kernel_rfl)) rfl
          replace ha := Aside0.mk ha
          have BK101 := Aside0.mk Q_BK101
          have HK := Aside0.mk Q_HK
          have HB := Aside0.mk Q_HB
          have HO111 := Aside0.mk (Q_HO111 (hon 5 (by kernel_rfl)))
          have HA_HO111 := Aside0.mk (Q_HA_HO111 (hon 5 (by kernel_rfl)))
          have HI0 := Aside0.mk (Q_HI0_e7 (hon 7 (by kernel_rfl)))
          obtain ⟨c_, hv_⟩ := HA_HO111.out
          rw [hv_] at e9
          refine value_ (w1 := w') (v := .pointer (some (adz_v110.add (t112).toNat))) (by rfl) rfl ?_ ?_
          ·
           go_simp
           (try simp only [i64_w])
           try rfl
          refine hK.out _ _ ⟨v103, adz_v103, v110, adz_v110, gb116, m3_, (.pointer (some (adz_v110.add (t112).toNat))), m11_, (by rw [ha.out]; exact putSel_upk 6 hb_ rfl rfl rfl), Q_BK101, fun h0_ => absurd ((hon 2 (by kernel_rfl)).symm.trans h0_) (by decide), Q_HK, Q_HB, Q_HO104, Q_HA_HO104, fun _ h1_ => absurd ((hon 7 (by kernel_rfl)).symm.trans h1_) (by decide), Q_HO111, Q_HA_HO111, Q_HI0_e7, Q_BK116, Q_GW116, Q_GE116, Q_NB0_116, Q_NB116_0, Q_NB101_116, Q_NB116_101, fun h0_ => absurd ((hoff 12 (by kernel_rfl)).symm.trans h0_) (by decide), Q_X3_, fun _ => rfl, Q_X11_⟩
         refine steps_cons ?_ ?_
         ·
          rintro b a w' ⟨v103, adz_v103, v110, adz_v110, gb116, m3_, m8_, m11_, ha, Q_BK101, Q_HI0, Q_HK, Q_HB, Q_HO104, Q_HA_HO104, Q_HI0_e2, Q_HO111, Q_HA_HO111, Q_HI0_e7, Q_BK116, Q_GW116, Q_GE116, Q_NB0_116, Q_NB116_0, Q_NB101_116, Q_NB116_101, Q_BK116_e12, Q_X3_, Q_X8_, Q_X11_⟩ hb_ hon hoff
          refine ⟨_, rfl, fun K hK => ?_⟩
          have e12 : a.tmps[12]? = some (m8_) := by rw [ha]; exact putSel_on (e := (8, 12, m8_)) 6 rfl rfl (hon 8 (by kernel_rfl)) rfl
          rw [Q_X8_ (hon 8 (by kernel_rfl))] at e12
          replace ha := Aside0.mk ha
          have BK101 := Aside0.mk Q_BK101
          have HK := Aside0.mk Q_HK
          have HB := Aside0.mk Q_HB
          have HO111 := Aside0.mk (Q_HO111 (hon 5 (by kernel_rfl)))
          have HA_HO111 := Aside0.mk (Q_HA_HO111 (hon 5 (by kernel_rfl)))
          have HI0 := Aside0.mk (Q_HI0_e7 (hon 7 (by kernel_rfl)))
          obtain ⟨c_, hv_⟩ := HA_HO111.out
          have hF_ := HO111.out
          rw [hv_] at hF_
          obtain ⟨ad_, ea_, hx_⟩ := Kd.at_string (Kd.R_reads' hF_).2.2 t112 (of_eq_true pi115) (of_eq_true qi115)
          cases ea_
          refine value_ (w1 := w') (v := .string (rdOf ByteArray.empty y109 t112)) (by rfl) rfl ?_ ?_
          ·
           go_simp
           (try simp only [i64_w])
           try rfl
          refine hK.out _ _ ⟨v103, adz_v103, v110, adz_v110, gb116, m3_, m8_, m11_, (by rw [ha.out]; exact putSel_upk 7 hb_ rfl rfl rfl), Q_BK101, fun h0_ => absurd ((hon 2 (by kernel_rfl)).symm.trans h0_) (by decide), Q_HK, Q_HB, Q_HO104, Q_HA_HO104, fun _ h1_ => absurd ((hon 7 (by kernel_rfl)).symm.trans h1_) (by decide), Q_HO111, Q_HA_HO111, Q_HI0_e7, Q_BK116, Q_GW116, Q_GE116, Q_NB0_116, Q_NB116_0, Q_NB101_116, Q_NB116_101, fun h0_ => absurd ((hoff 12 (by kernel_rfl)).symm.trans h0_) (by decide), Q_X3_, Q_X8_, Q_X11_⟩
         refine steps_cons ?_ ?_
         ·
          rintro b a w' ⟨v103, adz_v103, v110, adz_v110, gb116, m3_, m8_, m11_, ha, Q_BK101, Q_HI0, Q_HK, Q_HB, Q_HO104, Q_HA_HO104, Q_HI0_e2, Q_HO111, Q_HA_HO111, Q_HI0_e7, Q_BK116, Q_GW116, Q_GE116, Q_NB0_116, Q_NB116_0, Q_NB101_116, Q_NB116_101, Q_BK116_e12, Q_X3_, Q_X8_, Q_X11_⟩ hb_ hon hoff
          refine ⟨_, rfl, fun K hK => ?_⟩
          have e8 : a.tmps[8]? = some (.string (rdOf ByteArray.empty y102 t105)) := by rw [ha]; exact putSel_on (e := (4, 8, .string (rdOf ByteArray.empty y102 t105))) 3 rfl rfl (hon 4 (by kernel_rfl)) rfl
          have e13 : a.tmps[13]? = some (.string (rdOf ByteArray.empty y109 t112)) := by rw [ha]; exact putSel_on (e := (9, 13, .string (rdOf ByteArray.empty y109 t112))) 7 rfl rfl (hon 9 (by kernel_rfl)) rfl
          replace ha := Aside0.mk ha
          have BK101 := Aside0.mk Q_BK101
          have HK := Aside0.mk Q_HK
          have HB := Aside0.mk Q_HB
          have HO104 := Aside0.mk (Q_HO104 (hon 0 (by kernel_rfl)))
          have HA_HO104 := Aside0.mk (Q_HA_HO104 (hon 0 (by kernel_rfl)))
          have HO111 := Aside0.mk (Q_HO111 (hon 5 (by kernel_rfl)))
          have HA_HO111 := Aside0.mk (Q_HA_HO111 (hon 5 (by kernel_rfl)))
          have HI0 := Aside0.mk (Q_HI0_e7 (hon 7 (by kernel_rfl)))
          refine value_ (w1 := w') (v := .agg #[.string (rdOf ByteArray.empty y102 t105), .string (rdOf ByteArray.empty y109 t112)]) (by rfl) rfl ?_ ?_
          ·
           go_simp
           (try simp only [i64_w])
           try rfl
          refine hK.out _ _ ⟨v103, adz_v103, v110, adz_v110, gb116, m3_, m8_, m11_, (by rw [ha.out]; exact putSel_upk 8 hb_ rfl rfl rfl), Q_BK101, fun h0_ => absurd ((hon 2 (by kernel_rfl)).symm.trans h0_) (by decide), Q_HK, Q_HB, Q_HO104, Q_HA_HO104, fun _ h1_ => absurd ((hon 7 (by kernel_rfl)).symm.trans h1_) (by decide), Q_HO111, Q_HA_HO111, Q_HI0_e7, Q_BK116, Q_GW116, Q_GE116, Q_NB0_116, Q_NB116_0, Q_NB101_116, Q_NB116_101, fun h0_ => absurd ((hoff 12 (by kernel_rfl)).symm.trans h0_) (by decide), Q_X3_, Q_X8_, Q_X11_⟩
         refine steps_cons ?_ ?_
         ·
          rintro b a w' ⟨v103, adz_v103, v110, adz_v110, gb116, m3_, m8_, m11_, ha, Q_BK101, Q_HI0, Q_HK, Q_HB, Q_HO104, Q_HA_HO104, Q_HI0_e2, Q_HO111, Q_HA_HO111, Q_HI0_e7, Q_BK116, Q_GW116, Q_GE116, Q_NB0_116, Q_NB116_0, Q_NB101_116, Q_NB116_101, Q_BK116_e12, Q_X3_, Q_X8_, Q_X11_⟩ hb_ hon hoff
          refine ⟨_, rfl, fun K hK => ?_⟩
          replace ha := Aside0.mk ha
          have BK101 := Aside0.mk Q_BK101
          have HK := Aside0.mk Q_HK
          have HB := Aside0.mk Q_HB
          refine box_step ?hg (N := 3) ?hd (cs := #[.string (⟨#[]⟩ : ByteArray), .string (⟨#[]⟩ : ByteArray)]) (t := 43) ?hr ?_; (case hd => rfl); (case hg => rfl); (case hr => first | (go_simp; done) | (go_simp; rfl))
          intro gb116 hg w75 hbox hb
          have n1_ := Aside0.mk (blk_below (g := gb101) (o := .cells #[.string (⟨#[]⟩ : ByteArray), .string (⟨#[]⟩ : ByteArray)] 43 (0, 0)) bk hb)
          have n2_ := Aside0.mk (KeepBut.trans zkk (KeepBut.of_below hb g none) (.inl rfl))
          have n3_ := Aside0.mk (below_step bh hb)
          have n4_ := Aside0.mk (hbox)
          have n5_ := Aside0.mk ((zsz hg : w.heap.size ≤ gb116))
          have n6_ := Aside0.mk ((Nat.le_trans HW0.out (zsz hg : w.heap.size ≤ gb116) : w0.heap.size ≤ gb116))
          have n7_ := Aside0.mk ((nl hg bk : gb101 ≠ gb116))
          have n8_ := Aside0.mk ((ng hg bk : gb116 ≠ gb101))
          have n9_ := Aside0.mk ((by rw [hg]; exact Nat.ne_of_lt (Nat.lt_of_lt_of_le HG0_.out (keep_size (w := w) (g := g) (row := none) zkk)) : g ≠ gb116))
          have n10_ := Aside0.mk ((by rw [hg]; exact Nat.ne_of_gt (Nat.lt_of_lt_of_le HG0_.out (keep_size (w := w) (g := g) (row := none) zkk)) : gb116 ≠ g))
          have z_HI0 := fun (h0_ : b 2 = false) => (show IsS79 w0 w75 g s0_0 s0_1 s0_2 from by first | exact (IsS79.below (by repeat (first | (with_reducible first | exact (Q_HI0 h0_) | apply IsS79.alloc | apply IsS79.drewN | apply IsS79.drew | apply IsS79.set_1 | apply IsS79.set_2 | refine IsS79.far ?_ NB0_101.out _) | exact (Q_HI0 h0_))) hb))
          have z_HO104 := fun (h0_ : b 0 = true) => (show Kd.R Kd.string 9 w75 w.heap.size (fun _ => True) v103 y102 from by first | exact (Kd.R_below (by (with_reducible repeat (first | apply Kd.R_alloc | apply Kd.R_drewN | apply Kd.R_drew)); exact (Q_HO104 h0_)) hb) | exact Kd.R_mono (Kd.R_below (by (with_reducible repeat (first | apply Kd.R_alloc | apply Kd.R_drewN | apply Kd.R_drew)); exact (Q_HO104 h0_)) hb) (fun _ h_ => by first | trivial | exact h_ | exact h_.1))
          have z_HI0_e2 := fun (h0_ : b 2 = true) (h1_ : b 7 = false) => (show IsS79 w0 w75 g s0_0 t106 t107 from by first | exact (IsS79.below (by repeat (first | (with_reducible first | exact (Q_HI0_e2 h0_ h1_) | apply IsS79.alloc | apply IsS79.drewN | apply IsS79.drew | apply IsS79.set_1 | apply IsS79.set_2 | refine IsS79.far ?_ NB0_101.out _) | exact (Q_HI0_e2 h0_ h1_))) hb))
          have z_HO111 := fun (h0_ : b 5 = true) => (show Kd.R Kd.string 9 w75 w.heap.size (fun _ => True) v110 y109 from by first | exact (Kd.R_below (by (with_reducible repeat (first | apply Kd.R_alloc | apply Kd.R_drewN | apply Kd.R_drew)); exact (Q_HO111 h0_)) hb) | exact Kd.R_mono (Kd.R_below (by (with_reducible repeat (first | apply Kd.R_alloc | apply Kd.R_drewN | apply Kd.R_drew)); exact (Q_HO111 h0_)) hb) (fun _ h_ => by first | trivial | exact h_ | exact h_.1))
          have z_HI0_e7 := fun (h0_ : b 7 = true) => (show IsS79 w0 w75 g s0_0 t113 t114 from by first | exact (IsS79.below (by repeat (first | (with_reducible first | exact (Q_HI0_e7 h0_) | apply IsS79.alloc | apply IsS79.drewN | apply IsS79.drew | apply IsS79.set_1 | apply IsS79.set_2 | refine IsS79.far ?_ NB0_101.out _) | exact (Q_HI0_e7 h0_))) hb))
          clear BK101
          clear HK
          clear HB
          have BK101 := n1_
          have HK := n2_
          have HB := n3_
          have BK116 := n4_
          have GW116 := n5_
          have GE116 := n6_
          have NB101_116 := n7_
          have NB116_101 := n8_
          have NB0_116 := n9_
          have NB116_0 := n10_
          clear n1_ n2_ n3_ n4_ n5_ n6_ n7_ n8_ n9_ n10_
          clear hb hbox hg
          refine hK.out _ _ ⟨v103, adz_v103, v110, adz_v110, gb116, m3_, m8_, (.pointer (some ⟨gb116, 0, none⟩)), (by rw [ha.out]; exact putSel_upk 9 hb_ rfl rfl rfl), bk, z_HI0, zkk, bh, z_HO104, Q_HA_HO104, z_HI0_e2, z_HO111, Q_HA_HO111, z_HI0_e7, fun _ _ => bk, fun _ => GW116.out, fun _ => GE116.out, fun _ => NB0_116.out, fun _ => NB116_0.out, fun _ => NB101_116.out, fun _ => NB116_101.out, fun h0_ => absurd ((hoff 12 (by kernel_rfl)).symm.trans h0_) (by decide), Q_X3_, Q_X8_, fun _ => rfl⟩
         refine steps_cons ?_ ?_
         ·
          rintro b a w' ⟨v103, adz_v103, v110, adz_v110, gb116, m3_, m8_, m11_, ha, Q_BK101, Q_HI0, Q_HK, Q_HB, Q_HO104, Q_HA_HO104, Q_HI0_e2, Q_HO111, Q_HA_HO111, Q_HI0_e7, Q_BK116, Q_GW116, Q_GE116, Q_NB0_116, Q_NB116_0, Q_NB101_116, Q_NB116_101, Q_BK116_e12, Q_X3_, Q_X8_, Q_X11_⟩ hb_ hon hoff
          refine ⟨_, rfl, fun K hK => ?_⟩
          have e3 : a.tmps[3]? = some (m11_) := by rw [ha]; exact putSel_on (e := (11, 3, m11_)) 9 rfl rfl (hon 11 (by kernel_rfl)) rfl
          rw [Q_X11_ (hon 11 (by kernel_rfl))] at e3
          have e14 : a.tmps[14]? = some (.agg #[.string (rdOf ByteArray.empty y102 t105), .string (rdOf ByteArray.empty y109 t112)]) := by rw [ha]; exact putSel_on (e := (10, 14, .agg #[.string (rdOf ByteArray.empty y102 t105), .string (rdOf ByteArray.empty y109 t112)])) 8 rfl rfl (hon 10 (by kernel_rfl)) rfl
          replace ha := Aside0.mk ha
          have BK101 := Aside0.mk Q_BK101
          have HK := Aside0.mk Q_HK
          have HB := Aside0.mk Q_HB
          have HO104 := Aside0.mk (Q_HO104 (hon 0 (by kernel_rfl)))
          have HA_HO104 := Aside0.mk (Q_HA_HO104 (hon 0 (by kernel_rfl)))
          have HO111 := Aside0.mk (Q_HO111 (hon 5 (by kernel_rfl)))
          have HA_HO111 := Aside0.mk (Q_HA_HO111 (hon 5 (by kernel_rfl)))
          have HI0 := Aside0.mk (Q_HI0_e7 (hon 7 (by kernel_rfl)))
          have BK116 := Aside0.mk (Q_BK116 (hon 11 (by kernel_rfl)) hb_)
          have GW116 := Aside0.mk (Q_GW116 (hon 11 (by kernel_rfl)))
          have GE116 := Aside0.mk (Q_GE116 (hon 11 (by kernel_rfl)))
          have NB0_116 := Aside0.mk (Q_NB0_116 (hon 11 (by kernel_rfl)))
          have NB116_0 := Aside0.mk (Q_NB116_0 (hon 11 (by kernel_rfl)))
          have NB101_116 := Aside0.mk (Q_NB101_116 (hon 11 (by kernel_rfl)))
          have NB116_101 := Aside0.mk (Q_NB116_101 (hon 11 (by kernel_rfl)))
          obtain ⟨co85, eo85⟩ := HA_HO104.out
          clear HA_HO104
          subst eo85
          obtain ⟨co86, eo86⟩ := HA_HO111.out
          clear HA_HO111
          subst eo86
          have hs87 : w'.cell? ⟨gb116, 0, none⟩ = some (.string (⟨#[]⟩ : ByteArray)) := bc BK116 0
          have hfs87 := blk_frozen BK116.out 0
          have hns87_0 := NB101_116.out
          have hms87_0 := NB116_101.out
          have hs88 : w'.cell? ⟨gb116, 1, none⟩ = some (.string (⟨#[]⟩ : ByteArray)) := bc BK116 1
          have hfs88 := blk_frozen BK116.out 1
          have hns88_0 := NB101_116.out
          have hms88_0 := NB116_101.out
          refine skip_ (w1 := ?_) (by rfl) rfl ?_ ?_
          rotate_left
          ·
           go_simp
           rfl
          refine hK.out _ _ ⟨.slice (some adz_v103) y102.length co85, adz_v103, .slice (some adz_v110) y109.length co86, adz_v110, gb116, m3_, m8_, m11_, (by rw [ha.out]; exact putSel_none (v := undef) rfl), bkf, fun h0_ => absurd ((hon 2 (by kernel_rfl)).symm.trans h0_) (by decide), zkk, zbh, fun _ => (by (with_reducible repeat (first | apply Kd.R_alloc | apply Kd.R_drewN | apply Kd.R_drew)); exact Kd.R_mono (Kd.R_far (p := ⟨gb116, 1, none⟩) (Kd.R_far (p := ⟨gb116, 0, none⟩) (Kd.R_types HO104.out BK116.out (by decide)) (fun _ hk => hk.2) (.string (rdOf ByteArray.empty y102 t105))) (fun _ hk => hk.2) (.string (rdOf ByteArray.empty y109 t112))) (fun _ hk => hk.1)), fun _ => ⟨_, rfl⟩, fun _ h1_ => absurd ((hon 7 (by kernel_rfl)).symm.trans h1_) (by decide), fun _ => (by (with_reducible repeat (first | apply Kd.R_alloc | apply Kd.R_drewN | apply Kd.R_drew)); exact Kd.R_mono (Kd.R_far (p := ⟨gb116, 1, none⟩) (Kd.R_far (p := ⟨gb116, 0, none⟩) (Kd.R_types HO111.out BK116.out (by decide)) (fun _ hk => hk.2) (.string (rdOf ByteArray.empty y102 t105))) (fun _ hk => hk.2) (.string (rdOf ByteArray.empty y109 t112))) (fun _ hk => hk.1)), fun _ => ⟨_, rfl⟩, fun _ => zis, fun _ h1_ => absurd ((up_self b 12).symm.trans h1_) (by decide), fun _ => GW116.out, fun _ => GE116.out, fun _ => NB0_116.out, fun _ => NB116_0.out, fun _ => NB101_116.out, fun _ => NB116_101.out, fun _ => bkp, Q_X3_, Q_X8_, Q_X11_⟩
         exact steps_nil
        rintro b a w86 hall ⟨v103, adz_v103, v110, adz_v110, gb116, m3_, m8_, m11_, ha, Q_BK101, Q_HI0, Q_HK, Q_HB, Q_HO104, Q_HA_HO104, Q_HI0_e2, Q_HO111, Q_HA_HO111, Q_HI0_e7, Q_BK116, Q_GW116, Q_GE116, Q_NB0_116, Q_NB116_0, Q_NB101_116, Q_NB116_101, Q_BK116_e12, Q_X3_, Q_X8_, Q_X11_⟩
        clear BK101 HB HI0 HK
        have hb0_ := hall 0 (by kernel_rfl)
        have hb2_ := hall 2 (by kernel_rfl)
        have hb3_ := hall 3 (by kernel_rfl)
        have hb4_ := hall 4 (by kernel_rfl)
        have hb5_ := hall 5 (by kernel_rfl)
        have hb7_ := hall 7 (by kernel_rfl)
        have hb8_ := hall 8 (by kernel_rfl)
        have hb9_ := hall 9 (by kernel_rfl)
        have hb10_ := hall 10 (by kernel_rfl)
        have hb11_ := hall 11 (by kernel_rfl)
        have hb12_ := hall 12 (by kernel_rfl)
        subst ha
        obtain rfl := Q_X3_ hb3_
        obtain rfl := Q_X8_ hb8_
        obtain rfl := Q_X11_ hb11_
        simp only [putSel, hb0_, hb2_, hb3_, hb4_, hb5_, hb7_, hb8_, hb9_, hb10_, hb11_, hb12_, if_true, Act.put, List.setIfInBounds_toArray, List.set_cons_zero, List.set_cons_succ]
        have BK101 := Aside0.mk Q_BK101
        clear Q_BK101
        clear Q_HI0
        have HK := Aside0.mk Q_HK
        clear Q_HK
        have HB := Aside0.mk Q_HB
        clear Q_HB
        have HO104 := Aside0.mk (Q_HO104 hb0_)
        clear Q_HO104
        have HA_HO104 := Aside0.mk (Q_HA_HO104 hb0_)
        clear Q_HA_HO104
        clear Q_HI0_e2
        have HO111 := Aside0.mk (Q_HO111 hb5_)
        clear Q_HO111
        have HA_HO111 := Aside0.mk (Q_HA_HO111 hb5_)
        clear Q_HA_HO111
        have HI0 := Aside0.mk (Q_HI0_e7 hb7_)
        clear Q_HI0_e7
        clear Q_BK116
        have GW116 := Aside0.mk (Q_GW116 hb11_)
        clear Q_GW116
        have GE116 := Aside0.mk (Q_GE116 hb11_)
        clear Q_GE116
        have NB0_116 := Aside0.mk (Q_NB0_116 hb11_)
        clear Q_NB0_116
        have NB116_0 := Aside0.mk (Q_NB116_0 hb11_)
        clear Q_NB116_0
        have NB101_116 := Aside0.mk (Q_NB101_116 hb11_)
        clear Q_NB101_116
        have NB116_101 := Aside0.mk (Q_NB116_101 hb11_)
        clear Q_NB116_101
        have BK116 := Aside0.mk (Q_BK116_e12 hb12_)
        clear Q_BK116_e12
        clear hall hb0_ hb2_ hb3_ hb4_ hb5_ hb7_ hb8_ hb9_ hb10_ hb11_ hb12_
        obtain ⟨co87, eo87⟩ := HA_HO104.out
        clear HA_HO104
        subst eo87
        obtain ⟨co88, eo88⟩ := HA_HO111.out
        clear HA_HO111
        subst eo88
        try go_wp2_with (first | ((with_reducible refine gate_callee (f := 36) rfl ?_); refine goesL_ (some 16) rfl rfl Tryd.func36 (by kernel_rfl) rfl #[.pointer (some ⟨g, 0, none⟩), .int .i64 24] rfl mc ?_; (with_reducible refine (spec_l1Once.calls g s0_0 t113 t114 24 true t118 t119 w0 _ ?side1 ?side2 A8.out).mono ?_); (case side1 => exact zis); (case side2 => exact zbh); rintro e w89 ⟨rfl, hi, hb, hk⟩; refine ⟨_, rfl, ?_⟩; replace BK101 := bkk_ BK101 hk NB101_0; replace HO104 := Aside0.mk (Kd.R_mono (Kd.R_keep (IsS79.apart (show IsS79 w0 _ g s0_0 t113 t114 from zis) (by (with_reducible repeat (first | apply Kd.R_alloc | apply Kd.R_drewN | apply Kd.R_drew)); exact HO104.out) (by decide)) hk (fun _ h => h.2)) (fun _ h => h.1)); replace HO111 := Aside0.mk (Kd.R_mono (Kd.R_keep (IsS79.apart (show IsS79 w0 _ g s0_0 t113 t114 from zis) (by (with_reducible repeat (first | apply Kd.R_alloc | apply Kd.R_drewN | apply Kd.R_drew)); exact HO111.out) (by decide)) hk (fun _ h => h.2)) (fun _ h => h.1)); replace BK116 := bkk_ BK116 hk NB116_0; replace HK := Aside0.mk (KeepBut.trans zkk hk (.inl rfl)); replace HI0 := Aside0.mk (hi); replace HB := Aside0.mk (hb); (try clear hb); (try clear hb2); (try clear hk); (try clear hi)) | ((with_reducible refine gate_callee (f := 64) rfl ?_); refine goesL_ (some 18) rfl rfl Tryd.func64 (by kernel_rfl) rfl #[.pointer (some ⟨g, 0, none⟩), .int .i64 2] rfl mc ?_; (with_reducible refine (spec_l1Below.calls g s0_0 t118 t119 2 t120 t121 t122 w0 _ ?side1 ?side2 A10.out).mono ?_); (case side1 => exact zis); (case side2 => exact zbh); rintro e w90 ⟨rfl, hi, hb, hk⟩; refine ⟨_, rfl, ?_⟩; replace BK101 := bkk_ BK101 hk NB101_0; replace HO104 := Aside0.mk (Kd.R_mono (Kd.R_keep (IsS79.apart (show IsS79 w0 _ g s0_0 t118 t119 from zis) (by (with_reducible repeat (first | apply Kd.R_alloc | apply Kd.R_drewN | apply Kd.R_drew)); exact HO104.out) (by decide)) hk (fun _ h => h.2)) (fun _ h => h.1)); replace HO111 := Aside0.mk (Kd.R_mono (Kd.R_keep (IsS79.apart (show IsS79 w0 _ g s0_0 t118 t119 from zis) (by (with_reducible repeat (first | apply Kd.R_alloc | apply Kd.R_drewN | apply Kd.R_drew)); exact HO111.out) (by decide)) hk (fun _ h => h.2)) (fun _ h => h.1)); replace BK116 := bkk_ BK116 hk NB116_0; replace HK := Aside0.mk (KeepBut.trans zkk hk (.inl rfl)); replace HI0 := Aside0.mk (hi); replace HB := Aside0.mk (hb); (try clear hb); (try clear hb2); (try clear hk); (try clear hi); have hnb91 := NB116_101.out; have hnc91 := NB101_116.out; have hnb92 := NB116_0.out; have hnc92 := NB0_116.out; obtain ⟨hcz93_0, hcz93_1⟩ := zcf2 BK116; obtain ⟨hfz93_0, hfz93_1⟩ := zff2 BK116; have hnb94 := NB101_0.out; have hnc94 := NB0_101.out; obtain ⟨hcz95_0, hcz95_1⟩ := zcf2 BK101; obtain ⟨hfz95_0, hfz95_1⟩ := zff2 BK101))
        refine bodyPost_ret (results_cell_row rfl _ _ gb101 43 #[.string (rdOf ByteArray.empty y102 t105), .string (rdOf ByteArray.empty y109 t112)] (0, 0) _ rfl bkp Tryd.underlying43 rfl (by kernel_rfl)) rfl ?_
        exact ⟨er, zis, zbh, zkk⟩
     ·
      replace c9 := Bool.eq_false_iff.mpr c9
      subst c9
      rw [if_neg (show ¬ (false = true) by decide)] at H
      simp only [Option.some.injEq, Prod.mk.injEq] at H
      obtain ⟨rfl, rfl, rfl, rfl⟩ := H
      go_enter Tryd.func65, Tryd.ntmps65
      try go_wp2_with (first | ((with_reducible refine gate_dst (N := 2) rfl ?_); refine bx 2 #[.string (⟨#[]⟩ : ByteArray), .string (⟨#[]⟩ : ByteArray)] 43 ?_; intro gb101 hg w96 hbox hb; have BK101 := Aside0.mk (hbox); have GW101 := Aside0.mk ((zsz hg : w.heap.size ≤ gb101)); have GE101 := Aside0.mk ((Nat.le_trans HW0.out (zsz hg : w.heap.size ≤ gb101) : w0.heap.size ≤ gb101)); have NB0_101 := Aside0.mk ((by rw [hg]; exact Nat.ne_of_lt (Nat.lt_of_lt_of_le HG0_.out (keep_size (w := w) (g := g) (row := none) zkk)) : g ≠ gb101)); have NB101_0 := Aside0.mk ((by rw [hg]; exact Nat.ne_of_gt (Nat.lt_of_lt_of_le HG0_.out (keep_size (w := w) (g := g) (row := none) zkk)) : gb101 ≠ g)); replace HK := Aside0.mk (KeepBut.trans zkk (KeepBut.of_below hb g none) (.inl rfl)); replace HI0 := Aside0.mk (IsS79.below zis hb); replace HB := Aside0.mk (below_step zbh hb); clear hb hbox hg))
      have pi108 : (0 ≤ (t105 : Int)) = True := eq_true (of_decide_eq_true (by first | (with_reducible assumption) | assumption))
      have qi108 : (t105 < (y102.length : Int)) = True := eq_true (of_decide_eq_true (by first | (with_reducible assumption) | assumption))
      have pi115 : (0 ≤ (t112 : Int)) = True := eq_true (of_decide_eq_true (by first | (with_reducible assumption) | assumption))
      have qi115 : (t112 < (y109.length : Int)) = True := eq_true (of_decide_eq_true (by first | (with_reducible assumption) | assumption))
      replace BK101 := Aside0.mk (blk_drew BK101.out)
      replace HK := Aside0.mk (keep_drew HK.out)
      replace HI0 := Aside0.mk (IsS79.drew HI0.out)
      replace HB := Aside0.mk (below_drew1 HB.out)
      refine start_ (n := 13) (S := fun w' => True) (ds := []) spec_l4DrawField.d0 (by kernel_rfl) rfl rfl trivial (fun hHeld => ?_); refine with_tabW spec_l4DrawField.tab1 spec_l4DrawField.bits1 (fun HT_ HW_ => ?_)
      generalize w96.drew = w97 at BK101 HI0 HK HB hHeld ⊢
      refine pu 1 5 spec_l4DrawField.d1 HT_ ?_
      refine pu 6 10 spec_l4DrawField.d2 HT_ ?_
      refine inv_at [0, 2, 3, 4, 5, 7, 8, 9, 10, 11, 12] (fun a0_ b a w' => ∃ (v103 : Value) (adz_v103 : Addr) (v110 : Value) (adz_v110 : Addr) (gb116 : Nat) (m3_ : Value) (m8_ : Value) (m11_ : Value), a = putSel a0_ b [(0, 4, v103), (2, 6, .int .i64 t105), (3, 7, m3_), (4, 8, .string (rdOf ByteArray.empty y102 t105)), (5, 9, v110), (7, 11, .int .i64 t112), (8, 12, m8_), (9, 13, .string (rdOf ByteArray.empty y109 t112)), (10, 14, .agg #[.string (rdOf ByteArray.empty y102 t105), .string (rdOf ByteArray.empty y109 t112)]), (11, 3, m11_)] ∧ (w'.heap[gb101]? = some (.cells #[.string (⟨#[]⟩ : ByteArray), .string (⟨#[]⟩ : ByteArray)] 43 (0, 0))) ∧ (b 2 = false → IsS79 w0 w' g s0_0 s0_1 s0_2) ∧ (KeepBut w w' g none) ∧ (Below w0.heap.size w0 w') ∧ (b 0 = true → Kd.R Kd.string 9 w' w.heap.size (fun _ => True) v103 y102) ∧ (b 0 = true → ∃ c_, (v103 : Value) = .slice (some adz_v103) y102.length c_) ∧ (b 2 = true → b 7 = false → IsS79 w0 w' g s0_0 t106 t107) ∧ (b 5 = true → Kd.R Kd.string 9 w' w.heap.size (fun _ => True) v110 y109) ∧ (b 5 = true → ∃ c_, (v110 : Value) = .slice (some adz_v110) y109.length c_) ∧ (b 7 = true → IsS79 w0 w' g s0_0 t113 t114) ∧ (b 11 = true → b 12 = false → w'.heap[gb116]? = some (.cells #[.string (⟨#[]⟩ : ByteArray), .string (⟨#[]⟩ : ByteArray)] 43 (0, 0))) ∧ (b 11 = true → w.heap.size ≤ gb116) ∧ (b 11 = true → w0.heap.size ≤ gb116) ∧ (b 11 = true → g ≠ gb116) ∧ (b 11 = true → gb116 ≠ g) ∧ (b 11 = true → gb101 ≠ gb116) ∧ (b 11 = true → gb116 ≠ gb101) ∧ (b 12 = true → w'.heap[gb116]? = some (.cells #[.string (rdOf ByteArray.empty y102 t105), .string (rdOf ByteArray.empty y109 t112)] 43 (0, 0))) ∧ (b 3 = true → (m3_ : Value) = .pointer (some (adz_v103.add (t105).toNat))) ∧ (b 8 = true → (m8_ : Value) = .pointer (some (adz_v110.add (t112).toNat))) ∧ (b 11 = true → (m11_ : Value) = .pointer (some ⟨gb116, 0, none⟩))) HT_.out HW_.out (by kernel_rfl) (by kernel_rfl) ?_ ?_ ?_
      ·
       exact ⟨.bool false, ⟨0, 0, none⟩, .bool false, ⟨0, 0, none⟩, 0, .bool false, .bool false, .bool false, by simp only [putSel, Bool.false_eq_true, if_false], BK101.out, fun _ => HI0.out, HK.out, HB.out, fun h_ => absurd h_ (by decide), fun h_ => absurd h_ (by decide), fun h_ => absurd h_ (by decide), fun h_ => absurd h_ (by decide), fun h_ => absurd h_ (by decide), fun h_ => absurd h_ (by decide), fun h_ => absurd h_ (by decide), fun h_ => absurd h_ (by decide), fun h_ => absurd h_ (by decide), fun h_ => absurd h_ (by decide), fun h_ => absurd h_ (by decide), fun h_ => absurd h_ (by decide), fun h_ => absurd h_ (by decide), fun h_ => absurd h_ (by decide), fun h_ => absurd h_ (by decide), fun h_ => absurd h_ (by decide), fun h_ => absurd h_ (by decide)⟩
      ·
       skip
       clear BK101 HB HI0 HK
       refine steps_cons ?_ ?_
       ·
        rintro b a w' ⟨v103, adz_v103, v110, adz_v110, gb116, m3_, m8_, m11_, ha, Q_BK101, Q_HI0, Q_HK, Q_HB, Q_HO104, Q_HA_HO104, Q_HI0_e2, Q_HO111, Q_HA_HO111, Q_HI0_e7, Q_BK116, Q_GW116, Q_GE116, Q_NB0_116, Q_NB116_0, Q_NB101_116, Q_NB116_101, Q_BK116_e12, Q_X3_, Q_X8_, Q_X11_⟩ hb_ hon hoff
        refine ⟨_, rfl, fun K hK => ?_⟩
        replace ha := Aside0.mk ha
        have BK101 := Aside0.mk Q_BK101
        have HK := Aside0.mk Q_HK
        have HB := Aside0.mk Q_HB
        refine Kd.R_lit_step Kd.string _ 9 ?hg (N := 4) ?hd (xs := ([(⟨#[97]⟩ : ByteArray), (⟨#[65, 99, 99, 101, 112, 116]⟩ : ByteArray), (⟨#[97, 99, 99, 101, 112, 116]⟩ : ByteArray), (⟨#[120, 45, 98]⟩ : ByteArray), (⟨#[67, 111, 110, 110, 101, 99, 116, 105, 111, 110]⟩ : ByteArray), (⟨#[116, 101]⟩ : ByteArray), (⟨#[118, 97, 114, 121]⟩ : ByteArray)] : List ByteArray)) (inner := [.string (⟨#[97]⟩ : ByteArray), .string (⟨#[65, 99, 99, 101, 112, 116]⟩ : ByteArray), .string (⟨#[97, 99, 99, 101, 112, 116]⟩ : ByteArray), .string (⟨#[120, 45, 98]⟩ : ByteArray), .string (⟨#[67, 111, 110, 110, 101, 99, 116, 105, 111, 110]⟩ : ByteArray), .string (⟨#[116, 101]⟩ : ByteArray), .string (⟨#[118, 97, 114, 121]⟩ : ByteArray)]) (ok := fun _ => True) (okp := fun _ => True) ?hr ?hp (fun _ hk => hk) trivial (Below.refl _ _) (Nat.le_refl _) (by simp) ?_; (case hd => rfl); (case hg => rfl); (case hr => first | (go_simp; done) | (go_simp; rfl)); (case hp => exact (Reps.one (show Kd.M Kd.string _ _ _ (⟨#[97]⟩ : ByteArray) [.string (⟨#[97]⟩ : ByteArray)] from rfl) (Reps.one (show Kd.M Kd.string _ _ _ (⟨#[65, 99, 99, 101, 112, 116]⟩ : ByteArray) [.string (⟨#[65, 99, 99, 101, 112, 116]⟩ : ByteArray)] from rfl) (Reps.one (show Kd.M Kd.string _ _ _ (⟨#[97, 99, 99, 101, 112, 116]⟩ : ByteArray) [.string (⟨#[97, 99, 99, 101, 112, 116]⟩ : ByteArray)] from rfl) (Reps.one (show Kd.M Kd.string _ _ _ (⟨#[120, 45, 98]⟩ : ByteArray) [.string (⟨#[120, 45, 98]⟩ : ByteArray)] from rfl) (Reps.one (show Kd.M Kd.string _ _ _ (⟨#[67, 111, 110, 110, 101, 99, 116, 105, 111, 110]⟩ : ByteArray) [.string (⟨#[67, 111, 110, 110, 101, 99, 116, 105, 111, 110]⟩ : ByteArray)] from rfl) (Reps.one (show Kd.M Kd.string _ _ _ (⟨#[116, 101]⟩ : ByteArray) [.string (⟨#[116, 101]⟩ : ByteArray)] from rfl) (Reps.one (show Kd.M Kd.string _ _ _ (⟨#[118, 97, 114, 121]⟩ : ByteArray) [.string (⟨#[118, 97, 114, 121]⟩ : ByteArray)] from rfl) (Reps.none _ _)))))))))
        intro v103 w98 ho99 hb hg_ hnew_
        clear hg_ hnew_
        (first | rw [← Ny102.out] at ho99 | (simp only [Int.reduceToNat] at ho99; rw [← Ny102.out] at ho99))
        have n0_ := Aside0.mk (Kd.R_lower ho99 (keep_size (w := w) (g := g) (row := none) zkk))
        have n2_ := Aside0.mk (blk_below (g := gb101) (o := .cells #[.string (⟨#[]⟩ : ByteArray), .string (⟨#[]⟩ : ByteArray)] 43 (0, 0)) bk hb)
        have n3_ := Aside0.mk (KeepBut.trans zkk (KeepBut.of_below hb g none) (.inl rfl))
        have n4_ := Aside0.mk (below_step bh hb)
        have z_HI0 := fun (h0_ : b 2 = false) => (show IsS79 w0 w98 g s0_0 s0_1 s0_2 from by first | exact (IsS79.below (by repeat (first | (with_reducible first | exact (Q_HI0 h0_) | apply IsS79.alloc | apply IsS79.drewN | apply IsS79.drew | apply IsS79.set_1 | apply IsS79.set_2 | refine IsS79.far ?_ NB0_101.out _) | exact (Q_HI0 h0_))) hb))
        have z_HI0_e2 := fun (h0_ : b 2 = true) (h1_ : b 7 = false) => (show IsS79 w0 w98 g s0_0 t106 t107 from by first | exact (IsS79.below (by repeat (first | (with_reducible first | exact (Q_HI0_e2 h0_ h1_) | apply IsS79.alloc | apply IsS79.drewN | apply IsS79.drew | apply IsS79.set_1 | apply IsS79.set_2 | refine IsS79.far ?_ NB0_101.out _) | exact (Q_HI0_e2 h0_ h1_))) hb))
        have z_HO111 := fun (h0_ : b 5 = true) => (show Kd.R Kd.string 9 w98 w.heap.size (fun _ => True) v110 y109 from by first | exact (Kd.R_elder' (by (with_reducible repeat (first | apply Kd.R_alloc | apply Kd.R_drewN | apply Kd.R_drew)); exact (Q_HO111 h0_)) (Kd.R_base ho99) hb) | exact Kd.R_mono (Kd.R_elder' (by (with_reducible repeat (first | apply Kd.R_alloc | apply Kd.R_drewN | apply Kd.R_drew)); exact (Q_HO111 h0_)) (Kd.R_base ho99) hb) (fun _ h_ => by first | trivial | exact h_ | exact h_.1))
        have z_HI0_e7 := fun (h0_ : b 7 = true) => (show IsS79 w0 w98 g s0_0 t113 t114 from by first | exact (IsS79.below (by repeat (first | (with_reducible first | exact (Q_HI0_e7 h0_) | apply IsS79.alloc | apply IsS79.drewN | apply IsS79.drew | apply IsS79.set_1 | apply IsS79.set_2 | refine IsS79.far ?_ NB0_101.out _) | exact (Q_HI0_e7 h0_))) hb))
        have z_BK116 := fun (h0_ : b 11 = true) (h1_ : b 12 = false) => (show w98.heap[gb116]? = some (.cells #[.string (⟨#[]⟩ : ByteArray), .string (⟨#[]⟩ : ByteArray)] 43 (0, 0)) from by first | exact (blk_below (g := gb116) (o := .cells #[.string (⟨#[]⟩ : ByteArray), .string (⟨#[]⟩ : ByteArray)] 43 (0, 0)) (by (with_reducible repeat (first | refine blk_drewN ?_ _ | refine blk_drew ?_ | refine blk_alloc ?_ _)); exact (Q_BK116 h0_ h1_)) hb))
        clear BK101
        clear HK
        clear HB
        have HO104 := n0_
        have BK101 := n2_
        have HK := n3_
        have HB := n4_
        clear n0_ n2_ n3_ n4_
        clear hb ho99
        obtain ⟨Ao100, co100, eo100⟩ := Kd.R_slice HO104.out
        subst eo100
        obtain ⟨ado100, fo100, _⟩ := Kd.at_string (Kd.R_reads' HO104.out).2.2 0 (by decide) (by rw [Ny102.out]; simp)
        cases fo100
        refine hK.out _ _ ⟨.slice (some ado100) y102.length co100, ado100, v110, adz_v110, gb116, m3_, m8_, m11_, (by rw [ha.out]; exact putSel_upk 0 hb_ rfl rfl rfl), bk, z_HI0, zkk, bh, fun _ => (by (with_reducible repeat (first | apply Kd.R_alloc | apply Kd.R_drewN | apply Kd.R_drew)); exact HO104.out), fun _ => ⟨_, rfl⟩, z_HI0_e2, z_HO111, Q_HA_HO111, z_HI0_e7, z_BK116, Q_GW116, Q_GE116, Q_NB0_116, Q_NB116_0, Q_NB101_116, Q_NB116_101, fun h0_ => absurd ((hoff 12 (by kernel_rfl)).symm.trans h0_) (by decide), fun h0_ => absurd ((hoff 3 (by kernel_rfl)).symm.trans h0_) (by decide), Q_X8_, Q_X11_⟩
       refine steps_cons ?_ ?_
       ·
        rintro b a w' ⟨v103, adz_v103, v110, adz_v110, gb116, m3_, m8_, m11_, ha, Q_BK101, Q_HI0, Q_HK, Q_HB, Q_HO104, Q_HA_HO104, Q_HI0_e2, Q_HO111, Q_HA_HO111, Q_HI0_e7, Q_BK116, Q_GW116, Q_GE116, Q_NB0_116, Q_NB116_0, Q_NB101_116, Q_NB116_101, Q_BK116_e12, Q_X3_, Q_X8_, Q_X11_⟩ hb_ hon hoff
        refine ⟨_, rfl, fun K hK => ?_⟩
        have e5 : a.tmps[5]? = some (.pointer (some ⟨g, 0, none⟩)) := by rw [ha]; exact (putSel_off rfl).trans rfl
        replace ha := Aside0.mk ha
        have BK101 := Aside0.mk Q_BK101
        have HI0 := Aside0.mk (Q_HI0 hb_)
        have HK := Aside0.mk Q_HK
        have HB := Aside0.mk Q_HB
        refine goes_ Tryd.func64 (by kernel_rfl) rfl #[.pointer (some ⟨g, 0, none⟩), .int .i64 7] (by rfl) rfl rfl (by first | (simp only [List.map_toArray, List.map_cons, List.map_nil, Act.eval, Array.getD_eq_getD_getElem?, Option.getD_some, e5]; done) | (simp only [List.map_toArray, List.map_cons, List.map_nil, Act.eval, Array.getD_eq_getD_getElem?, Option.getD_some, e5]; rfl)) ?_
        with_reducible refine (spec_l1Below.calls g s0_0 s0_1 s0_2 7 t105 t106 t107 w0 _ ?side1 ?side2 A2.out).mono ?_
        (case side1 => exact zis)
        (case side2 => exact zbh)
        rintro e w98 ⟨rfl, hi, hb, hk⟩
        refine ⟨_, rfl, ?_⟩
        have n0_ := Aside0.mk (KeepBut.blk hk (g' := gb101) (o := .cells #[.string (⟨#[]⟩ : ByteArray), .string (⟨#[]⟩ : ByteArray)] 43 (0, 0)) bk NB101_0.out (by simp))
        have n1_ := Aside0.mk (KeepBut.trans zkk hk (.inl rfl))
        have n2_ := Aside0.mk (hb)
        have n3_ := Aside0.mk (hi)
        have z_HO104 := fun (h0_ : b 0 = true) => (show Kd.R Kd.string 9 w98 w.heap.size (fun _ => True) v103 y102 from by first | exact (Kd.R_mono (Kd.R_keep (IsS79.apart (show IsS79 w0 _ g s0_0 s0_1 s0_2 from zis) (by (with_reducible repeat (first | apply Kd.R_alloc | apply Kd.R_drewN | apply Kd.R_drew)); exact (Q_HO104 h0_)) (by decide)) hk (fun _ h => h.2)) (fun _ h => h.1)) | exact Kd.R_mono (Kd.R_mono (Kd.R_keep (IsS79.apart (show IsS79 w0 _ g s0_0 s0_1 s0_2 from zis) (by (with_reducible repeat (first | apply Kd.R_alloc | apply Kd.R_drewN | apply Kd.R_drew)); exact (Q_HO104 h0_)) (by decide)) hk (fun _ h => h.2)) (fun _ h => h.1)) (fun _ h_ => by first | trivial | exact h_ | exact h_.1))
        have z_HO111 := fun (h0_ : b 5 = true) => (show Kd.R Kd.string 9 w98 w.heap.size (fun _ => True) v110 y109 from by first | exact (Kd.R_mono (Kd.R_keep (IsS79.apart (show IsS79 w0 _ g s0_0 s0_1 s0_2 from zis) (by (with_reducible repeat (first | apply Kd.R_alloc | apply Kd.R_drewN | apply Kd.R_drew)); exact (Q_HO111 h0_)) (by decide)) hk (fun _ h => h.2)) (fun _ h => h.1)) | exact Kd.R_mono (Kd.R_mono (Kd.R_keep (IsS79.apart (show IsS79 w0 _ g s0_0 s0_1 s0_2 from zis) (by (with_reducible repeat (first | apply Kd.R_alloc | apply Kd.R_drewN | apply Kd.R_drew)); exact (Q_HO111 h0_)) (by decide)) hk (fun _ h => h.2)) (fun _ h => h.1)) (fun _ h_ => by first | trivial | exact h_ | exact h_.1))
        have z_BK116 := fun (h0_ : b 11 = true) (h1_ : b 12 = false) => (show w98.heap[gb116]? = some (.cells #[.string (⟨#[]⟩ : ByteArray), .string (⟨#[]⟩ : ByteArray)] 43 (0, 0)) from by first | exact (KeepBut.blk hk (g' := gb116) (o := .cells #[.string (⟨#[]⟩ : ByteArray), .string (⟨#[]⟩ : ByteArray)] 43 (0, 0)) (by (with_reducible repeat (first | refine blk_drewN ?_ _ | refine blk_drew ?_ | refine blk_alloc ?_ _)); exact (Q_BK116 h0_ h1_)) (Q_NB116_0 h0_) (by simp)))
        clear BK101
        clear HK
        clear HB
        clear HI0
        have BK101 := n0_
        have HK := n1_
        have HB := n2_
        have HI0 := n3_
        clear n0_ n1_ n2_ n3_
        (try clear hb)
        (try clear hb2)
        (try clear hk)
        (try clear hi)
        refine hK.out _ _ ⟨v103, adz_v103, v110, adz_v110, gb116, m3_, m8_, m11_, (by rw [ha.out]; exact putSel_upk 1 hb_ rfl rfl rfl), bk, fun h0_ => absurd ((up_self b 2).symm.trans h0_) (by decide), zkk, zbh, z_HO104, Q_HA_HO104, fun _ _ => zis, z_HO111, Q_HA_HO111, fun h0_ => absurd ((hoff 7 (by kernel_rfl)).symm.trans h0_) (by decide), z_BK116, Q_GW116, Q_GE116, Q_NB0_116, Q_NB116_0, Q_NB101_116, Q_NB116_101, fun h0_ => absurd ((hoff 12 (by kernel_rfl)).symm.trans h0_) (by decide), fun h0_ => absurd ((hoff 3 (by kernel_rfl)).symm.trans h0_) (by decide), fun h0_ => absurd ((hoff 8 (by kernel_rfl)).symm.trans h0_) (by decide), Q_X11_⟩
       refine steps_cons ?_ ?_
       ·
        rintro b a w' ⟨v103, adz_v103, v110, adz_v110, gb116, m3_, m8_, m11_, ha, Q_BK101, Q_HI0, Q_HK, Q_HB, Q_HO104, Q_HA_HO104, Q_HI0_e2, Q_HO111, Q_HA_HO111, Q_HI0_e7, Q_BK116, Q_GW116, Q_GE116, Q_NB0_116, Q_NB116_0, Q_NB101_116, Q_NB116_101, Q_BK116_e12, Q_X3_, Q_X8_, Q_X11_⟩ hb_ hon hoff
        refine ⟨_, rfl, fun K hK => ?_⟩
        have e4 : a.tmps[4]? = some (v103) := by rw [ha]; exact putSel_on (e := (0, 4, v103)) 0 rfl rfl (hon 0 (by kernel_rfl)) rfl
        have e6 : a.tmps[6]? = some (.int .i64 t105) := by rw [ha]; exact putSel_on (e := (2, 6, .int .i64 t105)) 1 rfl rfl (hon 2 (by kernel_rfl)) rfl
        replace ha := Aside0.mk ha
        have BK101 := Aside0.mk Q_BK101
        have HK := Aside0.mk Q_HK
        have HB := Aside0.mk Q_HB
        have HO104 := Aside0.mk (Q_HO104 (hon 0 (by kernel_rfl)))
        have HA_HO104 := Aside0.mk (Q_HA_HO104 (hon 0 (by kernel_rfl)))
        obtain ⟨c_, hv_⟩ := HA_HO104.out
        rw [hv_] at e4
        refine value_ (w1 := w') (v := .pointer (some (adz_v103.add (t105).toNat))) (by rfl) rfl ?_ ?_
        ·
         go_simp
         (try simp only [i64_w])
         try rfl
        refine hK.out _ _ ⟨v103, adz_v103, v110, adz_v110, gb116, (.pointer (some (adz_v103.add (t105).toNat))), m8_, m11_, (by rw [ha.out]; exact putSel_upk 2 hb_ rfl rfl rfl), Q_BK101, fun h0_ => absurd ((hon 2 (by kernel_rfl)).symm.trans h0_) (by decide), Q_HK, Q_HB, Q_HO104, Q_HA_HO104, Q_HI0_e2, Q_HO111, Q_HA_HO111, Q_HI0_e7, Q_BK116, Q_GW116, Q_GE116, Q_NB0_116, Q_NB116_0, Q_NB101_116, Q_NB116_101, fun h0_ => absurd ((hoff 12 (by kernel_rfl)).symm.trans h0_) (by decide), fun _ => rfl, Q_X8_, Q_X11_⟩
       refine steps_cons ?_ ?_
       ·
        rintro b a w' ⟨v103, adz_v103, v110, adz_v110, gb116, m3_, m8_, m11_, ha, Q_BK101, Q_HI0, Q_HK, Q_HB, Q_HO104, Q_HA_HO104, Q_HI0_e2, Q_HO111, Q_HA_HO111, Q_HI0_e7, Q_BK116, Q_GW116, Q_GE116, Q_NB0_116, Q_NB116_0, Q_NB101_116, Q_NB116_101, Q_BK116_e12, Q_X3_, Q_X8_, Q_X11_⟩ hb_ hon hoff
        refine ⟨_, rfl, fun K hK => ?_⟩
        have e7 : a.tmps[7]? = some (m3_) := by rw [ha]; exact putSel_on (e := (3, 7, m3_)) 2 rfl rfl (hon 3 (by kernel_rfl)) rfl
        rw [Q_X3_ (hon 3 (by kernel_rfl))] at e7
        replace ha := Aside0.mk ha
        have BK101 := Aside0.mk Q_BK101
        have HK := Aside0.mk Q_HK
        have HB := Aside0.mk Q_HB
        have HO104 := Aside0.mk (Q_HO104 (hon 0 (by kernel_rfl)))
        have HA_HO104 := Aside0.mk (Q_HA_HO104 (hon 0 (by kernel_rfl)))
        obtain ⟨c_, hv_⟩ := HA_HO104.out
        have hF_ := HO104.out
        rw [hv_] at hF_
        obtain ⟨ad_, ea_, hx_⟩ := Kd.at_string (Kd.R_reads' hF_).2.2 t105 (of_eq_true pi108) (of_eq_true qi108)
        cases ea_
        refine value_ (w1 := w') (v := .string (rdOf ByteArray.empty y102 t105)) (by rfl) rfl ?_ ?_
        ·
         go_simp
         (try simp only [i64_w])
         try rfl
        refine hK.out _ _ ⟨v103, adz_v103, v110, adz_v110, gb116, m3_, m8_, m11_, (by rw [ha.out]; exact putSel_upk 3 hb_ rfl rfl rfl), Q_BK101, fun h0_ => absurd ((hon 2 (by kernel_rfl)).symm.trans h0_) (by decide), Q_HK, Q_HB, Q_HO104, Q_HA_HO104, Q_HI0_e2, Q_HO111, Q_HA_HO111, Q_HI0_e7, Q_BK116, Q_GW116, Q_GE116, Q_NB0_116, Q_NB116_0, Q_NB101_116, Q_NB116_101, fun h0_ => absurd ((hoff 12 (by kernel_rfl)).symm.trans h0_) (by decide), Q_X3_, Q_X8_, Q_X11_⟩
       refine steps_cons ?_ ?_
       ·
        rintro b a w' ⟨v103, adz_v103, v110, adz_v110, gb116, m3_, m8_, m11_, ha, Q_BK101, Q_HI0, Q_HK, Q_HB, Q_HO104, Q_HA_HO104, Q_HI0_e2, Q_HO111, Q_HA_HO111, Q_HI0_e7, Q_BK116, Q_GW116, Q_GE116, Q_NB0_116, Q_NB116_0, Q_NB101_116, Q_NB116_101, Q_BK116_e12, Q_X3_, Q_X8_, Q_X11_⟩ hb_ hon hoff
        refine ⟨_, rfl, fun K hK => ?_⟩
        replace ha := Aside0.mk ha
        have BK101 := Aside0.mk Q_BK101
        have HK := Aside0.mk Q_HK
        have HB := Aside0.mk Q_HB
        refine Kd.R_lit_step Kd.string _ 9 ?hg (N := 9) ?hd (xs := ([(⟨#[49]⟩ : ByteArray), (⟨#[97, 44, 32, 98]⟩ : ByteArray), (⟨#[]⟩ : ByteArray), (⟨#[120, 45, 98]⟩ : ByteArray), (⟨#[113, 61, 34, 97, 44, 98, 34]⟩ : ByteArray), (⟨#[97]⟩ : ByteArray)] : List ByteArray)) (inner := [.string (⟨#[49]⟩ : ByteArray), .string (⟨#[97, 44, 32, 98]⟩ : ByteArray), .string (⟨#[]⟩ : ByteArray), .string (⟨#[120, 45, 98]⟩ : ByteArray), .string (⟨#[113, 61, 34, 97, 44, 98, 34]⟩ : ByteArray), .string (⟨#[97]⟩ : ByteArray)]) (ok := fun _ => True) (okp := fun _ => True) ?hr ?hp (fun _ hk => hk) trivial (Below.refl _ _) (Nat.le_refl _) (by simp) ?_; (case hd => rfl); (case hg => rfl); (case hr => first | (go_simp; done) | (go_simp; rfl)); (case hp => exact (Reps.one (show Kd.M Kd.string _ _ _ (⟨#[49]⟩ : ByteArray) [.string (⟨#[49]⟩ : ByteArray)] from rfl) (Reps.one (show Kd.M Kd.string _ _ _ (⟨#[97, 44, 32, 98]⟩ : ByteArray) [.string (⟨#[97, 44, 32, 98]⟩ : ByteArray)] from rfl) (Reps.one (show Kd.M Kd.string _ _ _ (⟨#[]⟩ : ByteArray) [.string (⟨#[]⟩ : ByteArray)] from rfl) (Reps.one (show Kd.M Kd.string _ _ _ (⟨#[120, 45, 98]⟩ : ByteArray) [.string (⟨#[120, 45, 98]⟩ : ByteArray)] from rfl) (Reps.one (show Kd.M Kd.string _ _ _ (⟨#[113, 61, 34, 97, 44, 98, 34]⟩ : ByteArray) [.string (⟨#[113, 61, 34, 97, 44, 98, 34]⟩ : ByteArray)] from rfl) (Reps.one (show Kd.M Kd.string _ _ _ (⟨#[97]⟩ : ByteArray) [.string (⟨#[97]⟩ : ByteArray)] from rfl) (Reps.none _ _))))))))
        intro v110 w98 ho99 hb hg_ hnew_
        clear hg_ hnew_
        (first | rw [← Ny109.out] at ho99 | (simp only [Int.reduceToNat] at ho99; rw [← Ny109.out] at ho99))
        have n0_ := Aside0.mk (Kd.R_lower ho99 (keep_size (w := w) (g := g) (row := none) zkk))
        have n2_ := Aside0.mk (blk_below (g := gb101) (o := .cells #[.string (⟨#[]⟩ : ByteArray), .string (⟨#[]⟩ : ByteArray)] 43 (0, 0)) bk hb)
        have n3_ := Aside0.mk (KeepBut.trans zkk (KeepBut.of_below hb g none) (.inl rfl))
        have n4_ := Aside0.mk (below_step bh hb)
        have z_HI0 := fun (h0_ : b 2 = false) => (show IsS79 w0 w98 g s0_0 s0_1 s0_2 from by first | exact (IsS79.below (by repeat (first | (with_reducible first | exact (Q_HI0 h0_) | apply IsS79.alloc | apply IsS79.drewN | apply IsS79.drew | apply IsS79.set_1 | apply IsS79.set_2 | refine IsS79.far ?_ NB0_101.out _) | exact (Q_HI0 h0_))) hb))
        have z_HO104 := fun (h0_ : b 0 = true) => (show Kd.R Kd.string 9 w98 w.heap.size (fun _ => True) v103 y102 from by first | exact (Kd.R_elder' (by (with_reducible repeat (first | apply Kd.R_alloc | apply Kd.R_drewN | apply Kd.R_drew)); exact (Q_HO104 h0_)) (Kd.R_base ho99) hb) | exact Kd.R_mono (Kd.R_elder' (by (with_reducible repeat (first | apply Kd.R_alloc | apply Kd.R_drewN | apply Kd.R_drew)); exact (Q_HO104 h0_)) (Kd.R_base ho99) hb) (fun _ h_ => by first | trivial | exact h_ | exact h_.1))
        have z_HI0_e2 := fun (h0_ : b 2 = true) (h1_ : b 7 = false) => (show IsS79 w0 w98 g s0_0 t106 t107 from by first | exact (IsS79.below (by repeat (first | (with_reducible first | exact (Q_HI0_e2 h0_ h1_) | apply IsS79.alloc | apply IsS79.drewN | apply IsS79.drew | apply IsS79.set_1 | apply IsS79.set_2 | refine IsS79.far ?_ NB0_101.out _) | exact (Q_HI0_e2 h0_ h1_))) hb))
        have z_HI0_e7 := fun (h0_ : b 7 = true) => (show IsS79 w0 w98 g s0_0 t113 t114 from by first | exact (IsS79.below (by repeat (first | (with_reducible first | exact (Q_HI0_e7 h0_) | apply IsS79.alloc | apply IsS79.drewN | apply IsS79.drew | apply IsS79.set_1 | apply IsS79.set_2 | refine IsS79.far ?_ NB0_101.out _) | exact (Q_HI0_e7 h0_))) hb))
        have z_BK116 := fun (h0_ : b 11 = true) (h1_ : b 12 = false) => (show w98.heap[gb116]? = some (.cells #[.string (⟨#[]⟩ : ByteArray), .string (⟨#[]⟩ : ByteArray)] 43 (0, 0)) from by first | exact (blk_below (g := gb116) (o := .cells #[.string (⟨#[]⟩ : ByteArray), .string (⟨#[]⟩ : ByteArray)] 43 (0, 0)) (by (with_reducible repeat (first | refine blk_drewN ?_ _ | refine blk_drew ?_ | refine blk_alloc ?_ _)); exact (Q_BK116 h0_ h1_)) hb))
        clear BK101
        clear HK
        clear HB
        have HO111 := n0_
        have BK101 := n2_
        have HK := n3_
        have HB := n4_
        clear n0_ n2_ n3_ n4_
        clear hb ho99
        obtain ⟨Ao100, co100, eo100⟩ := Kd.R_slice HO111.out
        subst eo100
        obtain ⟨ado100, fo100, _⟩ := Kd.at_string (Kd.R_reads' HO111.out).2.2 0 (by decide) (by rw [Ny109.out]; simp)
        cases fo100
        refine hK.out _ _ ⟨v103, adz_v103, .slice (some ado100) y109.length co100, ado100, gb116, m3_, m8_, m11_, (by rw [ha.out]; exact putSel_upk 4 hb_ rfl rfl rfl), bk, z_HI0, zkk, bh, z_HO104, Q_HA_HO104, z_HI0_e2, fun _ => (by (with_reducible repeat (first | apply Kd.R_alloc | apply Kd.R_drewN | apply Kd.R_drew)); exact HO111.out), fun _ => ⟨_, rfl⟩, z_HI0_e7, z_BK116, Q_GW116, Q_GE116, Q_NB0_116, Q_NB116_0, Q_NB101_116, Q_NB116_101, fun h0_ => absurd ((hoff 12 (by kernel_rfl)).symm.trans h0_) (by decide), Q_X3_, fun h0_ => absurd ((hoff 8 (by kernel_rfl)).symm.trans h0_) (by decide), Q_X11_⟩
       refine steps_cons ?_ ?_
       ·
        rintro b a w' ⟨v103, adz_v103, v110, adz_v110, gb116, m3_, m8_, m11_, ha, Q_BK101, Q_HI0, Q_HK, Q_HB, Q_HO104, Q_HA_HO104, Q_HI0_e2, Q_HO111, Q_HA_HO111, Q_HI0_e7, Q_BK116, Q_GW116, Q_GE116, Q_NB0_116, Q_NB116_0, Q_NB101_116, Q_NB116_101, Q_BK116_e12, Q_X3_, Q_X8_, Q_X11_⟩ hb_ hon hoff
        refine ⟨_, rfl, fun K hK => ?_⟩
        have e10 : a.tmps[10]? = some (.pointer (some ⟨g, 0, none⟩)) := by rw [ha]; exact (putSel_off rfl).trans rfl
        replace ha := Aside0.mk ha
        have BK101 := Aside0.mk Q_BK101
        have HK := Aside0.mk Q_HK
        have HB := Aside0.mk Q_HB
        have HI0 := Aside0.mk (Q_HI0_e2 (hon 2 (by kernel_rfl)) hb_)
        refine goes_ Tryd.func64 (by kernel_rfl) rfl #[.pointer (some ⟨g, 0, none⟩), .int .i64 6] (by rfl) rfl rfl (by first | (simp only [List.map_toArray, List.map_cons, List.map_nil, Act.eval, Array.getD_eq_getD_getElem?, Option.getD_some, e10]; done) | (simp only [List.map_toArray, List.map_cons, List.map_nil, Act.eval, Array.getD_eq_getD_getElem?, Option.getD_some, e10]; rfl)) ?_
        with_reducible refine (spec_l1Below.calls g s0_0 t106 t107 6 t112 t113 t114 w0 _ ?side1 ?side2 A5.out).mono ?_
        (case side1 => exact zis)
        (case side2 => exact zbh)
        rintro e w100 ⟨rfl, hi, hb, hk⟩
        refine ⟨_, rfl, ?_⟩
        have n0_ := Aside0.mk (KeepBut.blk hk (g' := gb101) (o := .cells #[.string (⟨#[]⟩ : ByteArray), .string (⟨#[]⟩ : ByteArray)] 43 (0, 0)) bk NB101_0.out (by simp))
        have n1_ := Aside0.mk (KeepBut.trans zkk hk (.inl rfl))
        have n2_ := Aside0.mk (hb)
        have n3_ := Aside0.mk (hi)
        have z_HO104 := fun (h0_ : b 0 = true) => (show Kd.R Kd.string 9 w100 w.heap.size (fun _ => True) v103 y102 from by first | exact (Kd.R_mono (Kd.R_keep (IsS79.apart (show IsS79 w0 _ g s0_0 t106 t107 from zis) (by (with_reducible repeat (first | apply Kd.R_alloc | apply Kd.R_drewN | apply Kd.R_drew)); exact (Q_HO104 h0_)) (by decide)) hk (fun _ h => h.2)) (fun _ h => h.1)) | exact Kd.R_mono (Kd.R_mono (Kd.R_keep (IsS79.apart (show IsS79 w0 _ g s0_0 t106 t107 from zis) (by (with_reducible repeat (first | apply Kd.R_alloc | apply Kd.R_drewN | apply Kd.R_drew)); exact (Q_HO104 h0_)) (by decide)) hk (fun _ h => h.2)) (fun _ h => h.1)) (fun _ h_ => by first | trivial | exact h_ | exact h_.1))
        have z_HO111 := fun (h0_ : b 5 = true) => (show Kd.R Kd.string 9 w100 w.heap.size (fun _ => True) v110 y109 from by first | exact (Kd.R_mono (Kd.R_keep (IsS79.apart (show IsS79 w0 _ g s0_0 t106 t107 from zis) (by (with_reducible repeat (first | apply Kd.R_alloc | apply Kd.R_drewN | apply Kd.R_drew)); exact (Q_HO111 h0_)) (by decide)) hk (fun _ h => h.2)) (fun _ h => h.1)) | exact Kd.R_mono (Kd.R_mono (Kd.R_keep (IsS79.apart (show IsS79 w0 _ g s0_0 t106 t107 from zis) (by (with_reducible repeat (first | apply Kd.R_alloc | apply Kd.R_drewN | apply Kd.R_drew)); exact (Q_HO111 h0_)) (by decide)) hk (fun _ h => h.2)) (fun _ h => h.1)) (fun _ h_ => by first | trivial | exact h_ | exact h_.1))
        have z_BK116 := fun (h0_ : b 11 = true) (h1_ : b 12 = false) => (show w100.heap[gb116]? = some (.cells #[.string (⟨#[]⟩ : ByteArray), .string (⟨#[]⟩ : ByteArray)] 43 (0, 0)) from by first | exact (KeepBut.blk hk (g' := gb116) (o := .cells #[.string (⟨#[]⟩ : ByteArray), .string (⟨#[]⟩ : ByteArray)] 43 (0, 0)) (by (with_reducible repeat (first | refine blk_drewN ?_ _ | refine blk_drew ?_ | refine blk_alloc ?_ _)); exact (Q_BK116 h0_ h1_)) (Q_NB116_0 h0_) (by simp)))
        clear BK101
        clear HK
        clear HB
        clear HI0
        have BK101 := n0_
        have HK := n1_
        have HB := n2_
        have HI0 := n3_
        clear n0_ n1_ n2_ n3_
        (try clear hb)
        (try clear hb2)
        (try clear hk)
        (try clear hi)
        refine hK.out _ _ ⟨v103, adz_v103, v110, adz_v110, gb116, m3_, m8_, m11_, (by rw [ha.out]; exact putSel_upk 5 hb_ rfl rfl rfl), bk, fun h0_ => absurd ((hon 2 (by kernel_rfl)).symm.trans h0_) (by decide), zkk, zbh, z_HO104, Q_HA_HO104, fun _ h1_ => absurd ((up_self b 7).symm.trans h1_) (by decide), z_HO111, Q_HA_HO111, fun _ => zis, z_BK116, Q_GW116, Q_GE116, Q_NB0_116, Q_NB116_0, Q_NB101_116, Q_NB116_101, fun h0_ => absurd ((hoff 12 (by kernel_rfl)).symm.trans h0_) (by decide), Q_X3_, fun h0_ => absurd ((hoff 8 (by kernel_rfl)).symm.trans h0_) (by decide), Q_X11_⟩
       refine steps_cons ?_ ?_
       ·
        rintro b a w' ⟨v103, adz_v103, v110, adz_v110, gb116, m3_, m8_, m11_, ha, Q_BK101, Q_HI0, Q_HK, Q_HB, Q_HO104, Q_HA_HO104, Q_HI0_e2, Q_HO111, Q_HA_HO111, Q_HI0_e7, Q_BK116, Q_GW116, Q_GE116, Q_NB0_116, Q_NB116_0, Q_NB101_116, Q_NB116_101, Q_BK116_e12, Q_X3_, Q_X8_, Q_X11_⟩ hb_ hon hoff
        refine ⟨_, rfl, fun K hK => ?_⟩
        have e9 : a.tmps[9]? = some (v110) := by rw [ha]; exact putSel_on (e := (5, 9, v110)) 4 rfl rfl (hon 5 (by kernel_rfl)) rfl
        have e11 : a.tmps[11]? = some (.int .i64 t112) := by rw [ha]; exact putSel_on (e := (7, 11, .int .i64 t112)) 5 rfl rfl (hon 7 (by kernel_rfl)) rfl
        replace ha := Aside0.mk ha
        have BK101 := Aside0.mk Q_BK101
        have HK := Aside0.mk Q_HK
        have HB := Aside0.mk Q_HB
        have HO111 := Aside0.mk (Q_HO111 (hon 5 (by kernel_rfl)))
        have HA_HO111 := Aside0.mk (Q_HA_HO111 (hon 5 (by kernel_rfl)))
        have HI0 := Aside0.mk (Q_HI0_e7 (hon 7 (by kernel_rfl)))
        obtain ⟨c_, hv_⟩ := HA_HO111.out
        rw [hv_] at e9
        refine value_ (w1 := w') (v := .pointer (some (adz_v110.add (t112).toNat))) (by rfl) rfl ?_ ?_
        ·
         go_simp
         (try simp only [i64_w])
         try rfl
        refine hK.out _ _ ⟨v103, adz_v103, v110, adz_v110, gb116, m3_, (.pointer (some (adz_v110.add (t112).toNat))), m11_, (by rw [ha.out]; exact putSel_upk 6 hb_ rfl rfl rfl), Q_BK101, fun h0_ => absurd ((hon 2 (by kernel_rfl)).symm.trans h0_) (by decide), Q_HK, Q_HB, Q_HO104, Q_HA_HO104, fun _ h1_ => absurd ((hon 7 (by kernel_rfl)).symm.trans h1_) (by decide), Q_HO111, Q_HA_HO111, Q_HI0_e7, Q_BK116, Q_GW116, Q_GE116, Q_NB0_116, Q_NB116_0, Q_NB101_116, Q_NB116_101, fun h0_ => absurd ((hoff 12 (by kernel_rfl)).symm.trans h0_) (by decide), Q_X3_, fun _ => rfl, Q_X11_⟩
       refine steps_cons ?_ ?_
       ·
        rintro b a w' ⟨v103, adz_v103, v110, adz_v110, gb116, m3_, m8_, m11_, ha, Q_BK101, Q_HI0, Q_HK, Q_HB, Q_HO104, Q_HA_HO104, Q_HI0_e2, Q_HO111, Q_HA_HO111, Q_HI0_e7, Q_BK116, Q_GW116, Q_GE116, Q_NB0_116, Q_NB116_0, Q_NB101_116, Q_NB116_101, Q_BK116_e12, Q_X3_, Q_X8_, Q_X11_⟩ hb_ hon hoff
        refine ⟨_, rfl, fun K hK => ?_⟩
        have e12 : a.tmps[12]? = some (m8_) := by rw [ha]; exact putSel_on (e := (8, 12, m8_)) 6 rfl rfl (hon 8 (by kernel_rfl)) rfl
        rw [Q_X8_ (hon 8 (by kernel_rfl))] at e12
        replace ha := Aside0.mk ha
        have BK101 := Aside0.mk Q_BK101
        have HK := Aside0.mk Q_HK
        have HB := Aside0.mk Q_HB
        have HO111 := Aside0.mk (Q_HO111 (hon 5 (by kernel_rfl)))
        have HA_HO111 := Aside0.mk (Q_HA_HO111 (hon 5 (by kernel_rfl)))
        have HI0 := Aside0.mk (Q_HI0_e7 (hon 7 (by kernel_rfl)))
        obtain ⟨c_, hv_⟩ := HA_HO111.out
        have hF_ := HO111.out
        rw [hv_] at hF_
        obtain ⟨ad_, ea_, hx_⟩ := Kd.at_string (Kd.R_reads' hF_).2.2 t112 (of_eq_true pi115) (of_eq_true qi115)
        cases ea_
        refine value_ (w1 := w') (v := .string (rdOf ByteArray.empty y109 t112)) (by rfl) rfl ?_ ?_
        ·
         go_simp
         (try simp only [i64_w])
         try rfl
        refine hK.out _ _ ⟨v103, adz_v103, v110, adz_v110, gb116, m3_, m8_, m11_, (by rw [ha.out]; exact putSel_upk 7 hb_ rfl rfl rfl), Q_BK101, fun h0_ => absurd ((hon 2 (by kernel_rfl)).symm.trans h0_) (by decide), Q_HK, Q_HB, Q_HO104, Q_HA_HO104, fun _ h1_ => absurd ((hon 7 (by kernel_rfl)).symm.trans h1_) (by decide), Q_HO111, Q_HA_HO111, Q_HI0_e7, Q_BK116, Q_GW116, Q_GE116, Q_NB0_116, Q_NB116_0, Q_NB101_116, Q_NB116_101, fun h0_ => absurd ((hoff 12 (by kernel_rfl)).symm.trans h0_) (by decide), Q_X3_, Q_X8_, Q_X11_⟩
       refine steps_cons ?_ ?_
       ·
        rintro b a w' ⟨v103, adz_v103, v110, adz_v110, gb116, m3_, m8_, m11_, ha, Q_BK101, Q_HI0, Q_HK, Q_HB, Q_HO104, Q_HA_HO104, Q_HI0_e2, Q_HO111, Q_HA_HO111, Q_HI0_e7, Q_BK116, Q_GW116, Q_GE116, Q_NB0_116, Q_NB116_0, Q_NB101_116, Q_NB116_101, Q_BK116_e12, Q_X3_, Q_X8_, Q_X11_⟩ hb_ hon hoff
        refine ⟨_, rfl, fun K hK => ?_⟩
        have e8 : a.tmps[8]? = some (.string (rdOf ByteArray.empty y102 t105)) := by rw [ha]; exact putSel_on (e := (4, 8, .string (rdOf ByteArray.empty y102 t105))) 3 rfl rfl (hon 4 (by kernel_rfl)) rfl
        have e13 : a.tmps[13]? = some (.string (rdOf ByteArray.empty y109 t112)) := by rw [ha]; exact putSel_on (e := (9, 13, .string (rdOf ByteArray.empty y109 t112))) 7 rfl rfl (hon 9 (by kernel_rfl)) rfl
        replace ha := Aside0.mk ha
        have BK101 := Aside0.mk Q_BK101
        have HK := Aside0.mk Q_HK
        have HB := Aside0.mk Q_HB
        have HO104 := Aside0.mk (Q_HO104 (hon 0 (by kernel_rfl)))
        have HA_HO104 := Aside0.mk (Q_HA_HO104 (hon 0 (by kernel_rfl)))
        have HO111 := Aside0.mk (Q_HO111 (hon 5 (by kernel_rfl)))
        have HA_HO111 := Aside0.mk (Q_HA_HO111 (hon 5 (by kernel_rfl)))
        have HI0 := Aside0.mk (Q_HI0_e7 (hon 7 (by kernel_rfl)))
        refine value_ (w1 := w') (v := .agg #[.string (rdOf ByteArray.empty y102 t105), .string (rdOf ByteArray.empty y109 t112)]) (by rfl) rfl ?_ ?_
        ·
         go_simp
         (try simp only [i64_w])
         try rfl
        refine hK.out _ _ ⟨v103, adz_v103, v110, adz_v110, gb116, m3_, m8_, m11_, (by rw [ha.out]; exact putSel_upk 8 hb_ rfl rfl rfl), Q_BK101, fun h0_ => absurd ((hon 2 (by kernel_rfl)).symm.trans h0_) (by decide), Q_HK, Q_HB, Q_HO104, Q_HA_HO104, fun _ h1_ => absurd ((hon 7 (by kernel_rfl)).symm.trans h1_) (by decide), Q_HO111, Q_HA_HO111, Q_HI0_e7, Q_BK116, Q_GW116, Q_GE116, Q_NB0_116, Q_NB116_0, Q_NB101_116, Q_NB116_101, fun h0_ => absurd ((hoff 12 (by kernel_rfl)).symm.trans h0_) (by decide), Q_X3_, Q_X8_, Q_X11_⟩
       refine steps_cons ?_ ?_
       ·
        rintro b a w' ⟨v103, adz_v103, v110, adz_v110, gb116, m3_, m8_, m11_, ha, Q_BK101, Q_HI0, Q_HK, Q_HB, Q_HO104, Q_HA_HO104, Q_HI0_e2, Q_HO111, Q_HA_HO111, Q_HI0_e7, Q_BK116, Q_GW116, Q_GE116, Q_NB0_116, Q_NB116_0, Q_NB101_116, Q_NB116_101, Q_BK116_e12, Q_X3_, Q_X8_, Q_X11_⟩ hb_ hon hoff
        refine ⟨_, rfl, fun K hK => ?_⟩
        replace ha := Aside0.mk ha
        have BK101 := Aside0.mk Q_BK101
        have HK := Aside0.mk Q_HK
        have HB := Aside0.mk Q_HB
        refine box_step ?hg (N := 3) ?hd (cs := #[.string (⟨#[]⟩ : ByteArray), .string (⟨#[]⟩ : ByteArray)]) (t := 43) ?hr ?_; (case hd => rfl); (case hg => rfl); (case hr => first | (go_simp; done) | (go_simp; rfl))
        intro gb116 hg w98 hbox hb
        have n1_ := Aside0.mk (blk_below (g := gb101) (o := .cells #[.string (⟨#[]⟩ : ByteArray), .string (⟨#[]⟩ : ByteArray)] 43 (0, 0)) bk hb)
        have n2_ := Aside0.mk (KeepBut.trans zkk (KeepBut.of_below hb g none) (.inl rfl))
        have n3_ := Aside0.mk (below_step bh hb)
        have n4_ := Aside0.mk (hbox)
        have n5_ := Aside0.mk ((zsz hg : w.heap.size ≤ gb116))
        have n6_ := Aside0.mk ((Nat.le_trans HW0.out (zsz hg : w.heap.size ≤ gb116) : w0.heap.size ≤ gb116))
        have n7_ := Aside0.mk ((nl hg bk : gb101 ≠ gb116))
        have n8_ := Aside0.mk ((ng hg bk : gb116 ≠ gb101))
        have n9_ := Aside0.mk ((by rw [hg]; exact Nat.ne_of_lt (Nat.lt_of_lt_of_le HG0_.out (keep_size (w := w) (g := g) (row := none) zkk)) : g ≠ gb116))
        have n10_ := Aside0.mk ((by rw [hg]; exact Nat.ne_of_gt (Nat.lt_of_lt_of_le HG0_.out (keep_size (w := w) (g := g) (row := none) zkk)) : gb116 ≠ g))
        have z_HI0 := fun (h0_ : b 2 = false) => (show IsS79 w0 w98 g s0_0 s0_1 s0_2 from by first | exact (IsS79.below (by repeat (first | (with_reducible first | exact (Q_HI0 h0_) | apply IsS79.alloc | apply IsS79.drewN | apply IsS79.drew | apply IsS79.set_1 | apply IsS79.set_2 | refine IsS79.far ?_ NB0_101.out _) | exact (Q_HI0 h0_))) hb))
        have z_HO104 := fun (h0_ : b 0 = true) => (show Kd.R Kd.string 9 w98 w.heap.size (fun _ => True) v103 y102 from by first | exact (Kd.R_below (by (with_reducible repeat (first | apply Kd.R_alloc | apply Kd.R_drewN | apply Kd.R_drew)); exact (Q_HO104 h0_)) hb) | exact Kd.R_mono (Kd.R_below (by (with_reducible repeat (first | apply Kd.R_alloc | apply Kd.R_drewN | apply Kd.R_drew)); exact (Q_HO104 h0_)) hb) (fun _ h_ => by first | trivial | exact h_ | exact h_.1))
        have z_HI0_e2 := fun (h0_ : b 2 = true) (h1_ : b 7 = false) => (show IsS79 w0 w98 g s0_0 t106 t107 from by first | exact (IsS79.below (by repeat (first | (with_reducible first | exact (Q_HI0_e2 h0_ h1_) | apply IsS79.alloc | apply IsS79.drewN | apply IsS79.drew | apply IsS79.set_1 | apply IsS79.set_2 | refine IsS79.far ?_ NB0_101.out _) | exact (Q_HI0_e2 h0_ h1_))) hb))
        have z_HO111 := fun (h0_ : b 5 = true) => (show Kd.R Kd.string 9 w98 w.heap.size (fun _ => True) v110 y109 from by first | exact (Kd.R_below (by (with_reducible repeat (first | apply Kd.R_alloc | apply Kd.R_drewN | apply Kd.R_drew)); exact (Q_HO111 h0_)) hb) | exact Kd.R_mono (Kd.R_below (by (with_reducible repeat (first | apply Kd.R_alloc | apply Kd.R_drewN | apply Kd.R_drew)); exact (Q_HO111 h0_)) hb) (fun _ h_ => by first | trivial | exact h_ | exact h_.1))
        have z_HI0_e7 := fun (h0_ : b 7 = true) => (show IsS79 w0 w98 g s0_0 t113 t114 from by first | exact (IsS79.below (by repeat (first | (with_reducible first | exact (Q_HI0_e7 h0_) | apply IsS79.alloc | apply IsS79.drewN | apply IsS79.drew | apply IsS79.set_1 | apply IsS79.set_2 | refine IsS79.far ?_ NB0_101.out _) | exact (Q_HI0_e7 h0_))) hb))
        clear BK101
        clear HK
        clear HB
        have BK101 := n1_
        have HK := n2_
        have HB := n3_
        have BK116 := n4_
        have GW116 := n5_
        have GE116 := n6_
        have NB101_116 := n7_
        have NB116_101 := n8_
        have NB0_116 := n9_
        have NB116_0 := n10_
        clear n1_ n2_ n3_ n4_ n5_ n6_ n7_ n8_ n9_ n10_
        clear hb hbox hg
        refine hK.out _ _ ⟨v103, adz_v103, v110, adz_v110, gb116, m3_, m8_, (.pointer (some ⟨gb116, 0, none⟩)), (by rw [ha.out]; exact putSel_upk 9 hb_ rfl rfl rfl), bk, z_HI0, zkk, bh, z_HO104, Q_HA_HO104, z_HI0_e2, z_HO111, Q_HA_HO111, z_HI0_e7, fun _ _ => bk, fun _ => GW116.out, fun _ => GE116.out, fun _ => NB0_116.out, fun _ => NB116_0.out, fun _ => NB101_116.out, fun _ => NB116_101.out, fun h0_ => absurd ((hoff 12 (by kernel_rfl)).symm.trans h0_) (by decide), Q_X3_, Q_X8_, fun _ => rfl⟩
       refine steps_cons ?_ ?_
       ·
        rintro b a w' ⟨v103, adz_v103, v110, adz_v110, gb116, m3_, m8_, m11_, ha, Q_BK101, Q_HI0, Q_HK, Q_HB, Q_HO104, Q_HA_HO104, Q_HI0_e2, Q_HO111, Q_HA_HO111, Q_HI0_e7, Q_BK116, Q_GW116, Q_GE116, Q_NB0_116, Q_NB116_0, Q_NB101_116, Q_NB116_101, Q_BK116_e12, Q_X3_, Q_X8_, Q_X11_⟩ hb_ hon hoff
        refine ⟨_, rfl, fun K hK => ?_⟩
        have e3 : a.tmps[3]? = some (m11_) := by rw [ha]; exact putSel_on (e := (11, 3, m11_)) 9 rfl rfl (hon 11 (by kernel_rfl)) rfl
        rw [Q_X11_ (hon 11 (by kernel_rfl))] at e3
        have e14 : a.tmps[14]? = some (.agg #[.string (rdOf ByteArray.empty y102 t105), .string (rdOf ByteArray.empty y109 t112)]) := by rw [ha]; exact putSel_on (e := (10, 14, .agg #[.string (rdOf ByteArray.empty y102 t105), .string (rdOf ByteArray.empty y109 t112)])) 8 rfl rfl (hon 10 (by kernel_rfl)) rfl
        replace ha := Aside0.mk ha
        have BK101 := Aside0.mk Q_BK101
        have HK := Aside0.mk Q_HK
        have HB := Aside0.mk Q_HB
        have HO104 := Aside0.mk (Q_HO104 (hon 0 (by kernel_rfl)))
        have HA_HO104 := Aside0.mk (Q_HA_HO104 (hon 0 (by kernel_rfl)))
        have HO111 := Aside0.mk (Q_HO111 (hon 5 (by kernel_rfl)))
        have HA_HO111 := Aside0.mk (Q_HA_HO111 (hon 5 (by kernel_rfl)))
        have HI0 := Aside0.mk (Q_HI0_e7 (hon 7 (by kernel_rfl)))
        have BK116 := Aside0.mk (Q_BK116 (hon 11 (by kernel_rfl)) hb_)
        have GW116 := Aside0.mk (Q_GW116 (hon 11 (by kernel_rfl)))
        have GE116 := Aside0.mk (Q_GE116 (hon 11 (by kernel_rfl)))
        have NB0_116 := Aside0.mk (Q_NB0_116 (hon 11 (by kernel_rfl)))
        have NB116_0 := Aside0.mk (Q_NB116_0 (hon 11 (by kernel_rfl)))
        have NB101_116 := Aside0.mk (Q_NB101_116 (hon 11 (by kernel_rfl)))
        have NB116_101 := Aside0.mk (Q_NB116_101 (hon 11 (by kernel_rfl)))
        obtain ⟨co108, eo108⟩ := HA_HO104.out
        clear HA_HO104
        subst eo108
        obtain ⟨co109, eo109⟩ := HA_HO111.out
        clear HA_HO111
        subst eo109
        have hs110 : w'.cell? ⟨gb116, 0, none⟩ = some (.string (⟨#[]⟩ : ByteArray)) := bc BK116 0
        have hfs110 := blk_frozen BK116.out 0
        have hns110_0 := NB101_116.out
        have hms110_0 := NB116_101.out
        have hs111 : w'.cell? ⟨gb116, 1, none⟩ = some (.string (⟨#[]⟩ : ByteArray)) := bc BK116 1
        have hfs111 := blk_frozen BK116.out 1
        have hns111_0 := NB101_116.out
        have hms111_0 := NB116_101.out
        refine skip_ (w1 := ?_) (by rfl) rfl ?_ ?_
        rotate_left
        ·
         go_simp
         rfl
        refine hK.out _ _ ⟨.slice (some adz_v103) y102.length co108, adz_v103, .slice (some adz_v110) y109.length co109, adz_v110, gb116, m3_, m8_, m11_, (by rw [ha.out]; exact putSel_none (v := undef) rfl), bkf, fun h0_ => absurd ((hon 2 (by kernel_rfl)).symm.trans h0_) (by decide), zkk, zbh, fun _ => (by (with_reducible repeat (first | apply Kd.R_alloc | apply Kd.R_drewN | apply Kd.R_drew)); exact Kd.R_mono (Kd.R_far (p := ⟨gb116, 1, none⟩) (Kd.R_far (p := ⟨gb116, 0, none⟩) (Kd.R_types HO104.out BK116.out (by decide)) (fun _ hk => hk.2) (.string (rdOf ByteArray.empty y102 t105))) (fun _ hk => hk.2) (.string (rdOf ByteArray.empty y109 t112))) (fun _ hk => hk.1)), fun _ => ⟨_, rfl⟩, fun _ h1_ => absurd ((hon 7 (by kernel_rfl)).symm.trans h1_) (by decide), fun _ => (by (with_reducible repeat (first | apply Kd.R_alloc | apply Kd.R_drewN | apply Kd.R_drew)); exact Kd.R_mono (Kd.R_far (p := ⟨gb116, 1, none⟩) (Kd.R_far (p := ⟨gb116, 0, none⟩) (Kd.R_types HO111.out BK116.out (by decide)) (fun _ hk => hk.2) (.string (rdOf ByteArray.empty y102 t105))) (fun _ hk => hk.2) (.string (rdOf ByteArray.empty y109 t112))) (fun _ hk => hk.1)), fun _ => ⟨_, rfl⟩, fun _ => zis, fun _ h1_ => absurd ((up_self b 12).symm.trans h1_) (by decide), fun _ => GW116.out, fun _ => GE116.out, fun _ => NB0_116.out, fun _ => NB116_0.out, fun _ => NB101_116.out, fun _ => NB116_101.out, fun _ => bkp, Q_X3_, Q_X8_, Q_X11_⟩
       exact steps_nil
      rintro b a w109 hall ⟨v103, adz_v103, v110, adz_v110, gb116, m3_, m8_, m11_, ha, Q_BK101, Q_HI0, Q_HK, Q_HB, Q_HO104, Q_HA_HO104, Q_HI0_e2, Q_HO111, Q_HA_HO111, Q_HI0_e7, Q_BK116, Q_GW116, Q_GE116, Q_NB0_116, Q_NB116_0, Q_NB101_116, Q_NB116_101, Q_BK116_e12, Q_X3_, Q_X8_, Q_X11_⟩
      clear BK101 HB HI0 HK
      have hb0_ := hall 0 (by kernel_rfl)
      have hb2_ := hall 2 (by kernel_rfl)
      have hb3_ := hall 3 (by kernel_rfl)
      have hb4_ := hall 4 (by kernel_rfl)
      have hb5_ := hall 5 (by kernel_rfl)
      have hb7_ := hall 7 (by kernel_rfl)
      have hb8_ := hall 8 (by kernel_rfl)
      have hb9_ := hall 9 (by kernel_rfl)
      have hb10_ := hall 10 (by kernel_rfl)
      have hb11_ := hall 11 (by kernel_rfl)
      have hb12_ := hall 12 (by kernel_rfl)
      subst ha
      obtain rfl := Q_X3_ hb3_
      obtain rfl := Q_X8_ hb8_
      obtain rfl := Q_X11_ hb11_
      simp only [putSel, hb0_, hb2_, hb3_, hb4_, hb5_, hb7_, hb8_, hb9_, hb10_, hb11_, hb12_, if_true, Act.put, List.setIfInBounds_toArray, List.set_cons_zero, List.set_cons_succ]
      have BK101 := Aside0.mk Q_BK101
      clear Q_BK101
      clear Q_HI0
      have HK := Aside0.mk Q_HK
      clear Q_HK
      have HB := Aside0.mk Q_HB
      clear Q_HB
      have HO104 := Aside0.mk (Q_HO104 hb0_)
      clear Q_HO104
      have HA_HO104 := Aside0.mk (Q_HA_HO104 hb0_)
      clear Q_HA_HO104
      clear Q_HI0_e2
      have HO111 := Aside0.mk (Q_HO111 hb5_)
      clear Q_HO111
      have HA_HO111 := Aside0.mk (Q_HA_HO111 hb5_)
      clear Q_HA_HO111
      have HI0 := Aside0.mk (Q_HI0_e7 hb7_)
      clear Q_HI0_e7
      clear Q_BK116
      have GW116 := Aside0.mk (Q_GW116 hb11_)
      clear Q_GW116
      have GE116 := Aside0.mk (Q_GE116 hb11_)
      clear Q_GE116
      have NB0_116 := Aside0.mk (Q_NB0_116 hb11_)
      clear Q_NB0_116
      have NB116_0 := Aside0.mk (Q_NB116_0 hb11_)
      clear Q_NB116_0
      have NB101_116 := Aside0.mk (Q_NB101_116 hb11_)
      clear Q_NB101_116
      have NB116_101 := Aside0.mk (Q_NB116_101 hb11_)
      clear Q_NB116_101
      have BK116 := Aside0.mk (Q_BK116_e12 hb12_)
      clear Q_BK116_e12
      clear hall hb0_ hb2_ hb3_ hb4_ hb5_ hb7_ hb8_ hb9_ hb10_ hb11_ hb12_
      obtain ⟨co110, eo110⟩ := HA_HO104.out
      clear HA_HO104
      subst eo110
      obtain ⟨co111, eo111⟩ := HA_HO111.out
      clear HA_HO111
      subst eo111
      try go_wp2_with (first | ((with_reducible refine gate_callee (f := 36) rfl ?_); refine goesL_ (some 16) rfl rfl Tryd.func36 (by kernel_rfl) rfl #[.pointer (some ⟨g, 0, none⟩), .int .i64 24] rfl mc ?_; (with_reducible refine (spec_l1Once.calls g s0_0 t113 t114 24 false t118 t119 w0 _ ?side1 ?side2 A8.out).mono ?_); (case side1 => exact zis); (case side2 => exact zbh); rintro e w112 ⟨rfl, hi, hb, hk⟩; refine ⟨_, rfl, ?_⟩; replace BK101 := bkk_ BK101 hk NB101_0; replace HO104 := Aside0.mk (Kd.R_mono (Kd.R_keep (IsS79.apart (show IsS79 w0 _ g s0_0 t113 t114 from zis) (by (with_reducible repeat (first | apply Kd.R_alloc | apply Kd.R_drewN | apply Kd.R_drew)); exact HO104.out) (by decide)) hk (fun _ h => h.2)) (fun _ h => h.1)); replace HO111 := Aside0.mk (Kd.R_mono (Kd.R_keep (IsS79.apart (show IsS79 w0 _ g s0_0 t113 t114 from zis) (by (with_reducible repeat (first | apply Kd.R_alloc | apply Kd.R_drewN | apply Kd.R_drew)); exact HO111.out) (by decide)) hk (fun _ h => h.2)) (fun _ h => h.1)); replace BK116 := bkk_ BK116 hk NB116_0; replace HK := Aside0.mk (KeepBut.trans zkk hk (.inl rfl)); replace HI0 := Aside0.mk (hi); replace HB := Aside0.mk (hb); (try clear hb); (try clear hb2); (try clear hk); (try clear hi); have hnb113 := NB116_101.out; have hnc113 := NB101_116.out; have hnb114 := NB116_0.out; have hnc114 := NB0_116.out; obtain ⟨hcz115_0, hcz115_1⟩ := zcf2 BK116; obtain ⟨hfz115_0, hfz115_1⟩ := zff2 BK116; have hnb116 := NB101_0.out; have hnc116 := NB0_101.out; obtain ⟨hcz117_0, hcz117_1⟩ := zcf2 BK101; obtain ⟨hfz117_0, hfz117_1⟩ := zff2 BK101))
      refine bodyPost_ret (results_cell_row rfl _ _ gb101 43 #[.string (rdOf ByteArray.empty y102 t105), .string (rdOf ByteArray.empty y109 t112)] (0, 0) _ rfl bkp Tryd.underlying43 rfl (by kernel_rfl)) rfl ?_
      exact ⟨er, zis, zbh, zkk⟩
    ·
     rw [if_neg c7] at H
     exact absurd H (by simp)
   ·
    rw [if_neg c6] at H
    exact absurd H (by simp)
  ·
   rw [if_neg c4] at H
   exact absurd H (by simp)
 ·
  rw [if_neg c3] at H
  exact absurd H (by simp)

end Go.Proofs.YtkaknffeoeoajaaDoor.P
