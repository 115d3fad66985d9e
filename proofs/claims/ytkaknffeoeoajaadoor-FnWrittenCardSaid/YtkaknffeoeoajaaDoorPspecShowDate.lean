/- Functions of the Go program as Lean functions, and proofs that each Go function comes to its Lean function's answers; conditions: those that each theorem states. Written by this session's program hprint.py, which drives the kit's printer. -/
import Derived.Test.YtkaknffeoeoajaaDoorP0
import Derived.Test.YtkaknffeoeoajaaDoorPspecDateOk
import Derived.Test.YtkaknffeoeoajaaDoorPspecWeekday
import Derived.Test.YtkaknffeoeoajaaDoorPspecl2DayName
import Derived.Test.YtkaknffeoeoajaaDoorPspecl2MonthName
import Derived.Test.YtkaknffeoeoajaaDoorPspecl2Two
import Derived.Test.YtkaknffeoeoajaaDoorXA
namespace Go.Proofs.YtkaknffeoeoajaaDoor.P
open Go.RowKit Go.Proofs.YtkaknffeoeoajaaDoorW.PrintWords Go.Proofs.YtkaknffeoeoajaaDoorW.PrintLast Go.Proofs.YtkaknffeoeoajaaDoorW.PrintMore
attribute [local go_sem] max2_int min2_int max_two min_two max_three min_three max_four min_four   -- for this text's walks alone
set_option linter.unusedVariables false
set_option linter.unusedSimpArgs false

/-! ### spec_ShowDate: function 18 -/
def spec_ShowDate.f (k : Nat) (a0_0 : Int) (a0_1 : Int) (a0_2 : Int) (a0_3 : Int) (a0_4 : Int) (a0_5 : Int) : Option (ByteArray) := (spec_DateOk.f a0_0 a0_1 a0_2 a0_3 a0_4 a0_5).bind fun t102 => (if t102 = true then ((spec_Weekday.f k a0_0 a0_1 a0_2 a0_3 a0_4 a0_5).bind fun t103 => ((spec_l2DayName.f t103).bind fun t104 => (if t104.size + 2 ≤ 9223372036854775807 then ((spec_l2Two.f a0_2).bind fun t105 => (if (t104 ++ (⟨#[44, 32]⟩ : ByteArray)).size + t105.size ≤ 9223372036854775807 then (if ((t104 ++ (⟨#[44, 32]⟩ : ByteArray)) ++ t105).size + 1 ≤ 9223372036854775807 then ((spec_l2MonthName.f a0_1).bind fun t106 => (if (((t104 ++ (⟨#[44, 32]⟩ : ByteArray)) ++ t105) ++ (⟨#[32]⟩ : ByteArray)).size + t106.size ≤ 9223372036854775807 then (if ((((t104 ++ (⟨#[44, 32]⟩ : ByteArray)) ++ t105) ++ (⟨#[32]⟩ : ByteArray)) ++ t106).size + 1 ≤ 9223372036854775807 then ((spec_l2Two.f (wrap64 (Int.tdiv a0_0 100))).bind fun t107 => (if (((((t104 ++ (⟨#[44, 32]⟩ : ByteArray)) ++ t105) ++ (⟨#[32]⟩ : ByteArray)) ++ t106) ++ (⟨#[32]⟩ : ByteArray)).size + t107.size ≤ 9223372036854775807 then ((spec_l2Two.f a0_0).bind fun t108 => (if ((((((t104 ++ (⟨#[44, 32]⟩ : ByteArray)) ++ t105) ++ (⟨#[32]⟩ : ByteArray)) ++ t106) ++ (⟨#[32]⟩ : ByteArray)) ++ t107).size + t108.size ≤ 9223372036854775807 then (if (((((((t104 ++ (⟨#[44, 32]⟩ : ByteArray)) ++ t105) ++ (⟨#[32]⟩ : ByteArray)) ++ t106) ++ (⟨#[32]⟩ : ByteArray)) ++ t107) ++ t108).size + 1 ≤ 9223372036854775807 then ((spec_l2Two.f a0_3).bind fun t109 => (if ((((((((t104 ++ (⟨#[44, 32]⟩ : ByteArray)) ++ t105) ++ (⟨#[32]⟩ : ByteArray)) ++ t106) ++ (⟨#[32]⟩ : ByteArray)) ++ t107) ++ t108) ++ (⟨#[32]⟩ : ByteArray)).size + t109.size ≤ 9223372036854775807 then (if (((((((((t104 ++ (⟨#[44, 32]⟩ : ByteArray)) ++ t105) ++ (⟨#[32]⟩ : ByteArray)) ++ t106) ++ (⟨#[32]⟩ : ByteArray)) ++ t107) ++ t108) ++ (⟨#[32]⟩ : ByteArray)) ++ t109).size + 1 ≤ 9223372036854775807 then ((spec_l2Two.f a0_4).bind fun t110 => (if ((((((((((t104 ++ (⟨#[44, 32]⟩ : ByteArray)) ++ t105) ++ (⟨#[32]⟩ : ByteArray)) ++ t106) ++ (⟨#[32]⟩ : ByteArray)) ++ t107) ++ t108) ++ (⟨#[32]⟩ : ByteArray)) ++ t109) ++ (⟨#[58]⟩ : ByteArray)).size + t110.size ≤ 9223372036854775807 then (if (((((((((((t104 ++ (⟨#[44, 32]⟩ : ByteArray)) ++ t105) ++ (⟨#[32]⟩ : ByteArray)) ++ t106) ++ (⟨#[32]⟩ : ByteArray)) ++ t107) ++ t108) ++ (⟨#[32]⟩ : ByteArray)) ++ t109) ++ (⟨#[58]⟩ : ByteArray)) ++ t110).size + 1 ≤ 9223372036854775807 then ((spec_l2Two.f a0_5).bind fun t111 => (if ((((((((((((t104 ++ (⟨#[44, 32]⟩ : ByteArray)) ++ t105) ++ (⟨#[32]⟩ : ByteArray)) ++ t106) ++ (⟨#[32]⟩ : ByteArray)) ++ t107) ++ t108) ++ (⟨#[32]⟩ : ByteArray)) ++ t109) ++ (⟨#[58]⟩ : ByteArray)) ++ t110) ++ (⟨#[58]⟩ : ByteArray)).size + t111.size ≤ 9223372036854775807 then (if (((((((((((((t104 ++ (⟨#[44, 32]⟩ : ByteArray)) ++ t105) ++ (⟨#[32]⟩ : ByteArray)) ++ t106) ++ (⟨#[32]⟩ : ByteArray)) ++ t107) ++ t108) ++ (⟨#[32]⟩ : ByteArray)) ++ t109) ++ (⟨#[58]⟩ : ByteArray)) ++ t110) ++ (⟨#[58]⟩ : ByteArray)) ++ t111).size + 4 ≤ 9223372036854775807 then (some ((((((((((((((t104 ++ (⟨#[44, 32]⟩ : ByteArray)) ++ t105) ++ (⟨#[32]⟩ : ByteArray)) ++ t106) ++ (⟨#[32]⟩ : ByteArray)) ++ t107) ++ t108) ++ (⟨#[32]⟩ : ByteArray)) ++ t109) ++ (⟨#[58]⟩ : ByteArray)) ++ t110) ++ (⟨#[58]⟩ : ByteArray)) ++ t111) ++ (⟨#[32, 71, 77, 84]⟩ : ByteArray))) else (none)) else (none))) else (none)) else (none))) else (none)) else (none))) else (none)) else (none))) else (none))) else (none)) else (none))) else (none)) else (none))) else (none)))) else (some (⟨#[]⟩ : ByteArray)))
theorem spec_ShowDate.mono : ∀ a0 a1 a2 a3 a4 a5 k, LeO (spec_ShowDate.f k a0 a1 a2 a3 a4 a5) (spec_ShowDate.f (k + 1) a0 a1 a2 a3 a4 a5) := by
 intro a0 a1 a2 a3 a4 a5 k
 unfold spec_ShowDate.f
 repeat' first
   | (with_reducible exact spec_Weekday.mono _ _ _ _ _ _ _)
   | (with_reducible exact LeO.refl _)
   | (with_reducible exact LeO.none _)
   | (with_reducible refine LeO.ite ?_ ?_)
   | (with_reducible refine LeO.bind ?_ (fun _ => ?_))
   | exact spec_Weekday.mono _ _ _ _ _ _ _
   | exact LeO.none _
   | refine LeO.ite ?_ ?_
   | refine LeO.bind ?_ (fun _ => ?_)
def spec_ShowDate.T3 : Bool × List (List Nat × List Nat) := (true, [([], []), ([0], [0]), ([1, 1], [1]), ([2], [2]), ([], []), ([4], [4]), ([5, 2], [5]), ([3, 6], [3, 6]), ([7], [7]), ([], []), ([9], [9]), ([10, 6], [10]), ([8, 11], [8, 11]), ([12], [12]), ([], []), ([14], [14]), ([15], [15]), ([16, 11], [16]), ([13, 17], [13, 17]), ([], []), ([19], [19]), ([20, 17], [20]), ([18, 21], [18, 21]), ([22], [22]), ([], []), ([24], [24]), ([25, 21], [25]), ([23, 26], [23, 26]), ([27], [27]), ([], []), ([29], [29]), ([30, 26], [30]), ([28, 31], [28, 31]), ([32], [32]), ([], []), ([34], [34]), ([35, 31], [35]), ([33, 36], [33, 36]), ([37], [37]), ([38, 36, 0, 1, 2, 3, 4, 5, 6, 7, 8, 9, 10, 11, 12, 13, 14, 15, 16, 17, 18, 19, 20, 21, 22, 23, 24, 25, 26, 27, 28, 29, 30, 31, 32, 33, 34, 35, 36, 37, 38], [38])])
def spec_ShowDate.B3 : List Nat := [0, 1, 3, 7, 0, 16, 55, 127, 255, 0, 512, 1655, 4095, 8191, 0, 16384, 49152, 118391, 262143, 0, 524288, 1822327, 4194303, 8388607, 0, 16777216, 54251127, 134217727, 268435455, 0, 536870912, 1731972727, 4294967295, 8589934591, 0, 17179869184, 55419063927, 137438953471, 274877906943, 549755813887]
theorem spec_ShowDate.tab3 : rtab .any (opsOf Tryd.f18 3) = spec_ShowDate.T3 := by kernel_rfl
theorem spec_ShowDate.bits3 : waitsOk spec_ShowDate.T3.2 spec_ShowDate.B3 = true := by kernel_rfl
set_option maxHeartbeats 8000000 in
set_option maxRecDepth 100000 in
theorem spec_ShowDate.calls (k : Nat) (a0_0 : Int) (a0_1 : Int) (a0_2 : Int) (a0_3 : Int) (a0_4 : Int) (a0_5 : Int) (r : ByteArray) (w : World) (h : spec_ShowDate.f k a0_0 a0_1 a0_2 a0_3 a0_4 a0_5 = some r) :
  Calls Tryd.prog 18 #[.agg #[.int .i64 a0_0, .int .i64 a0_1, .int .i64 a0_2, .int .i64 a0_3, .int .i64 a0_4, .int .i64 a0_5]] w fun e w' => e = .returned (.string r) ∧ Below w.heap.size w w' := by
 have hu34 := Tryd.underlying34
 have HB := Aside0.mk (Below.refl w.heap.size w)
 have H := h
 unfold spec_ShowDate.f at H
 clear h
 obtain ⟨t102, A20, H⟩ := Option.bind_eq_some_iff.mp H
 try dsimp only at H
 have A2 := Aside0.mk A20
 clear A20
 by_cases c3 : t102 = true
 ·
  subst c3
  rw [if_pos rfl] at H
  obtain ⟨t103, A40, H⟩ := Option.bind_eq_some_iff.mp H
  try dsimp only at H
  have A4 := Aside0.mk A40
  clear A40
  obtain ⟨t104, A50, H⟩ := Option.bind_eq_some_iff.mp H
  try dsimp only at H
  have A5 := Aside0.mk A50
  clear A50
  by_cases c6 : t104.size + 2 ≤ 9223372036854775807
  ·
   rw [if_pos c6] at H
   have c6b0 := eq_true c6
   have c6b1 : decide (t104.size + 2 ≤ 9223372036854775807) = true := decide_eq_true c6
   try have c6b2 : (9223372036854775807 < t104.size + 2) = False := eq_false (Nat.not_lt.2 c6)
   obtain ⟨t105, A70, H⟩ := Option.bind_eq_some_iff.mp H
   try dsimp only at H
   have A7 := Aside0.mk A70
   clear A70
   by_cases c8 : (t104 ++ (⟨#[44, 32]⟩ : ByteArray)).size + t105.size ≤ 9223372036854775807
   ·
    rw [if_pos c8] at H
    have c8b0 := eq_true c8
    have c8b1 : decide ((t104 ++ (⟨#[44, 32]⟩ : ByteArray)).size + t105.size ≤ 9223372036854775807) = true := decide_eq_true c8
    try have c8b2 : (9223372036854775807 < (t104 ++ (⟨#[44, 32]⟩ : ByteArray)).size + t105.size) = False := eq_false (Nat.not_lt.2 c8)
    try have c8n3 := by have z_ := c8b2; simp only [ByteArray.size_append', ByteArray.size_mk', List.size_toArray, List.length_cons, List.length_nil, Nat.zero_add, Nat.reduceAdd] at z_; exact z_
    by_cases c9 : ((t104 ++ (⟨#[44, 32]⟩ : ByteArray)) ++ t105).size + 1 ≤ 9223372036854775807
    ·
     rw [if_pos c9] at H
     have c9b0 := eq_true c9
     have c9b1 : decide (((t104 ++ (⟨#[44, 32]⟩ : ByteArray)) ++ t105).size + 1 ≤ 9223372036854775807) = true := decide_eq_true c9
     try have c9b2 : (9223372036854775807 < ((t104 ++ (⟨#[44, 32]⟩ : ByteArray)) ++ t105).size + 1) = False := eq_false (Nat.not_lt.2 c9)
     try have c9n3 := by have z_ := c9b2; simp only [ByteArray.size_append', ByteArray.size_mk', List.size_toArray, List.length_cons, List.length_nil, Nat.zero_add, Nat.reduceAdd] at z_; exact z_
     obtain ⟨t106, A100, H⟩ := Option.bind_eq_some_iff.mp H
     try dsimp only at H
     have A10 := Aside0.mk A100
     clear A100
     by_cases c11 : (((t104 ++ (⟨#[44, 32]⟩ : ByteArray)) ++ t105) ++ (⟨#[32]⟩ : ByteArray)).size + t106.size ≤ 9223372036854775807
     ·
      rw [if_pos c11] at H
      have c11b0 := eq_true c11
      have c11b1 : decide ((((t104 ++ (⟨#[44, 32]⟩ : ByteArray)) ++ t105) ++ (⟨#[32]⟩ : ByteArray)).size + t106.size ≤ 9223372036854775807) = true := decide_eq_true c11
      try have c11b2 : (9223372036854775807 < (((t104 ++ (⟨#[44, 32]⟩ : ByteArray)) ++ t105) ++ (⟨#[32]⟩ : ByteArray)).size + t106.size) = False := eq_false (Nat.not_lt.2 c11)
      try have c11n3 := by have z_ := c11b2; simp only [ByteArray.size_append', ByteArray.size_mk', List.size_toArray, List.length_cons, List.length_nil, Nat.zero_add, Nat.reduceAdd] at z_; exact z_
      by_cases c12 : ((((t104 ++ (⟨#[44, 32]⟩ : ByteArray)) ++ t105) ++ (⟨#[32]⟩ : ByteArray)) ++ t106).size + 1 ≤ 9223372036854775807
      ·
       rw [if_pos c12] at H
       have c12b0 := eq_true c12
       have c12b1 : decide (((((t104 ++ (⟨#[44, 32]⟩ : ByteArray)) ++ t105) ++ (⟨#[32]⟩ : ByteArray)) ++ t106).size + 1 ≤ 9223372036854775807) = true := decide_eq_true c12
       try have c12b2 : (9223372036854775807 < ((((t104 ++ (⟨#[44, 32]⟩ : ByteArray)) ++ t105) ++ (⟨#[32]⟩ : ByteArray)) ++ t106).size + 1) = False := eq_false (Nat.not_lt.2 c12)
       try have c12n3 := by have z_ := c12b2; simp only [ByteArray.size_append', ByteArray.size_mk', List.size_toArray, List.length_cons, List.length_nil, Nat.zero_add, Nat.reduceAdd] at z_; exact z_
       obtain ⟨t107, A130, H⟩ := Option.bind_eq_some_iff.mp H
       try dsimp only at H
       have A13 := Aside0.mk A130
       clear A130
       by_cases c14 : (((((t104 ++ (⟨#[44, 32]⟩ : ByteArray)) ++ t105) ++ (⟨#[32]⟩ : ByteArray)) ++ t106) ++ (⟨#[32]⟩ : ByteArray)).size + t107.size ≤ 9223372036854775807
       ·
        rw [if_pos c14] at H
        have c14b0 := eq_true c14
        have c14b1 : decide ((((((t104 ++ (⟨#[44, 32]⟩ : ByteArray)) ++ t105) ++ (⟨#[32]⟩ : ByteArray)) ++ t106) ++ (⟨#[32]⟩ : ByteArray)).size + t107.size ≤ 9223372036854775807) = true := decide_eq_true c14
        try have c14b2 : (9223372036854775807 < (((((t104 ++ (⟨#[44, 32]⟩ : ByteArray)) ++ t105) ++ (⟨#[32]⟩ : ByteArray)) ++ t106) ++ (⟨#[32]⟩ : ByteArray)).size + t107.size) = False := eq_false (Nat.not_lt.2 c14)
        try have c14n3 := by have z_ := c14b2; simp only [ByteArray.size_append', ByteArray.size_mk', List.size_toArray, List.length_cons, List.length_nil, Nat.zero_add, Nat.reduceAdd] at z_; exact z_
        obtain ⟨t108, A150, H⟩ := Option.bind_eq_some_iff.mp H
        try dsimp only at H
        have A15 := Aside0.mk A150
        clear A150
        by_cases c16 : ((((((t104 ++ (⟨#[44, 32]⟩ : ByteArray)) ++ t105) ++ (⟨#[32]⟩ : ByteArray)) ++ t106) ++ (⟨#[32]⟩ : ByteArray)) ++ t107).size + t108.size ≤ 9223372036854775807
        ·
         rw [if_pos c16] at H
         have c16b0 := eq_true c16
         have c16b1 : decide (((((((t104 ++ (⟨#[44, 32]⟩ : ByteArray)) ++ t105) ++ (⟨#[32]⟩ : ByteArray)) ++ t106) ++ (⟨#[32]⟩ : ByteArray)) ++ t107).size + t108.size ≤ 9223372036854775807) = true := decide_eq_true c16
         try have c16b2 : (9223372036854775807 < ((((((t104 ++ (⟨#[44, 32]⟩ : ByteArray)) ++ t105) ++ (⟨#[32]⟩ : ByteArray)) ++ t106) ++ (⟨#[32]⟩ : ByteArray)) ++ t107).size + t108.size) = False := eq_false (Nat.not_lt.2 c16)
         try have c16n3 := by have z_ := c16b2; simp only [ByteArray.size_append', ByteArray.size_mk', List.size_toArray, List.length_cons, List.length_nil, Nat.zero_add, Nat.reduceAdd] at z_; exact z_
         by_cases c17 : (((((((t104 ++ (⟨#[44, 32]⟩ : ByteArray)) ++ t105) ++ (⟨#[32]⟩ : ByteArray)) ++ t106) ++ (⟨#[32]⟩ : ByteArray)) ++ t107) ++ t108).size + 1 ≤ 9223372036854775807
         ·
          rw [if_pos c17] at H
          have c17b0 := eq_true c17
          have c17b1 : decide ((((((((t104 ++ (⟨#[44, 32]⟩ : ByteArray)) ++ t105) ++ (⟨#[32]⟩ : ByteArray)) ++ t106) ++ (⟨#[32]⟩ : ByteArray)) ++ t107) ++ t108).size + 1 ≤ 9223372036854775807) = true := decide_eq_true c17
          try have c17b2 : (9223372036854775807 < (((((((t104 ++ (⟨#[44, 32]⟩ : ByteArray)) ++ t105) ++ (⟨#[32]⟩ : ByteArray)) ++ t106) ++ (⟨#[32]⟩ : ByteArray)) ++ t107) ++ t108).size + 1) = False := eq_false (Nat.not_lt.2 c17)
          try have c17n3 := by have z_ := c17b2; simp only [ByteArray.size_append', ByteArray.size_mk', List.size_toArray, List.length_cons, List.length_nil, Nat.zero_add, Nat.reduceAdd] at z_; exact z_
          obtain ⟨t109, A180, H⟩ := Option.bind_eq_some_iff.mp H
          try dsimp only at H
          have A18 := Aside0.mk A180
          clear A180
          by_cases c19 : ((((((((t104 ++ (⟨#[44, 32]⟩ : ByteArray)) ++ t105) ++ (⟨#[32]⟩ : ByteArray)) ++ t106) ++ (⟨#[32]⟩ : ByteArray)) ++ t107) ++ t108) ++ (⟨#[32]⟩ : ByteArray)).size + t109.size ≤ 9223372036854775807
          ·
           rw [if_pos c19] at H
           have c19b0 := eq_true c19
           have c19b1 : decide (((((((((t104 ++ (⟨#[44, 32]⟩ : ByteArray)) ++ t105) ++ (⟨#[32]⟩ : ByteArray)) ++ t106) ++ (⟨#[32]⟩ : ByteArray)) ++ t107) ++ t108) ++ (⟨#[32]⟩ : ByteArray)).size + t109.size ≤ 9223372036854775807) = true := decide_eq_true c19
           try have c19b2 : (9223372036854775807 < ((((((((t104 ++ (⟨#[44, 32]⟩ : ByteArray)) ++ t105) ++ (⟨#[32]⟩ : ByteArray)) ++ t106) ++ (⟨#[32]⟩ : ByteArray)) ++ t107) ++ t108) ++ (⟨#[32]⟩ : ByteArray)).size + t109.size) = False := eq_false (Nat.not_lt.2 c19)
           try have c19n3 := by have z_ := c19b2; simp only [ByteArray.size_append', ByteArray.size_mk', List.size_toArray, List.length_cons, List.length_nil, Nat.zero_add, Nat.reduceAdd] at z_; exact z_
           by_cases c20 : (((((((((t104 ++ (⟨#[44, 32]⟩ : ByteArray)) ++ t105) ++ (⟨#[32]⟩ : ByteArray)) ++ t106) ++ (⟨#[32]⟩ : ByteArray)) ++ t107) ++ t108) ++ (⟨#[32]⟩ : ByteArray)) ++ t109).size + 1 ≤ 9223372036854775807
           ·
            rw [if_pos c20] at H
            have c20b0 := eq_true c20
            have c20b1 : decide ((((((((((t104 ++ (⟨#[44, 32]⟩ : ByteArray)) ++ t105) ++ (⟨#[32]⟩ : ByteArray)) ++ t106) ++ (⟨#[32]⟩ : ByteArray)) ++ t107) ++ t108) ++ (⟨#[32]⟩ : ByteArray)) ++ t109).size + 1 ≤ 9223372036854775807) = true := decide_eq_true c20
            try have c20b2 : (9223372036854775807 < (((((((((t104 ++ (⟨#[44, 32]⟩ : ByteArray)) ++ t105) ++ (⟨#[32]⟩ : ByteArray)) ++ t106) ++ (⟨#[32]⟩ : ByteArray)) ++ t107) ++ t108) ++ (⟨#[32]⟩ : ByteArray)) ++ t109).size + 1) = False := eq_false (Nat.not_lt.2 c20)
            try have c20n3 := by have z_ := c20b2; simp only [ByteArray.size_append', ByteArray.size_mk', List.size_toArray, List.length_cons, List.length_nil, Nat.zero_add, Nat.reduceAdd] at z_; exact z_
            obtain ⟨t110, A210, H⟩ := Option.bind_eq_some_iff.mp H
            try dsimp only at H
            have A21 := Aside0.mk A210
            clear A210
            by_cases c22 : ((((((((((t104 ++ (⟨#[44, 32]⟩ : ByteArray)) ++ t105) ++ (⟨#[32]⟩ : ByteArray)) ++ t106) ++ (⟨#[32]⟩ : ByteArray)) ++ t107) ++ t108) ++ (⟨#[32]⟩ : ByteArray)) ++ t109) ++ (⟨#[58]⟩ : ByteArray)).size + t110.size ≤ 9223372036854775807
            ·
             rw [if_pos c22] at H
             have c22b0 := eq_true c22
             have c22b1 : decide (((((((((((t104 ++ (⟨#[44, 32]⟩ : ByteArray)) ++ t105) ++ (⟨#[32]⟩ : ByteArray)) ++ t106) ++ (⟨#[32]⟩ : ByteArray)) ++ t107) ++ t108) ++ (⟨#[32]⟩ : ByteArray)) ++ t109) ++ (⟨#[58]⟩ : ByteArray)).size + t110.size ≤ 9223372036854775807) = true := decide_eq_true c22
             try have c22b2 : (9223372036854775807 < ((((((((((t104 ++ (⟨#[44, 32]⟩ : ByteArray)) ++ t105) ++ (⟨#[32]⟩ : ByteArray)) ++ t106) ++ (⟨#[32]⟩ : ByteArray)) ++ t107) ++ t108) ++ (⟨#[32]⟩ : ByteArray)) ++ t109) ++ (⟨#[58]⟩ : ByteArray)).size + t110.size) = False := eq_false (Nat.not_lt.2 c22)
             try have c22n3 := by have z_ := c22b2; simp only [ByteArray.size_append', ByteArray.size_mk', List.size_toArray, List.length_cons, List.length_nil, Nat.zero_add, Nat.reduceAdd] at z_; exact z_
             by_cases c23 : (((((((((((t104 ++ (⟨#[44, 32]⟩ : ByteArray)) ++ t105) ++ (⟨#[32]⟩ : ByteArray)) ++ t106) ++ (⟨#[32]⟩ : ByteArray)) ++ t107) ++ t108) ++ (⟨#[32]⟩ : ByteArray)) ++ t109) ++ (⟨#[58]⟩ : ByteArray)) ++ t110).size + 1 ≤ 9223372036854775807
             ·
              rw [if_pos c23] at H
              have c23b0 := eq_true c23
              have c23b1 : decide ((((((((((((t104 ++ (⟨#[44, 32]⟩ : ByteArray)) ++ t105) ++ (⟨#[32]⟩ : ByteArray)) ++ t106) ++ (⟨#[32]⟩ : ByteArray)) ++ t107) ++ t108) ++ (⟨#[32]⟩ : ByteArray)) ++ t109) ++ (⟨#[58]⟩ : ByteArray)) ++ t110).size + 1 ≤ 9223372036854775807) = true := decide_eq_true c23
              try have c23b2 : (9223372036854775807 < (((((((((((t104 ++ (⟨#[44, 32]⟩ : ByteArray)) ++ t105) ++ (⟨#[32]⟩ : ByteArray)) ++ t106) ++ (⟨#[32]⟩ : ByteArray)) ++ t107) ++ t108) ++ (⟨#[32]⟩ : ByteArray)) ++ t109) ++ (⟨#[58]⟩ : ByteArray)) ++ t110).size + 1) = False := eq_false (Nat.not_lt.2 c23)
              try have c23n3 := by have z_ := c23b2; simp only [ByteArray.size_append', ByteArray.size_mk', List.size_toArray, List.length_cons, List.length_nil, Nat.zero_add, Nat.reduceAdd] at z_; exact z_
              obtain ⟨t111, A240, H⟩ := Option.bind_eq_some_iff.mp H
              try dsimp only at H
              have A24 := Aside0.mk A240
              clear A240
              by_cases c25 : ((((((((((((t104 ++ (⟨#[44, 32]⟩ : ByteArray)) ++ t105) ++ (⟨#[32]⟩ : ByteArray)) ++ t106) ++ (⟨#[32]⟩ : ByteArray)) ++ t107) ++ t108) ++ (⟨#[32]⟩ : ByteArray)) ++ t109) ++ (⟨#[58]⟩ : ByteArray)) ++ t110) ++ (⟨#[58]⟩ : ByteArray)).size + t111.size ≤ 9223372036854775807
              ·
               rw [if_pos c25] at H
               have c25b0 := eq_true c25
               have c25b1 : decide (((((((((((((t104 ++ (⟨#[44, 32]⟩ : ByteArray)) ++ t105) ++ (⟨#[32]⟩ : ByteArray)) ++ t106) ++ (⟨#[32]⟩ : ByteArray)) ++ t107) ++ t108) ++ (⟨#[32]⟩ : ByteArray)) ++ t109) ++ (⟨#[58]⟩ : ByteArray)) ++ t110) ++ (⟨#[58]⟩ : ByteArray)).size + t111.size ≤ 9223372036854775807) = true := decide_eq_true c25
               try have c25b2 : (9223372036854775807 < ((((((((((((t104 ++ (⟨#[44, 32]⟩ : ByteArray)) ++ t105) ++ (⟨#[32]⟩ : ByteArray)) ++ t106) ++ (⟨#[32]⟩ : ByteArray)) ++ t107) ++ t108) ++ (⟨#[32]⟩ : ByteArray)) ++ t109) ++ (⟨#[58]⟩ : ByteArray)) ++ t110) ++ (⟨#[58]⟩ : ByteArray)).size + t111.size) = False := eq_false (Nat.not_lt.2 c25)
               try have c25n3 := by have z_ := c25b2; simp only [ByteArray.size_append', ByteArray.size_mk', List.size_toArray, List.length_cons, List.length_nil, Nat.zero_add, Nat.reduceAdd] at z_; exact z_
               by_cases c26 : (((((((((((((t104 ++ (⟨#[44, 32]⟩ : ByteArray)) ++ t105) ++ (⟨#[32]⟩ : ByteArray)) ++ t106) ++ (⟨#[32]⟩ : ByteArray)) ++ t107) ++ t108) ++ (⟨#[32]⟩ : ByteArray)) ++ t109) ++ (⟨#[58]⟩ : ByteArray)) ++ t110) ++ (⟨#[58]⟩ : ByteArray)) ++ t111).size + 4 ≤ 9223372036854775807
               ·
                rw [if_pos c26] at H
                have c26b0 := eq_true c26
                have c26b1 : decide ((((((((((((((t104 ++ (⟨#[44, 32]⟩ : ByteArray)) ++ t105) ++ (⟨#[32]⟩ : ByteArray)) ++ t106) ++ (⟨#[32]⟩ : ByteArray)) ++ t107) ++ t108) ++ (⟨#[32]⟩ : ByteArray)) ++ t109) ++ (⟨#[58]⟩ : ByteArray)) ++ t110) ++ (⟨#[58]⟩ : ByteArray)) ++ t111).size + 4 ≤ 9223372036854775807) = true := decide_eq_true c26
                try have c26b2 : (9223372036854775807 < (((((((((((((t104 ++ (⟨#[44, 32]⟩ : ByteArray)) ++ t105) ++ (⟨#[32]⟩ : ByteArray)) ++ t106) ++ (⟨#[32]⟩ : ByteArray)) ++ t107) ++ t108) ++ (⟨#[32]⟩ : ByteArray)) ++ t109) ++ (⟨#[58]⟩ : ByteArray)) ++ t110) ++ (⟨#[58]⟩ : ByteArray)) ++ t111).size + 4) = False := eq_false (Nat.not_lt.2 c26)
                try have c26n3 := by have z_ := c26b2; simp only [ByteArray.size_append', ByteArray.size_mk', List.size_toArray, List.length_cons, List.length_nil, Nat.zero_add, Nat.reduceAdd] at z_; exact z_
                obtain rfl := Option.some.inj H
                go_enter Tryd.func18, Tryd.ntmps18
                try go_wp2_with (first | ((with_reducible refine gate_dst (N := 1) rfl ?_); refine bx 1 #[.int .i64 a0_0, .int .i64 a0_1, .int .i64 a0_2, .int .i64 a0_3, .int .i64 a0_4, .int .i64 a0_5] 34 ?_; intro gb101 hg w27 hbox hb; have BK101 := Aside0.mk (hbox); have GW101 := Aside0.mk (bz hg); have GE101 := Aside0.mk (bz hg); replace HB := Aside0.mk (below_step bh hb); clear hb hbox hg; obtain ⟨hcz28_0, hcz28_1, hcz28_2, hcz28_3, hcz28_4, hcz28_5⟩ := zcf6 BK101; obtain ⟨hfz28_0, hfz28_1, hfz28_2, hfz28_3, hfz28_4, hfz28_5⟩ := zff6 BK101) | ((with_reducible refine gate_callee (f := 19) rfl ?_); refine goesL_ (some 4) rfl rfl Tryd.func19 (by kernel_rfl) rfl #[.agg #[.int .i64 a0_0, .int .i64 a0_1, .int .i64 a0_2, .int .i64 a0_3, .int .i64 a0_4, .int .i64 a0_5]] rfl mc ?_; (with_reducible refine (spec_DateOk.calls a0_0 a0_1 a0_2 a0_3 a0_4 a0_5 true _ A2.out).mono ?_); rintro e w29 ⟨rfl, hb⟩; refine ⟨_, rfl, ?_⟩; replace BK101 := bkb_ BK101 hb; replace HB := Aside0.mk (below_step bh hb); (try clear hb); (try clear hb2); (try clear hk); (try clear hi)))
                replace BK101 := Aside0.mk (blk_drew BK101.out)
                replace HB := Aside0.mk (below_drew1 HB.out)
                refine start_ (n := 40) (S := fun w' => w'.cell? ⟨gb101, 0, none⟩ = some (.int .i64 a0_0) ∧ w'.cell? ⟨gb101, 1, none⟩ = some (.int .i64 a0_1) ∧ w'.cell? ⟨gb101, 2, none⟩ = some (.int .i64 a0_2) ∧ w'.cell? ⟨gb101, 3, none⟩ = some (.int .i64 a0_3) ∧ w'.cell? ⟨gb101, 4, none⟩ = some (.int .i64 a0_4) ∧ w'.cell? ⟨gb101, 5, none⟩ = some (.int .i64 a0_5)) (ds := []) #[false, false, false, false, false, false, false, false, false, false, false, false, false, false, false, false, false, false, false, false, false, false, false, false, false, false, false, false, false, false, false, false, false, false, false, false, false, false, false, false] (by kernel_rfl) rfl rfl ⟨bc BK101 0, bc BK101 1, bc BK101 2, bc BK101 3, bc BK101 4, bc BK101 5⟩ (fun hHeld => ?_); refine with_tabW spec_ShowDate.tab3 spec_ShowDate.bits3 (fun HT_ HW_ => ?_)
                generalize w29.drew = w30 at BK101 HB hHeld ⊢
                refine pu 4 10 #[false, false, false, false, true, false, false, false, false, false, false, false, false, false, false, false, false, false, false, false, false, false, false, false, false, false, false, false, false, false, false, false, false, false, false, false, false, false, false, false] HT_ ?_
                refine pu 9 15 #[false, false, false, false, true, false, false, false, false, true, false, false, false, false, false, false, false, false, false, false, false, false, false, false, false, false, false, false, false, false, false, false, false, false, false, false, false, false, false, false] HT_ ?_
                refine pu 14 20 #[false, false, false, false, true, false, false, false, false, true, false, false, false, false, true, false, false, false, false, false, false, false, false, false, false, false, false, false, false, false, false, false, false, false, false, false, false, false, false, false] HT_ ?_
                refine pu 19 25 #[false, false, false, false, true, false, false, false, false, true, false, false, false, false, true, false, false, false, false, true, false, false, false, false, false, false, false, false, false, false, false, false, false, false, false, false, false, false, false, false] HT_ ?_
                refine pu 24 30 #[false, false, false, false, true, false, false, false, false, true, false, false, false, false, true, false, false, false, false, true, false, false, false, false, true, false, false, false, false, false, false, false, false, false, false, false, false, false, false, false] HT_ ?_
                refine pu 29 35 #[false, false, false, false, true, false, false, false, false, true, false, false, false, false, true, false, false, false, false, true, false, false, false, false, true, false, false, false, false, true, false, false, false, false, false, false, false, false, false, false] HT_ ?_
                refine pu 34 40 #[false, false, false, false, true, false, false, false, false, true, false, false, false, false, true, false, false, false, false, true, false, false, false, false, true, false, false, false, false, true, false, false, false, false, true, false, false, false, false, false] HT_ ?_
                refine tk 0 6 #[true, false, false, false, true, false, false, false, false, true, false, false, false, false, true, false, false, false, false, true, false, false, false, false, true, false, false, false, false, true, false, false, false, false, true, false, false, false, false, false] HT_ HW_ hHeld ?_
                refine tk 5 11 #[true, false, false, false, true, true, false, false, false, true, false, false, false, false, true, false, false, false, false, true, false, false, false, false, true, false, false, false, false, true, false, false, false, false, true, false, false, false, false, false] HT_ HW_ hHeld ?_
                refine tk 10 16 #[true, false, false, false, true, true, false, false, false, true, true, false, false, false, true, false, false, false, false, true, false, false, false, false, true, false, false, false, false, true, false, false, false, false, true, false, false, false, false, false] HT_ HW_ hHeld ?_
                refine tk 15 21 #[true, false, false, false, true, true, false, false, false, true, true, false, false, false, true, true, false, false, false, true, false, false, false, false, true, false, false, false, false, true, false, false, false, false, true, false, false, false, false, false] HT_ HW_ hHeld ?_
                refine pu 16 22 #[true, false, false, false, true, true, false, false, false, true, true, false, false, false, true, true, true, false, false, true, false, false, false, false, true, false, false, false, false, true, false, false, false, false, true, false, false, false, false, false] HT_ ?_
                refine tk 20 26 #[true, false, false, false, true, true, false, false, false, true, true, false, false, false, true, true, true, false, false, true, true, false, false, false, true, false, false, false, false, true, false, false, false, false, true, false, false, false, false, false] HT_ HW_ hHeld ?_
                refine tk 25 31 #[true, false, false, false, true, true, false, false, false, true, true, false, false, false, true, true, true, false, false, true, true, false, false, false, true, true, false, false, false, true, false, false, false, false, true, false, false, false, false, false] HT_ HW_ hHeld ?_
                refine tk 30 36 #[true, false, false, false, true, true, false, false, false, true, true, false, false, false, true, true, true, false, false, true, true, false, false, false, true, true, false, false, false, true, true, false, false, false, true, false, false, false, false, false] HT_ HW_ hHeld ?_
                refine tk 35 41 #[true, false, false, false, true, true, false, false, false, true, true, false, false, false, true, true, true, false, false, true, true, false, false, false, true, true, false, false, false, true, true, false, false, false, true, true, false, false, false, false] HT_ HW_ hHeld ?_
                refine onx 1 7 #[true, true, false, false, true, true, false, false, false, true, true, false, false, false, true, true, true, false, false, true, true, false, false, false, true, true, false, false, false, true, true, false, false, false, true, true, false, false, false, false] HT_ (fun K hK => ?_)
                refine gs Tryd.func44 #[.agg #[.int .i64 a0_0, .int .i64 a0_1, .int .i64 a0_2, .int .i64 a0_3, .int .i64 a0_4, .int .i64 a0_5]] ?_
                with_reducible refine (spec_Weekday.calls k a0_0 a0_1 a0_2 a0_3 a0_4 a0_5 t103 _ A4.out).mono ?_
                rintro e w31 ⟨rfl, hb⟩
                refine ⟨_, rfl, ?_⟩
                replace BK101 := bkb_ BK101 hb
                replace HB := Aside0.mk (below_step bh hb)
                (try clear hb)
                (try clear hb2)
                (try clear hk)
                (try clear hi)
                refine hK.out _ _ ⟨bc BK101 0, bc BK101 1, bc BK101 2, bc BK101 3, bc BK101 4, bc BK101 5⟩ (fun hHeld => ?_)
                clear hK K
                refine nm 7 ?_
                refine onx 2 8 #[true, true, true, false, true, true, false, false, false, true, true, false, false, false, true, true, true, false, false, true, true, false, false, false, true, true, false, false, false, true, true, false, false, false, true, true, false, false, false, false] HT_ (fun K hK => ?_)
                refine gs Tryd.func43 #[.int .i64 t103] ?_
                with_reducible refine (spec_l2DayName.calls t103 t104 _ A5.out).mono ?_
                rintro e w' ⟨rfl, ⟨nd, rfl⟩⟩
                refine ⟨_, rfl, ?_⟩
                refine hK.out _ _ ⟨bc BK101 0, bc BK101 1, bc BK101 2, bc BK101 3, bc BK101 4, bc BK101 5⟩ (fun hHeld => ?_)
                clear hK K
                refine nm 8 ?_
                refine pu 3 9 #[true, true, true, true, true, true, false, false, false, true, true, false, false, false, true, true, true, false, false, true, true, false, false, false, true, true, false, false, false, true, true, false, false, false, true, true, false, false, false, false] HT_ ?_
                refine onx 6 12 #[true, true, true, true, true, true, true, false, false, true, true, false, false, false, true, true, true, false, false, true, true, false, false, false, true, true, false, false, false, true, true, false, false, false, true, true, false, false, false, false] HT_ (fun K hK => ?_)
                refine gs Tryd.func45 #[.int .i64 a0_2] ?_
                with_reducible refine (spec_l2Two.calls a0_2 t105 _ A7.out).mono ?_
                rintro e w32 ⟨rfl, hb⟩
                refine ⟨_, rfl, ?_⟩
                replace BK101 := bkb_ BK101 hb
                replace HB := Aside0.mk (below_step bh hb)
                (try clear hb)
                (try clear hb2)
                (try clear hk)
                (try clear hi)
                refine hK.out _ _ ⟨bc BK101 0, bc BK101 1, bc BK101 2, bc BK101 3, bc BK101 4, bc BK101 5⟩ (fun hHeld => ?_)
                clear hK K
                refine nm 12 ?_
                refine pu 7 13 #[true, true, true, true, true, true, true, true, false, true, true, false, false, false, true, true, true, false, false, true, true, false, false, false, true, true, false, false, false, true, true, false, false, false, true, true, false, false, false, false] HT_ ?_
                refine pu 8 14 #[true, true, true, true, true, true, true, true, true, true, true, false, false, false, true, true, true, false, false, true, true, false, false, false, true, true, false, false, false, true, true, false, false, false, true, true, false, false, false, false] HT_ ?_
                refine onx 11 17 #[true, true, true, true, true, true, true, true, true, true, true, true, false, false, true, true, true, false, false, true, true, false, false, false, true, true, false, false, false, true, true, false, false, false, true, true, false, false, false, false] HT_ (fun K hK => ?_)
                refine gs Tryd.func46 #[.int .i64 a0_1] ?_
                with_reducible refine (spec_l2MonthName.calls a0_1 t106 _ A10.out).mono ?_
                rintro e w' ⟨rfl, ⟨nd, rfl⟩⟩
                refine ⟨_, rfl, ?_⟩
                refine hK.out _ _ ⟨bc BK101 0, bc BK101 1, bc BK101 2, bc BK101 3, bc BK101 4, bc BK101 5⟩ (fun hHeld => ?_)
                clear hK K
                refine nm 17 ?_
                refine pu 12 18 #[true, true, true, true, true, true, true, true, true, true, true, true, true, false, true, true, true, false, false, true, true, false, false, false, true, true, false, false, false, true, true, false, false, false, true, true, false, false, false, false] HT_ ?_
                refine pu 13 19 #[true, true, true, true, true, true, true, true, true, true, true, true, true, true, true, true, true, false, false, true, true, false, false, false, true, true, false, false, false, true, true, false, false, false, true, true, false, false, false, false] HT_ ?_
                refine onx 17 23 #[true, true, true, true, true, true, true, true, true, true, true, true, true, true, true, true, true, true, false, true, true, false, false, false, true, true, false, false, false, true, true, false, false, false, true, true, false, false, false, false] HT_ (fun K hK => ?_)
                refine gs Tryd.func45 #[.int .i64 (wrap64 (Int.tdiv a0_0 100))] ?_
                with_reducible refine (spec_l2Two.calls (wrap64 (Int.tdiv a0_0 100)) t107 _ A13.out).mono ?_
                rintro e w33 ⟨rfl, hb⟩
                refine ⟨_, rfl, ?_⟩
                replace BK101 := bkb_ BK101 hb
                replace HB := Aside0.mk (below_step bh hb)
                (try clear hb)
                (try clear hb2)
                (try clear hk)
                (try clear hi)
                refine hK.out _ _ ⟨bc BK101 0, bc BK101 1, bc BK101 2, bc BK101 3, bc BK101 4, bc BK101 5⟩ (fun hHeld => ?_)
                clear hK K
                refine nm 23 ?_
                refine pu 18 24 #[true, true, true, true, true, true, true, true, true, true, true, true, true, true, true, true, true, true, true, true, true, false, false, false, true, true, false, false, false, true, true, false, false, false, true, true, false, false, false, false] HT_ ?_
                refine onx 21 27 #[true, true, true, true, true, true, true, true, true, true, true, true, true, true, true, true, true, true, true, true, true, true, false, false, true, true, false, false, false, true, true, false, false, false, true, true, false, false, false, false] HT_ (fun K hK => ?_)
                refine gs Tryd.func45 #[.int .i64 a0_0] ?_
                with_reducible refine (spec_l2Two.calls a0_0 t108 _ A15.out).mono ?_
                rintro e w34 ⟨rfl, hb⟩
                refine ⟨_, rfl, ?_⟩
                replace BK101 := bkb_ BK101 hb
                replace HB := Aside0.mk (below_step bh hb)
                (try clear hb)
                (try clear hb2)
                (try clear hk)
                (try clear hi)
                refine hK.out _ _ ⟨bc BK101 0, bc BK101 1, bc BK101 2, bc BK101 3, bc BK101 4, bc BK101 5⟩ (fun hHeld => ?_)
                clear hK K
                refine nm 27 ?_
                refine pu 22 28 #[true, true, true, true, true, true, true, true, true, true, true, true, true, true, true, true, true, true, true, true, true, true, true, false, true, true, false, false, false, true, true, false, false, false, true, true, false, false, false, false] HT_ ?_
                refine pu 23 29 #[true, true, true, true, true, true, true, true, true, true, true, true, true, true, true, true, true, true, true, true, true, true, true, true, true, true, false, false, false, true, true, false, false, false, true, true, false, false, false, false] HT_ ?_
                refine onx 26 32 #[true, true, true, true, true, true, true, true, true, true, true, true, true, true, true, true, true, true, true, true, true, true, true, true, true, true, true, false, false, true, true, false, false, false, true, true, false, false, false, false] HT_ (fun K hK => ?_)
                refine gs Tryd.func45 #[.int .i64 a0_3] ?_
                with_reducible refine (spec_l2Two.calls a0_3 t109 _ A18.out).mono ?_
                rintro e w35 ⟨rfl, hb⟩
                refine ⟨_, rfl, ?_⟩
                replace BK101 := bkb_ BK101 hb
                replace HB := Aside0.mk (below_step bh hb)
                (try clear hb)
                (try clear hb2)
                (try clear hk)
                (try clear hi)
                refine hK.out _ _ ⟨bc BK101 0, bc BK101 1, bc BK101 2, bc BK101 3, bc BK101 4, bc BK101 5⟩ (fun hHeld => ?_)
                clear hK K
                refine nm 32 ?_
                refine pu 27 33 #[true, true, true, true, true, true, true, true, true, true, true, true, true, true, true, true, true, true, true, true, true, true, true, true, true, true, true, true, false, true, true, false, false, false, true, true, false, false, false, false] HT_ ?_
                refine pu 28 34 #[true, true, true, true, true, true, true, true, true, true, true, true, true, true, true, true, true, true, true, true, true, true, true, true, true, true, true, true, true, true, true, false, false, false, true, true, false, false, false, false] HT_ ?_
                refine onx 31 37 #[true, true, true, true, true, true, true, true, true, true, true, true, true, true, true, true, true, true, true, true, true, true, true, true, true, true, true, true, true, true, true, true, false, false, true, true, false, false, false, false] HT_ (fun K hK => ?_)
                refine gs Tryd.func45 #[.int .i64 a0_4] ?_
                with_reducible refine (spec_l2Two.calls a0_4 t110 _ A21.out).mono ?_
                rintro e w36 ⟨rfl, hb⟩
                refine ⟨_, rfl, ?_⟩
                replace BK101 := bkb_ BK101 hb
                replace HB := Aside0.mk (below_step bh hb)
                (try clear hb)
                (try clear hb2)
                (try clear hk)
                (try clear hi)
                refine hK.out _ _ ⟨bc BK101 0, bc BK101 1, bc BK101 2, bc BK101 3, bc BK101 4, bc BK101 5⟩ (fun hHeld => ?_)
                clear hK K
                refine nm 37 ?_
                refine pu 32 38 #[true, true, true, true, true, true, true, true, true, true, true, true, true, true, true, true, true, true, true, true, true, true, true, true, true, true, true, true, true, true, true, true, true, false, true, true, false, false, false, false] HT_ ?_
                refine pu 33 39 #[true, true, true, true, true, true, true, true, true, true, true, true, true, true, true, true, true, true, true, true, true, true, true, true, true, true, true, true, true, true, true, true, true, true, true, true, false, false, false, false] HT_ ?_
                refine onx 36 42 #[true, true, true, true, true, true, true, true, true, true, true, true, true, true, true, true, true, true, true, true, true, true, true, true, true, true, true, true, true, true, true, true, true, true, true, true, true, false, false, false] HT_ (fun K hK => ?_)
                refine gs Tryd.func45 #[.int .i64 a0_5] ?_
                with_reducible refine (spec_l2Two.calls a0_5 t111 _ A24.out).mono ?_
                rintro e w37 ⟨rfl, hb⟩
                refine ⟨_, rfl, ?_⟩
                replace BK101 := bkb_ BK101 hb
                replace HB := Aside0.mk (below_step bh hb)
                (try clear hb)
                (try clear hb2)
                (try clear hk)
                (try clear hi)
                refine hK.out _ _ ⟨bc BK101 0, bc BK101 1, bc BK101 2, bc BK101 3, bc BK101 4, bc BK101 5⟩ (fun hHeld => ?_)
                clear hK K
                refine nm 42 ?_
                refine pu 37 43 #[true, true, true, true, true, true, true, true, true, true, true, true, true, true, true, true, true, true, true, true, true, true, true, true, true, true, true, true, true, true, true, true, true, true, true, true, true, true, false, false] HT_ ?_
                refine pu 38 44 #[true, true, true, true, true, true, true, true, true, true, true, true, true, true, true, true, true, true, true, true, true, true, true, true, true, true, true, true, true, true, true, true, true, true, true, true, true, true, true, false] HT_ ?_
                refine pu 39 2 #[true, true, true, true, true, true, true, true, true, true, true, true, true, true, true, true, true, true, true, true, true, true, true, true, true, true, true, true, true, true, true, true, true, true, true, true, true, true, true, true] HT_ ?_
                refine dn HT_ ?_
                try go_wp2
                go_ret
                exact ⟨er, bh⟩
               ·
                rw [if_neg c26] at H
                exact absurd H (by simp)
              ·
               rw [if_neg c25] at H
               exact absurd H (by simp)
             ·
              rw [if_neg c23] at H
              exact absurd H (by simp)
            ·
             rw [if_neg c22] at H
             exact absurd H (by simp)
           ·
            rw [if_neg c20] at H
            exact absurd H (by simp)
          ·
           rw [if_neg c19] at H
           exact absurd H (by simp)
         ·
          rw [if_neg c17] at H
          exact absurd H (by simp)
        ·
         rw [if_neg c16] at H
         exact absurd H (by simp)
       ·
        rw [if_neg c14] at H
        exact absurd H (by simp)
      ·
       rw [if_neg c12] at H
       exact absurd H (by simp)
     ·
      rw [if_neg c11] at H
      exact absurd H (by simp)
    ·
     rw [if_neg c9] at H
     exact absurd H (by simp)
   ·
    rw [if_neg c8] at H
    exact absurd H (by simp)
  ·
   rw [if_neg c6] at H
   exact absurd H (by simp)
 ·
  replace c3 := Bool.eq_false_iff.mpr c3
  subst c3
  have H1 : (some (⟨#[]⟩ : ByteArray)) = some r := by rw [if_neg (show ¬ (false = true) by decide)] at H; exact H
  clear H
  have H := H1
  clear H1
  obtain rfl := Option.some.inj H
  go_enter Tryd.func18, Tryd.ntmps18
  go_wp2_with (first | ((with_reducible refine gate_dst (N := 1) rfl ?_); refine bx 1 #[.int .i64 a0_0, .int .i64 a0_1, .int .i64 a0_2, .int .i64 a0_3, .int .i64 a0_4, .int .i64 a0_5] 34 ?_; intro gb101 hg w38 hbox hb; have BK101 := Aside0.mk (hbox); have GW101 := Aside0.mk (bz hg); have GE101 := Aside0.mk (bz hg); replace HB := Aside0.mk (below_step bh hb); clear hb hbox hg; obtain ⟨hcz39_0, hcz39_1, hcz39_2, hcz39_3, hcz39_4, hcz39_5⟩ := zcf6 BK101; obtain ⟨hfz39_0, hfz39_1, hfz39_2, hfz39_3, hfz39_4, hfz39_5⟩ := zff6 BK101) | ((with_reducible refine gate_callee (f := 19) rfl ?_); refine goesL_ (some 4) rfl rfl Tryd.func19 (by kernel_rfl) rfl #[.agg #[.int .i64 a0_0, .int .i64 a0_1, .int .i64 a0_2, .int .i64 a0_3, .int .i64 a0_4, .int .i64 a0_5]] rfl mc ?_; (with_reducible refine (spec_DateOk.calls a0_0 a0_1 a0_2 a0_3 a0_4 a0_5 false _ A2.out).mono ?_); rintro e w40 ⟨rfl, hb⟩; refine ⟨_, rfl, ?_⟩; replace BK101 := bkb_ BK101 hb; replace HB := Aside0.mk (below_step bh hb); (try clear hb); (try clear hb2); (try clear hk); (try clear hi)))
  go_ret
  exact ⟨er, bh⟩

end Go.Proofs.YtkaknffeoeoajaaDoor.P
