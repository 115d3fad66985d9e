/- Functions of the Go program as Lean functions, and proofs that each Go function comes to its Lean function's answers; conditions: those that each theorem states. Written by this session's program hprint.py, which drives the kit's printer. -/
import Derived.Test.YtkaknffeoeoajaaDoorP0
import Derived.Test.YtkaknffeoeoajaaDoorPspecDigits
import Derived.Test.YtkaknffeoeoajaaDoorPspecShowDate
import Derived.Test.YtkaknffeoeoajaaDoorPspecl2MonthName
import Derived.Test.YtkaknffeoeoajaaDoorXA
namespace Go.Proofs.YtkaknffeoeoajaaDoor.P
open Go.RowKit Go.Proofs.YtkaknffeoeoajaaDoorW.PrintWords Go.Proofs.YtkaknffeoeoajaaDoorW.PrintLast Go.Proofs.YtkaknffeoeoajaaDoorW.PrintMore
attribute [local go_sem] max2_int min2_int max_two min_two max_three min_three max_four min_four   -- for this text's walks alone
set_option linter.unusedVariables false
set_option linter.unusedSimpArgs false

/-! ### spec_ReadDate: function 23 -/
abbrev spec_ReadDate.d0 : Array Bool := #[false, false, false, false, false, false, false, false, false, false]
abbrev spec_ReadDate.d1 : Array Bool := #[true, false, false, false, false, false, false, false, false, false]
abbrev spec_ReadDate.d2 : Array Bool := #[true, true, false, false, false, false, false, false, false, false]
abbrev spec_ReadDate.d3 : Array Bool := #[true, true, false, false, true, false, false, false, false, false]
abbrev spec_ReadDate.d4 : Array Bool := #[true, true, false, false, true, true, false, false, false, false]
abbrev spec_ReadDate.d5 : Array Bool := #[true, true, true, false, true, true, false, false, false, false]
abbrev spec_ReadDate.d6 : Array Bool := #[true, true, true, true, true, true, false, false, false, false]
abbrev spec_ReadDate.d7 : Array Bool := #[true, true, true, true, true, true, true, false, false, false]
abbrev spec_ReadDate.d8 : Array Bool := #[true, true, true, true, true, true, true, true, false, false]
abbrev spec_ReadDate.d9 : Array Bool := #[true, true, true, true, true, true, true, true, true, false]
abbrev spec_ReadDate.d10 : Array Bool := #[true, true, true, true, true, true, true, true, true, true]
mutual
def spec_ReadDate.l0 : Nat → ByteArray → Int → Int → Int → Int → Int → Int → Int → Option (Int × Int × Int × Int × Int × Int × Bool)
 | 0, _, _, _, _, _, _, _, _ => none
 | k + 1, x0, x5, x103000, x103001, x103002, x103003, x103004, x103005 => if x5 < 13 then ((spec_l2MonthName.f x5).bind fun t103 => (if 8 ≤ 11 then (if 11 ≤ (x0.size : Int) then (if t103.toList = (x0.extract 8 11).toList then (spec_ReadDate.l0 k x0 (wrap64 (x5 + 1)) x103000 x5 x103002 x103003 x103004 x103005) else (spec_ReadDate.l0 k x0 (wrap64 (x5 + 1)) x103000 x103001 x103002 x103003 x103004 x103005)) else (none)) else (none))) else ((some (([5, 12, 14, 17, 20, 23] : List Int) : List Int)).bind fun y107 => (spec_ReadDate.l1 k x0 (([] : List Int)) y107 (y107.length : Int) 0 x103000 x103001 x103002 x103003 x103004 x103005))
def spec_ReadDate.l1 : Nat → ByteArray → List Int → List Int → Int → Int → Int → Int → Int → Int → Int → Int → Option (Int × Int × Int × Int × Int × Int × Bool)
 | 0, _, _, _, _, _, _, _, _, _, _, _ => none
 | k + 1, x0, x6, x28, x29, x30, x103000, x103001, x103002, x103003, x103004, x103005 => if x30 < x29 then (if 0 ≤ x30 then (if x30 < (x28.length : Int) then (if 0 ≤ (rd x28 x30) then (if (rd x28 x30) ≤ (wrap64 ((rd x28 x30) + 2)) then (if (wrap64 ((rd x28 x30) + 2)) ≤ (x0.size : Int) then ((spec_Digits.f k (x0.extract ((rd x28 x30) : Int).toNat ((wrap64 ((rd x28 x30) + 2)) : Int).toNat)).bind fun bt111 => (if x6.length < 17592186044416 then (spec_ReadDate.l1 k x0 (x6 ++ [bt111.1]) x28 x29 (wrap64 (x30 + 1)) x103000 x103001 x103002 x103003 x103004 x103005) else (none))) else (none)) else (none)) else (none)) else (none)) else (none)) else (if 0 < (x6.length : Int) then (if 1 < (x6.length : Int) then (if 2 < (x6.length : Int) then (if 3 < (x6.length : Int) then (if 4 < (x6.length : Int) then (if 5 < (x6.length : Int) then ((spec_ShowDate.f k (wrap64 ((wrap64 (100 * (rd x6 1))) + (rd x6 2))) x103001 (rd x6 0) (rd x6 3) (rd x6 4) (rd x6 5)).bind fun t122 => (if t122.toList = x0.toList then (some (wrap64 ((wrap64 (100 * (rd x6 1))) + (rd x6 2)), x103001, rd x6 0, rd x6 3, rd x6 4, rd x6 5, true)) else (some (0, 0, 0, 0, 0, 0, false)))) else (none)) else (none)) else (none)) else (none)) else (none)) else (none))
end
def spec_ReadDate.f (k : Nat) (a0 : ByteArray) : Option (Int × Int × Int × Int × Int × Int × Bool) := if (a0.size : Int) = 29 then (spec_ReadDate.l0 k a0 1 0 0 0 0 0 0) else (some (0, 0, 0, 0, 0, 0, false))
theorem spec_ReadDate.mono_l : ∀ k, (∀ y0 y1 y2 y3 y4 y5 y6 y7, LeO (spec_ReadDate.l0 k y0 y1 y2 y3 y4 y5 y6 y7) (spec_ReadDate.l0 (k + 1) y0 y1 y2 y3 y4 y5 y6 y7)) ∧ (∀ y0 y1 y2 y3 y4 y5 y6 y7 y8 y9 y10, LeO (spec_ReadDate.l1 k y0 y1 y2 y3 y4 y5 y6 y7 y8 y9 y10) (spec_ReadDate.l1 (k + 1) y0 y1 y2 y3 y4 y5 y6 y7 y8 y9 y10))
 | 0 => ⟨fun _ _ _ _ _ _ _ _ r h => by simp [spec_ReadDate.l0] at h, fun _ _ _ _ _ _ _ _ _ _ _ r h => by simp [spec_ReadDate.l1] at h⟩
 | k + 1 => by
  obtain ⟨ih0, ih1⟩ := spec_ReadDate.mono_l k
  refine ⟨?_, ?_⟩
  ·
   intro y0 y1 y2 y3 y4 y5 y6 y7
   unfold spec_ReadDate.l0
   repeat' first
   | (with_reducible exact ih0 _ _ _ _ _ _ _ _)
   | (with_reducible exact ih1 _ _ _ _ _ _ _ _ _ _ _)
   | (with_reducible exact spec_Digits.mono _ _)
   | (with_reducible exact spec_ShowDate.mono _ _ _ _ _ _ _)
   | (with_reducible exact LeO.refl _)
   | (with_reducible exact LeO.none _)
   | (with_reducible refine LeO.ite ?_ ?_)
   | (with_reducible refine LeO.bind ?_ (fun _ => ?_))
   | exact ih0 _ _ _ _ _ _ _ _
   | exact ih1 _ _ _ _ _ _ _ _ _ _ _
   | exact spec_Digits.mono _ _
   | exact spec_ShowDate.mono _ _ _ _ _ _ _
   | exact LeO.none _
   | refine LeO.ite ?_ ?_
   | refine LeO.bind ?_ (fun _ => ?_)
  ·
   intro y0 y1 y2 y3 y4 y5 y6 y7 y8 y9 y10
   unfold spec_ReadDate.l1
   repeat' first
   | (with_reducible exact ih0 _ _ _ _ _ _ _ _)
   | (with_reducible exact ih1 _ _ _ _ _ _ _ _ _ _ _)
   | (with_reducible exact spec_Digits.mono _ _)
   | (with_reducible exact spec_ShowDate.mono _ _ _ _ _ _ _)
   | (with_reducible exact LeO.refl _)
   | (with_reducible exact LeO.none _)
   | (with_reducible refine LeO.ite ?_ ?_)
   | (with_reducible refine LeO.bind ?_ (fun _ => ?_))
   | exact ih0 _ _ _ _ _ _ _ _
   | exact ih1 _ _ _ _ _ _ _ _ _ _ _
   | exact spec_Digits.mono _ _
   | exact spec_ShowDate.mono _ _ _ _ _ _ _
   | exact LeO.none _
   | refine LeO.ite ?_ ?_
   | refine LeO.bind ?_ (fun _ => ?_)
theorem spec_ReadDate.mono : ∀ a0 k, LeO (spec_ReadDate.f k a0) (spec_ReadDate.f (k + 1) a0) := by
 intro a0 k
 obtain ⟨ih0, ih1⟩ := spec_ReadDate.mono_l k
 unfold spec_ReadDate.f
 repeat' first
   | (with_reducible exact ih0 _ _ _ _ _ _ _ _)
   | (with_reducible exact ih1 _ _ _ _ _ _ _ _ _ _ _)
   | (with_reducible exact spec_Digits.mono _ _)
   | (with_reducible exact spec_ShowDate.mono _ _ _ _ _ _ _)
   | (with_reducible exact LeO.refl _)
   | (with_reducible exact LeO.none _)
   | (with_reducible refine LeO.ite ?_ ?_)
   | (with_reducible refine LeO.bind ?_ (fun _ => ?_))
   | exact ih0 _ _ _ _ _ _ _ _
   | exact ih1 _ _ _ _ _ _ _ _ _ _ _
   | exact spec_Digits.mono _ _
   | exact spec_ShowDate.mono _ _ _ _ _ _ _
   | exact LeO.none _
   | refine LeO.ite ?_ ?_
   | refine LeO.bind ?_ (fun _ => ?_)
def spec_ReadDate.T17 : Bool × List (List Nat × List Nat) := (true, [([], []), ([0], [0]), ([1], [1]), ([2], [2]), ([], []), ([4], [4]), ([5], [5]), ([3, 6], [3, 6]), ([0, 1, 2, 3, 4, 5, 6, 7], []), ([8, 7, 0, 1, 2, 3, 4, 5, 6, 7], [7, 8])])
def spec_ReadDate.B17 : List Nat := [0, 1, 3, 7, 0, 16, 48, 127, 255, 511]
theorem spec_ReadDate.tab17 : rtab .any (opsOf Tryd.f23 17) = spec_ReadDate.T17 := by kernel_rfl
theorem spec_ReadDate.bits17 : waitsOk spec_ReadDate.T17.2 spec_ReadDate.B17 = true := by kernel_rfl
set_option maxHeartbeats 8000000 in
set_option maxRecDepth 100000 in
theorem spec_ReadDate.calls (k : Nat) (a0 : ByteArray) (r1 : Int) (r2 : Int) (r3 : Int) (r4 : Int) (r5 : Int) (r6 : Int) (r7 : Bool) (w : World) (h : spec_ReadDate.f k a0 = some (r1, r2, r3, r4, r5, r6, r7)) :
  Calls Tryd.prog 23 #[.string a0] w fun e w' => e = .returned (.tuple #[.agg #[.int .i64 r1, .int .i64 r2, .int .i64 r3, .int .i64 r4, .int .i64 r5, .int .i64 r6], .bool r7]) ∧ Below w.heap.size w w' := by
 have hu34 := Tryd.underlying34
 have HB := Aside0.mk (Below.refl w.heap.size w)
 have H : (if (a0.size : Int) = 29 then (spec_ReadDate.l0 k a0 1 0 0 0 0 0 0) else (some (0, 0, 0, 0, 0, 0, false))) = some (r1, r2, r3, r4, r5, r6, r7) := h
 clear h
 by_cases c2 : (a0.size : Int) = 29
 ·
  rw [if_pos c2] at H
  have c2b0 : ((a0.size : Int) == 29) = true := beq_iff_eq.mpr c2
  have c2b1 : ((a0.size : Int) != 29) = false := bne_eq_false_iff_eq.mpr c2
  clear c2
  have H' := Aside0.mk H
  clear H
  go_enter Tryd.func23, Tryd.ntmps23
  go_wp2_with (first | ((with_reducible refine gate_dst (N := 2) rfl ?_); refine bx 2 #[.int .i64 0, .int .i64 0, .int .i64 0, .int .i64 0, .int .i64 0, .int .i64 0] 34 ?_; intro gb101 hg w3 hbox hb; have BK101 := Aside0.mk (hbox); have GW101 := Aside0.mk (bz hg); have GE101 := Aside0.mk (bz hg); replace HB := Aside0.mk (below_step bh hb); clear hb hbox hg) | ((with_reducible refine gate_dst (N := 4) rfl ?_); refine bx 4 #[.int .i64 0, .int .i64 0, .int .i64 0, .int .i64 0, .int .i64 0, .int .i64 0] 34 ?_; intro gb102 hg w4 hbox hb; have BK102 := Aside0.mk (hbox); have GW102 := Aside0.mk (bz hg); have GE102 := Aside0.mk (bz hg); have NB101_102 := Aside0.mk ((nl hg bk : gb101 ≠ gb102)); have NB102_101 := Aside0.mk ((ng hg bk : gb102 ≠ gb101)); replace BK101 := bkb_ BK101 hb; replace HB := Aside0.mk (below_step bh hb); clear hb hbox hg; have hnb5 := NB102_101.out; have hnc5 := NB101_102.out; obtain ⟨hcz6_0, hcz6_1, hcz6_2, hcz6_3, hcz6_4, hcz6_5⟩ := zcf6 BK102; obtain ⟨hfz6_0, hfz6_1, hfz6_2, hfz6_3, hfz6_4, hfz6_5⟩ := zff6 BK102))
  go_loopg [5] k (fun kq v5 w' => ∃ (x5_1 : Int) (x103001_1 : Int), v5 = .int .i64 x5_1 ∧ Aside0 (spec_ReadDate.l0 kq a0 x5_1 0 x103001_1 0 0 0 0 = some (r1, r2, r3, r4, r5, r6, r7)) ∧ Aside0 (kq ≤ k) ∧ Aside0 (w'.heap[gb101]? = some (.cells #[.int .i64 0, .int .i64 0, .int .i64 0, .int .i64 0, .int .i64 0, .int .i64 0] 34 (0, 0))) ∧ Aside0 (w'.heap[gb102]? = some (.cells #[.int .i64 0, .int .i64 x103001_1, .int .i64 0, .int .i64 0, .int .i64 0, .int .i64 0] 34 (0, 0))) ∧ Aside0 (Below w.heap.size w w'))
  case atStart => exact ⟨(1), (0), (by first | rfl | (simp; done) | (simp [*]; done)), H', ⟨Nat.le_refl _⟩, ⟨by (with_reducible repeat (first | refine blk_drewN ?_ _ | refine blk_drew ?_ | refine blk_alloc ?_ _)); refine blk_far ?_ NB101_102.out _; (with_reducible repeat (first | refine blk_drewN ?_ _ | refine blk_drew ?_ | refine blk_alloc ?_ _)); refine blk_far ?_ NB101_102.out _; (with_reducible repeat (first | refine blk_drewN ?_ _ | refine blk_drew ?_ | refine blk_alloc ?_ _)); refine blk_far ?_ NB101_102.out _; (with_reducible repeat (first | refine blk_drewN ?_ _ | refine blk_drew ?_ | refine blk_alloc ?_ _)); refine blk_far ?_ NB101_102.out _; (with_reducible repeat (first | refine blk_drewN ?_ _ | refine blk_drew ?_ | refine blk_alloc ?_ _)); refine blk_far ?_ NB101_102.out _; (with_reducible repeat (first | refine blk_drewN ?_ _ | refine blk_drew ?_ | refine blk_alloc ?_ _)); refine blk_far ?_ NB101_102.out _; (with_reducible repeat (first | refine blk_drewN ?_ _ | refine blk_drew ?_ | refine blk_alloc ?_ _)); exact BK101.out⟩, ⟨by (with_reducible repeat (first | refine blk_drewN ?_ _ | refine blk_drew ?_ | refine blk_alloc ?_ _)); refine blk_put (cs := #[.int .i64 0, .int .i64 0, .int .i64 0, .int .i64 0, .int .i64 0, .int .i64 0]) ?_ 5 _ rfl; (with_reducible repeat (first | refine blk_drewN ?_ _ | refine blk_drew ?_ | refine blk_alloc ?_ _)); refine blk_put (cs := #[.int .i64 0, .int .i64 0, .int .i64 0, .int .i64 0, .int .i64 0, .int .i64 0]) ?_ 4 _ rfl; (with_reducible repeat (first | refine blk_drewN ?_ _ | refine blk_drew ?_ | refine blk_alloc ?_ _)); refine blk_put (cs := #[.int .i64 0, .int .i64 0, .int .i64 0, .int .i64 0, .int .i64 0, .int .i64 0]) ?_ 3 _ rfl; (with_reducible repeat (first | refine blk_drewN ?_ _ | refine blk_drew ?_ | refine blk_alloc ?_ _)); refine blk_put (cs := #[.int .i64 0, .int .i64 0, .int .i64 0, .int .i64 0, .int .i64 0, .int .i64 0]) ?_ 2 _ rfl; (with_reducible repeat (first | refine blk_drewN ?_ _ | refine blk_drew ?_ | refine blk_alloc ?_ _)); refine blk_put (cs := #[.int .i64 0, .int .i64 0, .int .i64 0, .int .i64 0, .int .i64 0, .int .i64 0]) ?_ 1 _ rfl; (with_reducible repeat (first | refine blk_drewN ?_ _ | refine blk_drew ?_ | refine blk_alloc ?_ _)); refine blk_put (cs := #[.int .i64 0, .int .i64 0, .int .i64 0, .int .i64 0, .int .i64 0, .int .i64 0]) ?_ 0 _ rfl; (with_reducible repeat (first | refine blk_drewN ?_ _ | refine blk_drew ?_ | refine blk_alloc ?_ _)); exact BK102.out⟩, ⟨bh⟩⟩
  case round =>
   clear H'
   try clear c2
   try clear c2b0
   try clear c2b1
   try clear p2
   try clear c5
   try clear hcz6_0
   try clear hcz6_1
   try clear hcz6_2
   try clear hcz6_3
   try clear hcz6_4
   try clear hcz6_5
   try clear hfz6_0
   try clear hfz6_1
   try clear hfz6_2
   try clear hfz6_3
   try clear hfz6_4
   try clear hfz6_5
   obtain ⟨x5_1, x103001_1, rfl, HA, HK1, BK101, BK102, HB⟩ := hrel
   cases gk with
   | zero => exact absurd HA.out (by simp [spec_ReadDate.l0])
   | succ k1 =>
    have H := HA.out
    clear HA
    simp only [spec_ReadDate.l0] at H
    by_cases c7 : x5_1 < 13
    ·
     rw [if_pos c7] at H
     have c7b0 : decide (x5_1 < 13) = true := decide_eq_true c7
     clear c7
     obtain ⟨t103, A80, H⟩ := Option.bind_eq_some_iff.mp H
     try dsimp only at H
     have A8 := Aside0.mk A80
     clear A80
     by_cases c9 : 8 ≤ 11
     ·
      rw [if_pos c9] at H
      have c9b0 := eq_true c9
      have c9b1 : decide (8 ≤ 11) = true := decide_eq_true c9
      clear c9
      by_cases c10 : 11 ≤ (a0.size : Int)
      ·
       rw [if_pos c10] at H
       have c10b0 := eq_true c10
       have c10b1 : decide (11 ≤ (a0.size : Int)) = true := decide_eq_true c10
       clear c10
       by_cases c11 : t103.toList = (a0.extract 8 11).toList
       ·
        rw [if_pos c11] at H
        have c11b0 : (t103.toList == (a0.extract 8 11).toList) = true := beq_iff_eq.mpr c11
        have c11b1 : (t103.toList != (a0.extract 8 11).toList) = false := bne_eq_false_iff_eq.mpr c11
        clear c11
        have H' := Aside0.mk H
        clear H
        try go_wp2
        replace BK101 := Aside0.mk (blk_drew BK101.out)
        replace BK102 := Aside0.mk (blk_drew BK102.out)
        replace HB := Aside0.mk (below_drew1 HB.out)
        refine start_ (n := 5) (S := fun w' => True) (ds := []) #[false, false, false, false, false] (by kernel_rfl) rfl rfl trivial (fun hHeld => ?_)
        generalize wr.drew = w12 at BK101 BK102 HB hHeld ⊢
        refine pure_ (i := 0) (N := some 20) (v := ?_) (a' := ?_) #[true, false, false, false, false] rfl rfl (by kernel_rfl) (fun _ _ _ h => h) (Or.inl ⟨by rfl, ?_⟩) ?_ ?_
        rotate_left
        ·
         intro w'
         go_simp
         with_reducible rfl
        rotate_left
        ·
         simp only [Act.put, List.setIfInBounds_toArray, List.set_cons_zero, List.set_cons_succ, i64_w, i32_w]
         rfl
        refine pure_ (i := 2) (N := some 22) (v := ?_) (a' := ?_) #[true, false, true, false, false] rfl rfl (by kernel_rfl) (fun _ _ _ h => h) (Or.inl ⟨by rfl, ?_⟩) ?_ ?_
        rotate_left
        ·
         intro w'
         go_simp
         with_reducible rfl
        rotate_left
        ·
         simp only [Act.put, List.setIfInBounds_toArray, List.set_cons_zero, List.set_cons_succ, i64_w, i32_w]
         rfl
        refine pure_ (i := 3) (N := some 23) (v := ?_) (a' := ?_) #[true, false, true, true, false] rfl rfl (by kernel_rfl) (fun _ _ _ h => h) (Or.inl ⟨by rfl, ?_⟩) ?_ ?_
        rotate_left
        ·
         intro w'
         go_simp
         with_reducible rfl
        rotate_left
        ·
         simp only [Act.put, List.setIfInBounds_toArray, List.set_cons_zero, List.set_cons_succ, i64_w, i32_w]
         rfl
        refine one_ (i := 1) (N := some 21) #[true, true, true, true, false] rfl rfl (by kernel_rfl) (by decide) (fun K hK => ?_)
        refine gs Tryd.func46 #[.int .i64 x5_1] ?_
        with_reducible refine (spec_l2MonthName.calls x5_1 t103 _ A8.out).mono ?_
        rintro e w' ⟨rfl, ⟨nd, rfl⟩⟩
        refine ⟨_, rfl, ?_⟩
        refine hK.out _ _ trivial (fun hHeld => ?_)
        clear hK K
        refine nm 21 ?_
        refine pure_ (i := 4) (N := some 24) (v := ?_) (a' := ?_) #[true, true, true, true, true] rfl rfl (by kernel_rfl) (fun _ _ _ h => h) (Or.inl ⟨by rfl, ?_⟩) ?_ ?_
        rotate_left
        ·
         intro w'
         go_simp
         with_reducible rfl
        rotate_left
        ·
         simp only [Act.put, List.setIfInBounds_toArray, List.set_cons_zero, List.set_cons_succ, i64_w, i32_w]
         rfl
        refine done_ (by kernel_rfl) ?_
        have hnb13 := NB102_101.out
        have hnc13 := NB101_102.out
        obtain ⟨hcz14_0, hcz14_1, hcz14_2, hcz14_3, hcz14_4, hcz14_5⟩ := zcf6 BK102
        obtain ⟨hfz14_0, hfz14_1, hfz14_2, hfz14_3, hfz14_4, hfz14_5⟩ := zff6 BK102
        try go_wp2
        go_roundg k1
        case measure => have := HK1.out; omega
        case rel => exact ⟨(wrap64 (x5_1 + 1)), (x5_1), (by first | rfl | (simp; done) | (simp [*]; done)), H', ⟨by have := HK1.out; omega⟩, ⟨by (with_reducible repeat (first | refine blk_drewN ?_ _ | refine blk_drew ?_ | refine blk_alloc ?_ _)); refine blk_far ?_ NB101_102.out _; (with_reducible repeat (first | refine blk_drewN ?_ _ | refine blk_drew ?_ | refine blk_alloc ?_ _)); exact BK101.out⟩, ⟨by (with_reducible repeat (first | refine blk_drewN ?_ _ | refine blk_drew ?_ | refine blk_alloc ?_ _)); refine blk_put (cs := #[.int .i64 0, .int .i64 x103001_1, .int .i64 0, .int .i64 0, .int .i64 0, .int .i64 0]) ?_ 1 _ rfl; (with_reducible repeat (first | refine blk_drewN ?_ _ | refine blk_drew ?_ | refine blk_alloc ?_ _)); exact BK102.out⟩, ⟨bh⟩⟩
       ·
        rw [if_neg c11] at H
        have c11b0 : (t103.toList == (a0.extract 8 11).toList) = false := beq_eq_false_iff_ne.mpr c11
        have c11b1 : (t103.toList != (a0.extract 8 11).toList) = true := bne_iff_ne.mpr c11
        have H' := Aside0.mk H
        clear H
        try go_wp2
        replace BK101 := Aside0.mk (blk_drew BK101.out)
        replace BK102 := Aside0.mk (blk_drew BK102.out)
        replace HB := Aside0.mk (below_drew1 HB.out)
        refine start_ (n := 5) (S := fun w' => True) (ds := []) #[false, false, false, false, false] (by kernel_rfl) rfl rfl trivial (fun hHeld => ?_)
        generalize wr.drew = w15 at BK101 BK102 HB hHeld ⊢
        refine pure_ (i := 0) (N := some 20) (v := ?_) (a' := ?_) #[true, false, false, false, false] rfl rfl (by kernel_rfl) (fun _ _ _ h => h) (Or.inl ⟨by rfl, ?_⟩) ?_ ?_
        rotate_left
        ·
         intro w'
         go_simp
         with_reducible rfl
        rotate_left
        ·
         simp only [Act.put, List.setIfInBounds_toArray, List.set_cons_zero, List.set_cons_succ, i64_w, i32_w]
         rfl
        refine pure_ (i := 2) (N := some 22) (v := ?_) (a' := ?_) #[true, false, true, false, false] rfl rfl (by kernel_rfl) (fun _ _ _ h => h) (Or.inl ⟨by rfl, ?_⟩) ?_ ?_
        rotate_left
        ·
         intro w'
         go_simp
         with_reducible rfl
        rotate_left
        ·
         simp only [Act.put, List.setIfInBounds_toArray, List.set_cons_zero, List.set_cons_succ, i64_w, i32_w]
         rfl
        refine pure_ (i := 3) (N := some 23) (v := ?_) (a' := ?_) #[true, false, true, true, false] rfl rfl (by kernel_rfl) (fun _ _ _ h => h) (Or.inl ⟨by rfl, ?_⟩) ?_ ?_
        rotate_left
        ·
         intro w'
         go_simp
         with_reducible rfl
        rotate_left
        ·
         simp only [Act.put, List.setIfInBounds_toArray, List.set_cons_zero, List.set_cons_succ, i64_w, i32_w]
         rfl
        refine one_ (i := 1) (N := some 21) #[true, true, true, true, false] rfl rfl (by kernel_rfl) (by decide) (fun K hK => ?_)
        refine gs Tryd.func46 #[.int .i64 x5_1] ?_
        with_reducible refine (spec_l2MonthName.calls x5_1 t103 _ A8.out).mono ?_
        rintro e w' ⟨rfl, ⟨nd, rfl⟩⟩
        refine ⟨_, rfl, ?_⟩
        refine hK.out _ _ trivial (fun hHeld => ?_)
        clear hK K
        refine nm 21 ?_
        refine pure_ (i := 4) (N := some 24) (v := ?_) (a' := ?_) #[true, true, true, true, true] rfl rfl (by kernel_rfl) (fun _ _ _ h => h) (Or.inl ⟨by rfl, ?_⟩) ?_ ?_
        rotate_left
        ·
         intro w'
         go_simp
         with_reducible rfl
        rotate_left
        ·
         simp only [Act.put, List.setIfInBounds_toArray, List.set_cons_zero, List.set_cons_succ, i64_w, i32_w]
         rfl
        refine done_ (by kernel_rfl) ?_
        try go_wp2
        go_roundg k1
        case measure => have := HK1.out; omega
        case rel => exact ⟨(wrap64 (x5_1 + 1)), (x103001_1), (by first | rfl | (simp; done) | (simp [*]; done)), H', ⟨by have := HK1.out; omega⟩, ⟨bk⟩, ⟨bk⟩, ⟨bh⟩⟩
      ·
       rw [if_neg c10] at H
       exact absurd H (by simp)
     ·
      rw [if_neg c9] at H
      exact absurd H (by simp)
    ·
     rw [if_neg c7] at H
     have c7b0 : decide (x5_1 < 13) = false := decide_eq_false c7
     clear c7
     obtain ⟨y104, hy104⟩ : ∃ y_ : List Int, y_ = (([] : List Int)) := ⟨_, rfl⟩
     replace H : ((some (([5, 12, 14, 17, 20, 23] : List Int) : List Int)).bind fun y107 => (spec_ReadDate.l1 k1 a0 y104 y107 (y107.length : Int) 0 0 x103001_1 0 0 0 0)) = some (r1, r2, r3, r4, r5, r6, r7) := by first | (rw [hy104]; with_reducible exact H) | (have H2_ := (Option.bind_some _ _).symm.trans H; rw [hy104]; with_reducible exact H2_) | (have H2_ := (Option.bind_some _ _).symm.trans H; with_reducible exact H2_) | with_reducible exact H | (rw [hy104]; exact H) | exact H
     have Ny104 := Aside0.mk hy104
     clear hy104
     obtain ⟨y107, hy107⟩ : ∃ y_ : List Int, y_ = (([5, 12, 14, 17, 20, 23] : List Int)) := ⟨_, rfl⟩
     replace H : (spec_ReadDate.l1 k1 a0 y104 y107 (y107.length : Int) 0 0 x103001_1 0 0 0 0) = some (r1, r2, r3, r4, r5, r6, r7) := by first | (rw [hy107]; with_reducible exact H) | (have H2_ := (Option.bind_some _ _).symm.trans H; rw [hy107]; with_reducible exact H2_) | (have H2_ := (Option.bind_some _ _).symm.trans H; with_reducible exact H2_) | with_reducible exact H | (rw [hy107]; exact H) | exact H
     have Ny107 := Aside0.mk hy107
     clear hy107
     have H' := Aside0.mk H
     clear H
     go_wp2_with (first | ((with_reducible refine gate_dst (N := 27) rfl ?_); refine Kd.R_lit (Kd.int .i64) _ 2 ?hg (N := 27) ?hd (xs := ([] : List Int)) (inner := []) (ok := fun _ => True) (okp := fun _ => True) ?hr ?hp (fun _ hk => hk) trivial (Below.refl _ _) (Nat.le_refl _) (by simp) ?_; (case hd => rfl); (case hg => rfl); (case hr => first | (go_simp; done) | (go_simp; rfl)); (case hp => exact (Reps.none _ _)); intro v105 w16 ho17 hb hg_ hnew_; clear hg_ hnew_; (first | rw [← Ny104.out] at ho17 | (simp only [Int.reduceToNat] at ho17; rw [← Ny104.out] at ho17)); have HO106 := Aside0.mk (Kd.R_lower ho17 (below_size bh)); replace BK101 := bkb_ BK101 hb; replace BK102 := bkb_ BK102 hb; replace HB := Aside0.mk (below_step bh hb); clear hb ho17) | ((with_reducible refine gate_dst (N := 28) rfl ?_); refine Kd.R_lit (Kd.int .i64) _ 3 ?hg (N := 28) ?hd (xs := ([5, 12, 14, 17, 20, 23] : List Int)) (inner := [.int .i64 5, .int .i64 12, .int .i64 14, .int .i64 17, .int .i64 20, .int .i64 23]) (ok := fun _ => True) (okp := fun _ => True) ?hr ?hp (fun _ hk => hk) trivial (Below.refl _ _) (Nat.le_refl _) (by simp) ?_; (case hd => rfl); (case hg => rfl); (case hr => first | (go_simp; done) | (go_simp; rfl)); (case hp => exact (Reps.one (show Kd.M (Kd.int .i64) _ _ _ 5 [.int .i64 5] from rfl) (Reps.one (show Kd.M (Kd.int .i64) _ _ _ 12 [.int .i64 12] from rfl) (Reps.one (show Kd.M (Kd.int .i64) _ _ _ 14 [.int .i64 14] from rfl) (Reps.one (show Kd.M (Kd.int .i64) _ _ _ 17 [.int .i64 17] from rfl) (Reps.one (show Kd.M (Kd.int .i64) _ _ _ 20 [.int .i64 20] from rfl) (Reps.one (show Kd.M (Kd.int .i64) _ _ _ 23 [.int .i64 23] from rfl) (Reps.none _ _)))))))); intro v108 w18 ho19 hb hg_ hnew_; clear hg_ hnew_; (first | rw [← Ny107.out] at ho19 | (simp only [Int.reduceToNat] at ho19; rw [← Ny107.out] at ho19)); have HO109 := Aside0.mk (Kd.R_lower ho19 (below_size bh)); replace HO106 := Aside0.mk (Kd.R_below (by (with_reducible repeat (first | apply Kd.R_alloc | apply Kd.R_drewN | apply Kd.R_drew)); exact HO106.out) hb); replace BK101 := bkb_ BK101 hb; replace BK102 := bkb_ BK102 hb; replace HB := Aside0.mk (below_step bh hb); clear hb ho19; obtain ⟨Ao20, co20, eo20⟩ := Kd.R_slice HO109.out; subst eo20))
     go_loopg [6, 30] k1 (fun kq v6 v30 w' => ∃ (x6_2 : List Int) (x30_2 : Int), v30 = .int .i64 x30_2 ∧ Aside0 (spec_ReadDate.l1 kq a0 x6_2 y107 (y107.length : Int) x30_2 0 x103001_1 0 0 0 0 = some (r1, r2, r3, r4, r5, r6, r7)) ∧ Aside0 (kq ≤ k1) ∧ Aside0 (Kd.R (Kd.int .i64) 2 w' w.heap.size (fun _ => True) v6 x6_2) ∧ Aside0 (Kd.R (Kd.int .i64) 3 w' w.heap.size (fun _ => True) (.slice Ao20 y107.length co20) y107) ∧ Aside0 (w'.heap[gb101]? = some (.cells #[.int .i64 0, .int .i64 0, .int .i64 0, .int .i64 0, .int .i64 0, .int .i64 0] 34 (0, 0))) ∧ Aside0 (w'.heap[gb102]? = some (.cells #[.int .i64 0, .int .i64 x103001_1, .int .i64 0, .int .i64 0, .int .i64 0, .int .i64 0] 34 (0, 0))) ∧ Aside0 (Below w.heap.size w w'))
     case atStart => exact ⟨(y104), (0), (by first | rfl | (simp; done) | (simp [*]; done)), H', ⟨Nat.le_refl _⟩, ⟨by (with_reducible repeat (first | apply Kd.R_alloc | apply Kd.R_drewN | apply Kd.R_drew)); exact HO106.out⟩, ⟨by (with_reducible repeat (first | apply Kd.R_alloc | apply Kd.R_drewN | apply Kd.R_drew)); exact HO109.out⟩, ⟨bk⟩, ⟨bk⟩, ⟨bh⟩⟩
     case round =>
      clear H'
      try clear c1
      try clear c2
      try clear c2b0
      try clear c2b1
      try clear p2
      try clear c4
      try clear c5
      try clear p6
      try clear c7
      try clear c7b0
      try clear c9
      try clear c9b0
      try clear c9b1
      try clear c10
      try clear c10b0
      try clear c10b1
      try clear c11
      try clear c11b0
      try clear c11b1
      try clear c13
      try clear hcz14_0
      try clear hcz14_1
      try clear hcz14_2
      try clear hcz14_3
      try clear hcz14_4
      try clear hcz14_5
      try clear hcz6_0
      try clear hcz6_1
      try clear hcz6_2
      try clear hcz6_3
      try clear hcz6_4
      try clear hcz6_5
      try clear hfz14_0
      try clear hfz14_1
      try clear hfz14_2
      try clear hfz14_3
      try clear hfz14_4
      try clear hfz14_5
      try clear hfz6_0
      try clear hfz6_1
      try clear hfz6_2
      try clear hfz6_3
      try clear hfz6_4
      try clear hfz6_5
      try clear p2
      obtain ⟨x6_2, x30_2, rfl, HA, HK2, HO_6, HO_28, BK101, BK102, HB⟩ := hrel
      cases gk with
      | zero => exact absurd HA.out (by simp [spec_ReadDate.l1])
      | succ k2 =>
       have H := HA.out
       clear HA
       simp only [spec_ReadDate.l1] at H
       by_cases c21 : x30_2 < (y107.length : Int)
       ·
        rw [if_pos c21] at H
        have c21b0 : decide (x30_2 < (y107.length : Int)) = true := decide_eq_true c21
        clear c21
        by_cases c22 : 0 ≤ x30_2
        ·
         rw [if_pos c22] at H
         have c22b0 : decide (0 ≤ x30_2) = true := decide_eq_true c22
         clear c22
         by_cases c23 : x30_2 < (y107.length : Int)
         ·
          rw [if_pos c23] at H
          have c23b0 : decide (x30_2 < (y107.length : Int)) = true := decide_eq_true c23
          clear c23
          by_cases c24 : 0 ≤ (rd y107 x30_2)
          ·
           rw [if_pos c24] at H
           have c24b0 := eq_true c24
           have c24b1 : decide (0 ≤ (rd y107 x30_2)) = true := decide_eq_true c24
           clear c24
           by_cases c25 : (rd y107 x30_2) ≤ (wrap64 ((rd y107 x30_2) + 2))
           ·
            rw [if_pos c25] at H
            have c25b0 := eq_true c25
            have c25b1 : decide ((rd y107 x30_2) ≤ (wrap64 ((rd y107 x30_2) + 2))) = true := decide_eq_true c25
            by_cases c26 : (wrap64 ((rd y107 x30_2) + 2)) ≤ (a0.size : Int)
            ·
             rw [if_pos c26] at H
             have c26b0 := eq_true c26
             have c26b1 : decide ((wrap64 ((rd y107 x30_2) + 2)) ≤ (a0.size : Int)) = true := decide_eq_true c26
             obtain ⟨⟨t111, t112⟩, A270, H⟩ := Option.bind_eq_some_iff.mp H
             try dsimp only at H
             have A27 := Aside0.mk A270
             clear A270
             by_cases c28 : x6_2.length < 17592186044416
             ·
              rw [if_pos c28] at H
              have LMc28 := Aside0.mk c28
              clear c28
              obtain ⟨y113, hy113⟩ : ∃ y_ : List Int, y_ = (x6_2 ++ [t111]) := ⟨_, rfl⟩
              replace H : (spec_ReadDate.l1 k2 a0 y113 y107 (y107.length : Int) (wrap64 (x30_2 + 1)) 0 x103001_1 0 0 0 0) = some (r1, r2, r3, r4, r5, r6, r7) := by first | (rw [hy113]; with_reducible exact H) | (have H2_ := (Option.bind_some _ _).symm.trans H; rw [hy113]; with_reducible exact H2_) | (have H2_ := (Option.bind_some _ _).symm.trans H; with_reducible exact H2_) | with_reducible exact H | (rw [hy113]; exact H) | exact H
              have Ny113 := Aside0.mk hy113
              clear hy113
              have H' := Aside0.mk H
              clear H
              have p110 : 0 ≤ (x30_2 : Int) := of_decide_eq_true (by first | (with_reducible assumption) | assumption)
              have q110 : x30_2 < (y107.length : Int) := of_decide_eq_true (by first | (with_reducible assumption) | assumption)
              obtain ⟨ad110, e110, hx110_0⟩ := Kd.at_int (Kd.R_reads' HO_28.out).2.2 x30_2 p110 q110
              cases e110
              replace p110 := eq_true p110
              replace q110 := eq_true q110
              go_wp2_with (first | ((with_reducible refine gate_callee (f := 54) rfl ?_); refine goesL_ (some 40) rfl rfl Tryd.func54 (by kernel_rfl) rfl #[.string (a0.extract ((rd y107 x30_2) : Int).toNat ((wrap64 ((rd y107 x30_2) + 2)) : Int).toNat)] rfl mc ?_; (with_reducible refine (spec_Digits.calls k2 (a0.extract ((rd y107 x30_2) : Int).toNat ((wrap64 ((rd y107 x30_2) + 2)) : Int).toNat) t111 t112 _ A27.out).mono ?_); rintro e w' ⟨rfl, ⟨nd, rfl⟩⟩; refine ⟨_, rfl, ?_⟩) | ((with_reducible refine gate_builtin (b := .append) (xs := #[.tmp 43, .tmp 45]) rfl ?_); at_builtin; refine Kd.R_append (Kd.int .i64) (w0 := w) w.heap.size rfl (.tmp 43) (.tmp 45) 65 2 (.int .i64 0) 8 rfl Tryd.underlying65 info2 rfl (by decide) (by omega) u6 x6_2 t111 [.int .i64 t111] (fun _ => True) (fun _ => False) rfl rfl ?aP (fun _ hk => hk.elim) ?aF ?aO ?aB ?aS ?aL ?_; (case aP => exact rfl); (case aB => exact bh); (case aF => exact (fun _ _ => trivial)); (case aO => exact (by (with_reducible repeat (first | apply Kd.R_alloc | apply Kd.R_drewN | apply Kd.R_drew)); exact HO_6.out)); (case aS => exact (below_size bh)); (case aL => have := LMc28.out; omega); intro v114 w29 ho hb hg hat; rw [← Ny113.out] at ho; have n0_ := Aside0.mk (Kd.R_over' (by (with_reducible repeat (first | apply Kd.R_alloc | apply Kd.R_drewN | apply Kd.R_drew)); exact HO_28.out) (Kd.R_typed (by (with_reducible repeat (first | apply Kd.R_alloc | apply Kd.R_drewN | apply Kd.R_drew)); exact HO_6.out)) (by decide) hg); have n1_ := Aside0.mk (blk_grown (g := gb101) (o := .cells #[.int .i64 0, .int .i64 0, .int .i64 0, .int .i64 0, .int .i64 0, .int .i64 0] 34 (0, 0)) bk hg (Kd.R_ne HO_6.out BK101.out (by decide))); have n2_ := Aside0.mk (blk_grown (g := gb102) (o := .cells #[.int .i64 0, .int .i64 x103001_1, .int .i64 0, .int .i64 0, .int .i64 0, .int .i64 0] 34 (0, 0)) bk hg (Kd.R_ne HO_6.out BK102.out (by decide))); have n3_ := Aside0.mk (hb); have n4_ := Aside0.mk (ho); clear HO_28; clear BK101; clear BK102; clear HB; clear HO_6; have HO_28 := n0_; have BK101 := n1_; have BK102 := n2_; have HB := n3_; have HO115 := n4_; clear n0_ n1_ n2_ n3_ n4_; clear ho hb hg hat))
              go_roundg k2
              case measure => have := HK1.out; have := HK2.out; omega
              case rel => exact ⟨(y113), (wrap64 (x30_2 + 1)), (by first | rfl | (simp; done) | (simp [*]; done)), H', ⟨by have := HK1.out; have := HK2.out; omega⟩, ⟨by (with_reducible repeat (first | apply Kd.R_alloc | apply Kd.R_drewN | apply Kd.R_drew)); exact HO115.out⟩, ⟨by (with_reducible repeat (first | apply Kd.R_alloc | apply Kd.R_drewN | apply Kd.R_drew)); exact HO_28.out⟩, ⟨bk⟩, ⟨bk⟩, ⟨bh⟩⟩
             ·
              rw [if_neg c28] at H
              exact absurd H (by simp)
            ·
             rw [if_neg c26] at H
             exact absurd H (by simp)
           ·
            rw [if_neg c25] at H
            exact absurd H (by simp)
          ·
           rw [if_neg c24] at H
           exact absurd H (by simp)
         ·
          rw [if_neg c23] at H
          exact absurd H (by simp)
        ·
         rw [if_neg c22] at H
         exact absurd H (by simp)
       ·
        rw [if_neg c21] at H
        have c21b0 : decide (x30_2 < (y107.length : Int)) = false := decide_eq_false c21
        clear c21
        by_cases c30 : 0 < (x6_2.length : Int)
        ·
         rw [if_pos c30] at H
         have c30b0 : decide (0 < (x6_2.length : Int)) = true := decide_eq_true c30
         have c30b1 : decide (0 < x6_2.length) = true := decide_eq_true (by omega)
         clear c30
         by_cases c31 : 1 < (x6_2.length : Int)
         ·
          rw [if_pos c31] at H
          have c31b0 : decide (1 < (x6_2.length : Int)) = true := decide_eq_true c31
          have c31b1 : decide (1 < x6_2.length) = true := decide_eq_true (by omega)
          clear c31
          by_cases c32 : 2 < (x6_2.length : Int)
          ·
           rw [if_pos c32] at H
           have c32b0 : decide (2 < (x6_2.length : Int)) = true := decide_eq_true c32
           have c32b1 : decide (2 < x6_2.length) = true := decide_eq_true (by omega)
           clear c32
           by_cases c33 : 3 < (x6_2.length : Int)
           ·
            rw [if_pos c33] at H
            have c33b0 : decide (3 < (x6_2.length : Int)) = true := decide_eq_true c33
            have c33b1 : decide (3 < x6_2.length) = true := decide_eq_true (by omega)
            clear c33
            by_cases c34 : 4 < (x6_2.length : Int)
            ·
             rw [if_pos c34] at H
             have c34b0 : decide (4 < (x6_2.length : Int)) = true := decide_eq_true c34
             have c34b1 : decide (4 < x6_2.length) = true := decide_eq_true (by omega)
             clear c34
             by_cases c35 : 5 < (x6_2.length : Int)
             ·
              rw [if_pos c35] at H
              have c35b0 : decide (5 < (x6_2.length : Int)) = true := decide_eq_true c35
              have c35b1 : decide (5 < x6_2.length) = true := decide_eq_true (by omega)
              clear c35
              obtain ⟨t122, A360, H⟩ := Option.bind_eq_some_iff.mp H
              try dsimp only at H
              have A36 := Aside0.mk A360
              clear A360
              by_cases c37 : t122.toList = a0.toList
              ·
               rw [if_pos c37] at H
               have c37b0 : (t122.toList == a0.toList) = true := beq_iff_eq.mpr c37
               have c37b1 : (t122.toList != a0.toList) = false := bne_eq_false_iff_eq.mpr c37
               clear c37
               simp only [Option.some.injEq, Prod.mk.injEq] at H
               obtain ⟨rfl, rfl, rfl, rfl, rfl, rfl, rfl⟩ := H
               obtain ⟨Ao38, co38, eo38⟩ := Kd.R_slice HO_6.out
               subst eo38
               have p116 : 0 ≤ (0 : Int) := (by omega)
               have q116 : 0 < (x6_2.length : Int) := of_decide_eq_true (by first | (with_reducible assumption) | assumption)
               obtain ⟨ad116, e116, hx116_0⟩ := Kd.at_int (Kd.R_reads' HO_6.out).2.2 0 p116 q116
               cases e116
               have qi116 : (0 < x6_2.length) = True := eq_true (by omega)
               (try rw [show ((0 : Int)).toNat = 0 from rfl] at hx116_0)
               (try rw [Addr.add_zero'] at hx116_0)
               replace p116 := eq_true p116
               replace q116 := eq_true q116
               have hnb39 := NB102_101.out
               have hnc39 := NB101_102.out
               obtain ⟨hcz40_0, hcz40_1, hcz40_2, hcz40_3, hcz40_4, hcz40_5⟩ := zcf6 BK102
               obtain ⟨hfz40_0, hfz40_1, hfz40_2, hfz40_3, hfz40_4, hfz40_5⟩ := zff6 BK102
               try go_wp2
               have n0_ : Aside0 (Kd.R (Kd.int .i64) 2 (wr.setCell ⟨gb102, 2, none⟩ (.int .i64 (rd x6_2 0))) w.heap.size (fun _ => True) (.slice (some ad116) x6_2.length co38) x6_2) := ⟨by (with_reducible repeat (first | apply Kd.R_alloc | apply Kd.R_drewN | apply Kd.R_drew)); exact Kd.R_mono (Kd.R_far (p := ⟨gb102, 2, none⟩) (Kd.R_types HO_6.out BK102.out (by decide)) (fun _ hk => hk.2) (.int .i64 (rd x6_2 0))) (fun _ hk => trivial)⟩
               have n1_ : Aside0 (Kd.R (Kd.int .i64) 3 (wr.setCell ⟨gb102, 2, none⟩ (.int .i64 (rd x6_2 0))) w.heap.size (fun _ => True) (.slice Ao20 y107.length co20) y107) := ⟨by (with_reducible repeat (first | apply Kd.R_alloc | apply Kd.R_drewN | apply Kd.R_drew)); exact Kd.R_mono (Kd.R_far (p := ⟨gb102, 2, none⟩) (Kd.R_types HO_28.out BK102.out (by decide)) (fun _ hk => hk.2) (.int .i64 (rd x6_2 0))) (fun _ hk => trivial)⟩
               have n2_ : Aside0 ((wr.setCell ⟨gb102, 2, none⟩ (.int .i64 (rd x6_2 0))).heap[gb101]? = some (.cells #[.int .i64 0, .int .i64 0, .int .i64 0, .int .i64 0, .int .i64 0, .int .i64 0] 34 (0, 0))) := ⟨bkp⟩
               have n3_ : Aside0 ((wr.setCell ⟨gb102, 2, none⟩ (.int .i64 (rd x6_2 0))).heap[gb102]? = some (.cells #[.int .i64 0, .int .i64 x103001_1, .int .i64 (rd x6_2 0), .int .i64 0, .int .i64 0, .int .i64 0] 34 (0, 0))) := ⟨by (with_reducible repeat (first | refine blk_drewN ?_ _ | refine blk_drew ?_ | refine blk_alloc ?_ _)); refine blk_put (cs := #[.int .i64 0, .int .i64 x103001_1, .int .i64 0, .int .i64 0, .int .i64 0, .int .i64 0]) ?_ 2 _ rfl; (with_reducible repeat (first | refine blk_drewN ?_ _ | refine blk_drew ?_ | refine blk_alloc ?_ _)); exact BK102.out⟩
               have n4_ : Aside0 (Below w.heap.size w (wr.setCell ⟨gb102, 2, none⟩ (.int .i64 (rd x6_2 0)))) := ⟨bh⟩
               (try clear HO_6)
               (try clear HO_28)
               (try clear BK101)
               (try clear BK102)
               (try clear HB)
               generalize (wr.setCell ⟨gb102, 2, none⟩ (.int .i64 (rd x6_2 0))) = w41 at n0_ n1_ n2_ n3_ n4_ ⊢
               have HO_6 := n0_
               have HO_28 := n1_
               have BK101 := n2_
               have BK102 := n3_
               have HB := n4_
               clear n0_ n1_ n2_ n3_ n4_
               replace HO_6 := Aside0.mk (Kd.R_drew HO_6.out)
               replace HO_28 := Aside0.mk (Kd.R_drew HO_28.out)
               replace BK101 := Aside0.mk (blk_drew BK101.out)
               replace BK102 := Aside0.mk (blk_drew BK102.out)
               replace HB := Aside0.mk (below_drew1 HB.out)
               have p117 : 0 ≤ (1 : Int) := (by omega)
               have q117 : 1 < (x6_2.length : Int) := of_decide_eq_true (by first | (with_reducible assumption) | assumption)
               obtain ⟨ad117, e117, hx117_0⟩ := Kd.at_int (Kd.R_reads' HO_6.out).2.2 1 p117 q117
               obtain rfl : ad116 = ad117 := (by injection e117)
               (try simp only [show (1 : Int).toNat = 1 from rfl, Nat.reduceMul, Nat.reduceEqDiff, Go.Addr.add, ↓reduceIte] at hx117_0)
               have qi117 : (1 < x6_2.length) = True := eq_true (by omega)
               (try rw [show ((1 : Int)).toNat = 1 from rfl] at hx117_0)
               replace p117 := eq_true p117
               replace q117 := eq_true q117
               have p118 : 0 ≤ (2 : Int) := (by omega)
               have q118 : 2 < (x6_2.length : Int) := of_decide_eq_true (by first | (with_reducible assumption) | assumption)
               obtain ⟨ad118, e118, hx118_0⟩ := Kd.at_int (Kd.R_reads' HO_6.out).2.2 2 p118 q118
               obtain rfl : ad116 = ad118 := (by injection e118)
               (try simp only [show (2 : Int).toNat = 2 from rfl, Nat.reduceMul, Nat.reduceEqDiff, Go.Addr.add, ↓reduceIte] at hx118_0)
               have qi118 : (2 < x6_2.length) = True := eq_true (by omega)
               (try rw [show ((2 : Int)).toNat = 2 from rfl] at hx118_0)
               replace p118 := eq_true p118
               replace q118 := eq_true q118
               refine start_ (n := 10) (S := fun w' => w'.cell? ⟨ad116.block, ad116.off + 1, none⟩ = some (.int .i64 (rd x6_2 1)) ∧ w'.cell? ⟨ad116.block, ad116.off + 2, none⟩ = some (.int .i64 (rd x6_2 2))) (ds := []) spec_ReadDate.d0 (by kernel_rfl) rfl rfl ⟨hx117_0, hx118_0⟩ (fun hHeld => ?_); refine with_tabW spec_ReadDate.tab17 spec_ReadDate.bits17 (fun HT_ HW_ => ?_)
               generalize w41.drew = w42 at HO_6 HO_28 BK101 BK102 HB hx117_0 hx118_0 hHeld ⊢
               refine pu 0 52 spec_ReadDate.d1 HT_ ?_
               refine pu 1 53 spec_ReadDate.d2 HT_ ?_
               refine pu 4 56 spec_ReadDate.d3 HT_ ?_
               refine pu 5 57 spec_ReadDate.d4 HT_ ?_
               refine tk 2 54 spec_ReadDate.d5 HT_ HW_ hHeld ?_
               refine pu 3 55 spec_ReadDate.d6 HT_ ?_
               refine tk 6 58 spec_ReadDate.d7 HT_ HW_ hHeld ?_
               refine pu 7 59 spec_ReadDate.d8 HT_ ?_
               refine pu 8 60 spec_ReadDate.d9 HT_ ?_
               refine one_ (i := 9) (N := none) spec_ReadDate.d10 rfl rfl (one_of HT_.out (by kernel_rfl)) (by decide) (fun K hK => ?_)
               have hs43 : w42.cell? ⟨gb102, 0, none⟩ = some (.int .i64 0) := bc BK102 0
               have hfs43 := blk_frozen BK102.out 0
               have hns43_0 := NB101_102.out
               have hms43_0 := NB102_101.out
               refine skip_ (w1 := ?_) (by rfl) rfl ?_ ?_
               rotate_left
               ·
                go_simp
                rfl
               refine hK.out _ _ ⟨((cell_far (p := ⟨gb102, _, none⟩) (by first | exact Kd.own_blk (Kd.R_ne HO_6.out BK102.out (by decide)) | (rw [add_block]; exact Kd.own_blk (Kd.R_ne HO_6.out BK102.out (by decide))) | (show (Addr.add _ _).block ≠ _; rw [add_block]; exact Kd.own_blk (Kd.R_ne HO_6.out BK102.out (by decide))) | (dsimp only; exact Kd.own_blk (Kd.R_ne HO_6.out BK102.out (by decide)))) _).trans (hHeld.1)), ((cell_far (p := ⟨gb102, _, none⟩) (by first | exact Kd.own_blk (Kd.R_ne HO_6.out BK102.out (by decide)) | (rw [add_block]; exact Kd.own_blk (Kd.R_ne HO_6.out BK102.out (by decide))) | (show (Addr.add _ _).block ≠ _; rw [add_block]; exact Kd.own_blk (Kd.R_ne HO_6.out BK102.out (by decide))) | (dsimp only; exact Kd.own_blk (Kd.R_ne HO_6.out BK102.out (by decide)))) _).trans (hHeld.2))⟩ (fun hHeld => ?_)
               clear hK K
               refine dn HT_ ?_
               have p119 : 0 ≤ (3 : Int) := (by omega)
               have q119 : 3 < (x6_2.length : Int) := of_decide_eq_true (by first | (with_reducible assumption) | assumption)
               obtain ⟨ad119, e119, hx119_0⟩ := Kd.at_int (Kd.R_reads' HO_6.out).2.2 3 p119 q119
               obtain rfl : ad116 = ad119 := (by injection e119)
               (try simp only [show (3 : Int).toNat = 3 from rfl, Nat.reduceMul, Nat.reduceEqDiff, Go.Addr.add, ↓reduceIte] at hx119_0)
               have qi119 : (3 < x6_2.length) = True := eq_true (by omega)
               (try rw [show ((3 : Int)).toNat = 3 from rfl] at hx119_0)
               have hn119_0 : ad116.block ≠ gb102 := Kd.own_blk (Kd.R_ne HO_6.out BK102.out (by decide))
               replace hx119_0 := (cell_far (p := ⟨gb102, 0, none⟩) (by first | (rw [add_block]; exact hn119_0) | (show (Addr.add _ _).block ≠ _; rw [add_block]; exact hn119_0) | exact hn119_0) (.int .i64 (wrap64 ((wrap64 (100 * (rd x6_2 1))) + (rd x6_2 2))))).trans hx119_0
               clear hn119_0
               replace p119 := eq_true p119
               replace q119 := eq_true q119
               obtain ⟨hcz44_0, hcz44_1, hcz44_2, hcz44_3, hcz44_4, hcz44_5⟩ := zcf6 BK102
               obtain ⟨hfz44_0, hfz44_1, hfz44_2, hfz44_3, hfz44_4, hfz44_5⟩ := zff6 BK102
               have p120 : 0 ≤ (4 : Int) := (by omega)
               have q120 : 4 < (x6_2.length : Int) := of_decide_eq_true (by first | (with_reducible assumption) | assumption)
               obtain ⟨ad120, e120, hx120_0⟩ := Kd.at_int (Kd.R_reads' HO_6.out).2.2 4 p120 q120
               obtain rfl : ad116 = ad120 := (by injection e120)
               (try simp only [show (4 : Int).toNat = 4 from rfl, Nat.reduceMul, Nat.reduceEqDiff, Go.Addr.add, ↓reduceIte] at hx120_0)
               have qi120 : (4 < x6_2.length) = True := eq_true (by omega)
               (try rw [show ((4 : Int)).toNat = 4 from rfl] at hx120_0)
               have hn120_0 : ad116.block ≠ gb102 := Kd.own_blk (Kd.R_ne HO_6.out BK102.out (by decide))
               have hn120_1 : ad116.block ≠ gb102 := Kd.own_blk (Kd.R_ne HO_6.out BK102.out (by decide))
               replace hx120_0 := (cell_far (p := ⟨gb102, 0, none⟩) (by first | (rw [add_block]; exact hn120_0) | (show (Addr.add _ _).block ≠ _; rw [add_block]; exact hn120_0) | exact hn120_0) (.int .i64 (wrap64 ((wrap64 (100 * (rd x6_2 1))) + (rd x6_2 2))))).trans hx120_0
               replace hx120_0 := (cell_far (p := ⟨gb102, 3, none⟩) (by first | (rw [add_block]; exact hn120_1) | (show (Addr.add _ _).block ≠ _; rw [add_block]; exact hn120_1) | exact hn120_1) (.int .i64 (rd x6_2 3))).trans hx120_0
               clear hn120_0
               clear hn120_1
               replace p120 := eq_true p120
               replace q120 := eq_true q120
               have p121 : 0 ≤ (5 : Int) := (by omega)
               have q121 : 5 < (x6_2.length : Int) := of_decide_eq_true (by first | (with_reducible assumption) | assumption)
               obtain ⟨ad121, e121, hx121_0⟩ := Kd.at_int (Kd.R_reads' HO_6.out).2.2 5 p121 q121
               obtain rfl : ad116 = ad121 := (by injection e121)
               (try simp only [show (5 : Int).toNat = 5 from rfl, Nat.reduceMul, Nat.reduceEqDiff, Go.Addr.add, ↓reduceIte] at hx121_0)
               have qi121 : (5 < x6_2.length) = True := eq_true (by omega)
               (try rw [show ((5 : Int)).toNat = 5 from rfl] at hx121_0)
               have hn121_0 : ad116.block ≠ gb102 := Kd.own_blk (Kd.R_ne HO_6.out BK102.out (by decide))
               have hn121_1 : ad116.block ≠ gb102 := Kd.own_blk (Kd.R_ne HO_6.out BK102.out (by decide))
               have hn121_2 : ad116.block ≠ gb102 := Kd.own_blk (Kd.R_ne HO_6.out BK102.out (by decide))
               replace hx121_0 := (cell_far (p := ⟨gb102, 0, none⟩) (by first | (rw [add_block]; exact hn121_0) | (show (Addr.add _ _).block ≠ _; rw [add_block]; exact hn121_0) | exact hn121_0) (.int .i64 (wrap64 ((wrap64 (100 * (rd x6_2 1))) + (rd x6_2 2))))).trans hx121_0
               replace hx121_0 := (cell_far (p := ⟨gb102, 3, none⟩) (by first | (rw [add_block]; exact hn121_1) | (show (Addr.add _ _).block ≠ _; rw [add_block]; exact hn121_1) | exact hn121_1) (.int .i64 (rd x6_2 3))).trans hx121_0
               replace hx121_0 := (cell_far (p := ⟨gb102, 4, none⟩) (by first | (rw [add_block]; exact hn121_2) | (show (Addr.add _ _).block ≠ _; rw [add_block]; exact hn121_2) | exact hn121_2) (.int .i64 (rd x6_2 4))).trans hx121_0
               clear hn121_0
               clear hn121_1
               clear hn121_2
               replace p121 := eq_true p121
               replace q121 := eq_true q121
               try go_wp2_with (first | ((with_reducible refine gate_callee (f := 18) rfl ?_); refine goesL_ (some 74) rfl rfl Tryd.func18 (by kernel_rfl) rfl #[.agg #[.int .i64 (wrap64 ((wrap64 (100 * (rd x6_2 1))) + (rd x6_2 2))), .int .i64 x103001_1, .int .i64 (rd x6_2 0), .int .i64 (rd x6_2 3), .int .i64 (rd x6_2 4), .int .i64 (rd x6_2 5)]] rfl mc ?_; (with_reducible refine (spec_ShowDate.calls k2 (wrap64 ((wrap64 (100 * (rd x6_2 1))) + (rd x6_2 2))) x103001_1 (rd x6_2 0) (rd x6_2 3) (rd x6_2 4) (rd x6_2 5) t122 _ A36.out).mono ?_); rintro e w45 ⟨rfl, hb⟩; refine ⟨_, rfl, ?_⟩; replace HO_6 := Aside0.mk (Kd.R_below (by (with_reducible repeat (first | apply Kd.R_alloc | apply Kd.R_drewN | apply Kd.R_drew)); exact (Kd.R_mono (Kd.R_far (p := ⟨gb102, 5, none⟩) (Kd.R_far (p := ⟨gb102, 4, none⟩) (Kd.R_far (p := ⟨gb102, 3, none⟩) (Kd.R_far (p := ⟨gb102, 0, none⟩) (Kd.R_types HO_6.out BK102.out (by decide)) (fun _ hk => hk.2) (.int .i64 (wrap64 ((wrap64 (100 * (rd x6_2 1))) + (rd x6_2 2))))) (fun _ hk => hk.2) (.int .i64 (rd x6_2 3))) (fun _ hk => hk.2) (.int .i64 (rd x6_2 4))) (fun _ hk => hk.2) (.int .i64 (rd x6_2 5))) (fun _ h_ => h_.1))) hb); replace HO_28 := Aside0.mk (Kd.R_below (by (with_reducible repeat (first | apply Kd.R_alloc | apply Kd.R_drewN | apply Kd.R_drew)); exact (Kd.R_mono (Kd.R_far (p := ⟨gb102, 5, none⟩) (Kd.R_far (p := ⟨gb102, 4, none⟩) (Kd.R_far (p := ⟨gb102, 3, none⟩) (Kd.R_far (p := ⟨gb102, 0, none⟩) (Kd.R_types HO_28.out BK102.out (by decide)) (fun _ hk => hk.2) (.int .i64 (wrap64 ((wrap64 (100 * (rd x6_2 1))) + (rd x6_2 2))))) (fun _ hk => hk.2) (.int .i64 (rd x6_2 3))) (fun _ hk => hk.2) (.int .i64 (rd x6_2 4))) (fun _ hk => hk.2) (.int .i64 (rd x6_2 5))) (fun _ h_ => h_.1))) hb); replace BK101 := bkf_ BK101 hb; replace BK102 := Aside0.mk (blk_below (g := gb102) (o := .cells #[.int .i64 (wrap64 ((wrap64 (100 * (rd x6_2 1))) + (rd x6_2 2))), .int .i64 x103001_1, .int .i64 (rd x6_2 0), .int .i64 (rd x6_2 3), .int .i64 (rd x6_2 4), .int .i64 (rd x6_2 5)] 34 (0, 0)) bkp hb); replace HB := Aside0.mk (below_step bh hb); (try clear hb); (try clear hb2); (try clear hk); (try clear hi); have hcz46_0 : w45.cell? ⟨gb102, 0, none⟩ = some (.int .i64 (wrap64 ((wrap64 (100 * (rd x6_2 1))) + (rd x6_2 2)))) := bc BK102 0; have hcz46_1 : w45.cell? ⟨gb102, 1, none⟩ = some (.int .i64 x103001_1) := bc BK102 1; have hcz46_2 : w45.cell? ⟨gb102, 2, none⟩ = some (.int .i64 (rd x6_2 0)) := bc BK102 2; have hcz46_3 : w45.cell? ⟨gb102, 3, none⟩ = some (.int .i64 (rd x6_2 3)) := bc BK102 3; have hcz46_4 : w45.cell? ⟨gb102, 4, none⟩ = some (.int .i64 (rd x6_2 4)) := bc BK102 4; have hcz46_5 : w45.cell? ⟨gb102, 5, none⟩ = some (.int .i64 (rd x6_2 5)) := bc BK102 5; obtain ⟨hfz46_0, hfz46_1, hfz46_2, hfz46_3, hfz46_4, hfz46_5⟩ := zff6 BK102; obtain ⟨hcz47_0, hcz47_1, hcz47_2, hcz47_3, hcz47_4, hcz47_5⟩ := zcf6 BK101; obtain ⟨hfz47_0, hfz47_1, hfz47_2, hfz47_3, hfz47_4, hfz47_5⟩ := zff6 BK101))
               refine bodyPost_ret (results_ct rfl _ _ gb101 34 #[.int .i64 (wrap64 ((wrap64 (100 * (rd x6_2 1))) + (rd x6_2 2))), .int .i64 x103001_1, .int .i64 (rd x6_2 0), .int .i64 (rd x6_2 3), .int .i64 (rd x6_2 4), .int .i64 (rd x6_2 5)] (0, 0) _ rfl bkp Tryd.underlying34 rfl (by kernel_rfl)) rfl ?_
               exact ⟨er, bh⟩
              ·
               rw [if_neg c37] at H
               have c37b0 : (t122.toList == a0.toList) = false := beq_eq_false_iff_ne.mpr c37
               have c37b1 : (t122.toList != a0.toList) = true := bne_iff_ne.mpr c37
               simp only [Option.some.injEq, Prod.mk.injEq] at H
               obtain ⟨rfl, rfl, rfl, rfl, rfl, rfl, rfl⟩ := H
               obtain ⟨Ao48, co48, eo48⟩ := Kd.R_slice HO_6.out
               subst eo48
               have p116 : 0 ≤ (0 : Int) := (by omega)
               have q116 : 0 < (x6_2.length : Int) := of_decide_eq_true (by first | (with_reducible assumption) | assumption)
               obtain ⟨ad116, e116, hx116_0⟩ := Kd.at_int (Kd.R_reads' HO_6.out).2.2 0 p116 q116
               cases e116
               have qi116 : (0 < x6_2.length) = True := eq_true (by omega)
               (try rw [show ((0 : Int)).toNat = 0 from rfl] at hx116_0)
               (try rw [Addr.add_zero'] at hx116_0)
               replace p116 := eq_true p116
               replace q116 := eq_true q116
               have hnb49 := NB102_101.out
               have hnc49 := NB101_102.out
               obtain ⟨hcz50_0, hcz50_1, hcz50_2, hcz50_3, hcz50_4, hcz50_5⟩ := zcf6 BK102
               obtain ⟨hfz50_0, hfz50_1, hfz50_2, hfz50_3, hfz50_4, hfz50_5⟩ := zff6 BK102
               try go_wp2
               have n0_ : Aside0 (Kd.R (Kd.int .i64) 2 (wr.setCell ⟨gb102, 2, none⟩ (.int .i64 (rd x6_2 0))) w.heap.size (fun _ => True) (.slice (some ad116) x6_2.length co48) x6_2) := ⟨by (with_reducible repeat (first | apply Kd.R_alloc | apply Kd.R_drewN | apply Kd.R_drew)); exact Kd.R_mono (Kd.R_far (p := ⟨gb102, 2, none⟩) (Kd.R_types HO_6.out BK102.out (by decide)) (fun _ hk => hk.2) (.int .i64 (rd x6_2 0))) (fun _ hk => trivial)⟩
               have n1_ : Aside0 (Kd.R (Kd.int .i64) 3 (wr.setCell ⟨gb102, 2, none⟩ (.int .i64 (rd x6_2 0))) w.heap.size (fun _ => True) (.slice Ao20 y107.length co20) y107) := ⟨by (with_reducible repeat (first | apply Kd.R_alloc | apply Kd.R_drewN | apply Kd.R_drew)); exact Kd.R_mono (Kd.R_far (p := ⟨gb102, 2, none⟩) (Kd.R_types HO_28.out BK102.out (by decide)) (fun _ hk => hk.2) (.int .i64 (rd x6_2 0))) (fun _ hk => trivial)⟩
               have n2_ : Aside0 ((wr.setCell ⟨gb102, 2, none⟩ (.int .i64 (rd x6_2 0))).heap[gb101]? = some (.cells #[.int .i64 0, .int .i64 0, .int .i64 0, .int .i64 0, .int .i64 0, .int .i64 0] 34 (0, 0))) := ⟨bkp⟩
               have n3_ : Aside0 ((wr.setCell ⟨gb102, 2, none⟩ (.int .i64 (rd x6_2 0))).heap[gb102]? = some (.cells #[.int .i64 0, .int .i64 x103001_1, .int .i64 (rd x6_2 0), .int .i64 0, .int .i64 0, .int .i64 0] 34 (0, 0))) := ⟨by (with_reducible repeat (first | refine blk_drewN ?_ _ | refine blk_drew ?_ | refine blk_alloc ?_ _)); refine blk_put (cs := #[.int .i64 0, .int .i64 x103001_1, .int .i64 0, .int .i64 0, .int .i64 0, .int .i64 0]) ?_ 2 _ rfl; (with_reducible repeat (first | refine blk_drewN ?_ _ | refine blk_drew ?_ | refine blk_alloc ?_ _)); exact BK102.out⟩
               have n4_ : Aside0 (Below w.heap.size w (wr.setCell ⟨gb102, 2, none⟩ (.int .i64 (rd x6_2 0)))) := ⟨bh⟩
               (try clear HO_6)
               (try clear HO_28)
               (try clear BK101)
               (try clear BK102)
               (try clear HB)
               generalize (wr.setCell ⟨gb102, 2, none⟩ (.int .i64 (rd x6_2 0))) = w51 at n0_ n1_ n2_ n3_ n4_ ⊢
               have HO_6 := n0_
               have HO_28 := n1_
               have BK101 := n2_
               have BK102 := n3_
               have HB := n4_
               clear n0_ n1_ n2_ n3_ n4_
               replace HO_6 := Aside0.mk (Kd.R_drew HO_6.out)
               replace HO_28 := Aside0.mk (Kd.R_drew HO_28.out)
               replace BK101 := Aside0.mk (blk_drew BK101.out)
               replace BK102 := Aside0.mk (blk_drew BK102.out)
               replace HB := Aside0.mk (below_drew1 HB.out)
               have p117 : 0 ≤ (1 : Int) := (by omega)
               have q117 : 1 < (x6_2.length : Int) := of_decide_eq_true (by first | (with_reducible assumption) | assumption)
               obtain ⟨ad117, e117, hx117_0⟩ := Kd.at_int (Kd.R_reads' HO_6.out).2.2 1 p117 q117
               obtain rfl : ad116 = ad117 := (by injection e117)
               (try simp only [show (1 : Int).toNat = 1 from rfl, Nat.reduceMul, Nat.reduceEqDiff, Go.Addr.add, ↓reduceIte] at hx117_0)
               have qi117 : (1 < x6_2.length) = True := eq_true (by omega)
               (try rw [show ((1 : Int)).toNat = 1 from rfl] at hx117_0)
               replace p117 := eq_true p117
               replace q117 := eq_true q117
               have p118 : 0 ≤ (2 : Int) := (by omega)
               have q118 : 2 < (x6_2.length : Int) := of_decide_eq_true (by first | (with_reducible assumption) | assumption)
               obtain ⟨ad118, e118, hx118_0⟩ := Kd.at_int (Kd.R_reads' HO_6.out).2.2 2 p118 q118
               obtain rfl : ad116 = ad118 := (by injection e118)
               (try simp only [show (2 : Int).toNat = 2 from rfl, Nat.reduceMul, Nat.reduceEqDiff, Go.Addr.add, ↓reduceIte] at hx118_0)
               have qi118 : (2 < x6_2.length) = True := eq_true (by omega)
               (try rw [show ((2 : Int)).toNat = 2 from rfl] at hx118_0)
               replace p118 := eq_true p118
               replace q118 := eq_true q118
               refine start_ (n := 10) (S := fun w' => w'.cell? ⟨ad116.block, ad116.off + 1, none⟩ = some (.int .i64 (rd x6_2 1)) ∧ w'.cell? ⟨ad116.block, ad116.off + 2, none⟩ = some (.int .i64 (rd x6_2 2))) (ds := []) spec_ReadDate.d0 (by kernel_rfl) rfl rfl ⟨hx117_0, hx118_0⟩ (fun hHeld => ?_); refine with_tabW spec_ReadDate.tab17 spec_ReadDate.bits17 (fun HT_ HW_ => ?_)
               generalize w51.drew = w52 at HO_6 HO_28 BK101 BK102 HB hx117_0 hx118_0 hHeld ⊢
               refine pu 0 52 spec_ReadDate.d1 HT_ ?_
               refine pu 1 53 spec_ReadDate.d2 HT_ ?_
               refine pu 4 56 spec_ReadDate.d3 HT_ ?_
               refine pu 5 57 spec_ReadDate.d4 HT_ ?_
               refine tk 2 54 spec_ReadDate.d5 HT_ HW_ hHeld ?_
               refine pu 3 55 spec_ReadDate.d6 HT_ ?_
               refine tk 6 58 spec_ReadDate.d7 HT_ HW_ hHeld ?_
               refine pu 7 59 spec_ReadDate.d8 HT_ ?_
               refine pu 8 60 spec_ReadDate.d9 HT_ ?_
               refine one_ (i := 9) (N := none) spec_ReadDate.d10 rfl rfl (one_of HT_.out (by kernel_rfl)) (by decide) (fun K hK => ?_)
               have hs53 : w52.cell? ⟨gb102, 0, none⟩ = some (.int .i64 0) := bc BK102 0
               have hfs53 := blk_frozen BK102.out 0
               have hns53_0 := NB101_102.out
               have hms53_0 := NB102_101.out
               refine skip_ (w1 := ?_) (by rfl) rfl ?_ ?_
               rotate_left
               ·
                go_simp
                rfl
               refine hK.out _ _ ⟨((cell_far (p := ⟨gb102, _, none⟩) (by first | exact Kd.own_blk (Kd.R_ne HO_6.out BK102.out (by decide)) | (rw [add_block]; exact Kd.own_blk (Kd.R_ne HO_6.out BK102.out (by decide))) | (show (Addr.add _ _).block ≠ _; rw [add_block]; exact Kd.own_blk (Kd.R_ne HO_6.out BK102.out (by decide))) | (dsimp only; exact Kd.own_blk (Kd.R_ne HO_6.out BK102.out (by decide)))) _).trans (hHeld.1)), ((cell_far (p := ⟨gb102, _, none⟩) (by first | exact Kd.own_blk (Kd.R_ne HO_6.out BK102.out (by decide)) | (rw [add_block]; exact Kd.own_blk (Kd.R_ne HO_6.out BK102.out (by decide))) | (show (Addr.add _ _).block ≠ _; rw [add_block]; exact Kd.own_blk (Kd.R_ne HO_6.out BK102.out (by decide))) | (dsimp only; exact Kd.own_blk (Kd.R_ne HO_6.out BK102.out (by decide)))) _).trans (hHeld.2))⟩ (fun hHeld => ?_)
               clear hK K
               refine dn HT_ ?_
               have p119 : 0 ≤ (3 : Int) := (by omega)
               have q119 : 3 < (x6_2.length : Int) := of_decide_eq_true (by first | (with_reducible assumption) | assumption)
               obtain ⟨ad119, e119, hx119_0⟩ := Kd.at_int (Kd.R_reads' HO_6.out).2.2 3 p119 q119
               obtain rfl : ad116 = ad119 := (by injection e119)
               (try simp only [show (3 : Int).toNat = 3 from rfl, Nat.reduceMul, Nat.reduceEqDiff, Go.Addr.add, ↓reduceIte] at hx119_0)
               have qi119 : (3 < x6_2.length) = True := eq_true (by omega)
               (try rw [show ((3 : Int)).toNat = 3 from rfl] at hx119_0)
               have hn119_0 : ad116.block ≠ gb102 := Kd.own_blk (Kd.R_ne HO_6.out BK102.out (by decide))
               replace hx119_0 := (cell_far (p := ⟨gb102, 0, none⟩) (by first | (rw [add_block]; exact hn119_0) | (show (Addr.add _ _).block ≠ _; rw [add_block]; exact hn119_0) | exact hn119_0) (.int .i64 (wrap64 ((wrap64 (100 * (rd x6_2 1))) + (rd x6_2 2))))).trans hx119_0
               clear hn119_0
               replace p119 := eq_true p119
               replace q119 := eq_true q119
               obtain ⟨hcz54_0, hcz54_1, hcz54_2, hcz54_3, hcz54_4, hcz54_5⟩ := zcf6 BK102
               obtain ⟨hfz54_0, hfz54_1, hfz54_2, hfz54_3, hfz54_4, hfz54_5⟩ := zff6 BK102
               have p120 : 0 ≤ (4 : Int) := (by omega)
               have q120 : 4 < (x6_2.length : Int) := of_decide_eq_true (by first | (with_reducible assumption) | assumption)
               obtain ⟨ad120, e120, hx120_0⟩ := Kd.at_int (Kd.R_reads' HO_6.out).2.2 4 p120 q120
               obtain rfl : ad116 = ad120 := (by injection e120)
               (try simp only [show (4 : Int).toNat = 4 from rfl, Nat.reduceMul, Nat.reduceEqDiff, Go.Addr.add, ↓reduceIte] at hx120_0)
               have qi120 : (4 < x6_2.length) = True := eq_true (by omega)
               (try rw [show ((4 : Int)).toNat = 4 from rfl] at hx120_0)
               have hn120_0 : ad116.block ≠ gb102 := Kd.own_blk (Kd.R_ne HO_6.out BK102.out (by decide))
               have hn120_1 : ad116.block ≠ gb102 := Kd.own_blk (Kd.R_ne HO_6.out BK102.out (by decide))
               replace hx120_0 := (cell_far (p := ⟨gb102, 0, none⟩) (by first | (rw [add_block]; exact hn120_0) | (show (Addr.add _ _).block ≠ _; rw [add_block]; exact hn120_0) | exact hn120_0) (.int .i64 (wrap64 ((wrap64 (100 * (rd x6_2 1))) + (rd x6_2 2))))).trans hx120_0
               replace hx120_0 := (cell_far (p := ⟨gb102, 3, none⟩) (by first | (rw [add_block]; exact hn120_1) | (show (Addr.add _ _).block ≠ _; rw [add_block]; exact hn120_1) | exact hn120_1) (.int .i64 (rd x6_2 3))).trans hx120_0
               clear hn120_0
               clear hn120_1
               replace p120 := eq_true p120
               replace q120 := eq_true q120
               have p121 : 0 ≤ (5 : Int) := (by omega)
               have q121 : 5 < (x6_2.length : Int) := of_decide_eq_true (by first | (with_reducible assumption) | assumption)
               obtain ⟨ad121, e121, hx121_0⟩ := Kd.at_int (Kd.R_reads' HO_6.out).2.2 5 p121 q121
               obtain rfl : ad116 = ad121 := (by injection e121)
               (try simp only [show (5 : Int).toNat = 5 from rfl, Nat.reduceMul, Nat.reduceEqDiff, Go.Addr.add, ↓reduceIte] at hx121_0)
               have qi121 : (5 < x6_2.length) = True := eq_true (by omega)
               (try rw [show ((5 : Int)).toNat = 5 from rfl] at hx121_0)
               have hn121_0 : ad116.block ≠ gb102 := Kd.own_blk (Kd.R_ne HO_6.out BK102.out (by decide))
               have hn121_1 : ad116.block ≠ gb102 := Kd.own_blk (Kd.R_ne HO_6.out BK102.out (by decide))
               have hn121_2 : ad116.block ≠ gb102 := Kd.own_blk (Kd.R_ne HO_6.out BK102.out (by decide))
               replace hx121_0 := (cell_far (p := ⟨gb102, 0, none⟩) (by first | (rw [add_block]; exact hn121_0) | (show (Addr.add _ _).block ≠ _; rw [add_block]; exact hn121_0) | exact hn121_0) (.int .i64 (wrap64 ((wrap64 (100 * (rd x6_2 1))) + (rd x6_2 2))))).trans hx121_0
               replace hx121_0 := (cell_far (p := ⟨gb102, 3, none⟩) (by first | (rw [add_block]; exact hn121_1) | (show (Addr.add _ _).block ≠ _; rw [add_block]; exact hn121_1) | exact hn121_1) (.int .i64 (rd x6_2 3))).trans hx121_0
               replace hx121_0 := (cell_far (p := ⟨gb102, 4, none⟩) (by first | (rw [add_block]; exact hn121_2) | (show (Addr.add _ _).block ≠ _; rw [add_block]; exact hn121_2) | exact hn121_2) (.int .i64 (rd x6_2 4))).trans hx121_0
               clear hn121_0
               clear hn121_1
               clear hn121_2
               replace p121 := eq_true p121
               replace q121 := eq_true q121
               try go_wp2_with (first | ((with_reducible refine gate_callee (f := 18) rfl ?_); refine goesL_ (some 74) rfl rfl Tryd.func18 (by kernel_rfl) rfl #[.agg #[.int .i64 (wrap64 ((wrap64 (100 * (rd x6_2 1))) + (rd x6_2 2))), .int .i64 x103001_1, .int .i64 (rd x6_2 0), .int .i64 (rd x6_2 3), .int .i64 (rd x6_2 4), .int .i64 (rd x6_2 5)]] rfl mc ?_; (with_reducible refine (spec_ShowDate.calls k2 (wrap64 ((wrap64 (100 * (rd x6_2 1))) + (rd x6_2 2))) x103001_1 (rd x6_2 0) (rd x6_2 3) (rd x6_2 4) (rd x6_2 5) t122 _ A36.out).mono ?_); rintro e w55 ⟨rfl, hb⟩; refine ⟨_, rfl, ?_⟩; replace HO_6 := Aside0.mk (Kd.R_below (by (with_reducible repeat (first | apply Kd.R_alloc | apply Kd.R_drewN | apply Kd.R_drew)); exact (Kd.R_mono (Kd.R_far (p := ⟨gb102, 5, none⟩) (Kd.R_far (p := ⟨gb102, 4, none⟩) (Kd.R_far (p := ⟨gb102, 3, none⟩) (Kd.R_far (p := ⟨gb102, 0, none⟩) (Kd.R_types HO_6.out BK102.out (by decide)) (fun _ hk => hk.2) (.int .i64 (wrap64 ((wrap64 (100 * (rd x6_2 1))) + (rd x6_2 2))))) (fun _ hk => hk.2) (.int .i64 (rd x6_2 3))) (fun _ hk => hk.2) (.int .i64 (rd x6_2 4))) (fun _ hk => hk.2) (.int .i64 (rd x6_2 5))) (fun _ h_ => h_.1))) hb); replace HO_28 := Aside0.mk (Kd.R_below (by (with_reducible repeat (first | apply Kd.R_alloc | apply Kd.R_drewN | apply Kd.R_drew)); exact (Kd.R_mono (Kd.R_far (p := ⟨gb102, 5, none⟩) (Kd.R_far (p := ⟨gb102, 4, none⟩) (Kd.R_far (p := ⟨gb102, 3, none⟩) (Kd.R_far (p := ⟨gb102, 0, none⟩) (Kd.R_types HO_28.out BK102.out (by decide)) (fun _ hk => hk.2) (.int .i64 (wrap64 ((wrap64 (100 * (rd x6_2 1))) + (rd x6_2 2))))) (fun _ hk => hk.2) (.int .i64 (rd x6_2 3))) (fun _ hk => hk.2) (.int .i64 (rd x6_2 4))) (fun _ hk => hk.2) (.int .i64 (rd x6_2 5))) (fun _ h_ => h_.1))) hb); replace BK101 := bkf_ BK101 hb; replace BK102 := Aside0.mk (blk_below (g := gb102) (o := .cells #[.int .i64 (wrap64 ((wrap64 (100 * (rd x6_2 1))) + (rd x6_2 2))), .int .i64 x103001_1, .int .i64 (rd x6_2 0), .int .i64 (rd x6_2 3), .int .i64 (rd x6_2 4), .int .i64 (rd x6_2 5)] 34 (0, 0)) bkp hb); replace HB := Aside0.mk (below_step bh hb); (try clear hb); (try clear hb2); (try clear hk); (try clear hi); obtain ⟨hcz56_0, hcz56_1, hcz56_2, hcz56_3, hcz56_4, hcz56_5⟩ := zcf6 BK101; obtain ⟨hfz56_0, hfz56_1, hfz56_2, hfz56_3, hfz56_4, hfz56_5⟩ := zff6 BK101))
               refine bodyPost_ret (results_ct rfl _ _ gb101 34 #[.int .i64 0, .int .i64 0, .int .i64 0, .int .i64 0, .int .i64 0, .int .i64 0] (0, 0) _ rfl bkp Tryd.underlying34 rfl (by kernel_rfl)) rfl ?_
               exact ⟨er, bh⟩
             ·
              rw [if_neg c35] at H
              exact absurd H (by simp)
            ·
             rw [if_neg c34] at H
             exact absurd H (by simp)
           ·
            rw [if_neg c33] at H
            exact absurd H (by simp)
          ·
           rw [if_neg c32] at H
           exact absurd H (by simp)
         ·
          rw [if_neg c31] at H
          exact absurd H (by simp)
        ·
         rw [if_neg c30] at H
         exact absurd H (by simp)
 ·
  rw [if_neg c2] at H
  have c2b0 : ((a0.size : Int) == 29) = false := beq_eq_false_iff_ne.mpr c2
  have c2b1 : ((a0.size : Int) != 29) = true := bne_iff_ne.mpr c2
  simp only [Option.some.injEq, Prod.mk.injEq] at H
  obtain ⟨rfl, rfl, rfl, rfl, rfl, rfl, rfl⟩ := H
  go_enter Tryd.func23, Tryd.ntmps23
  go_wp2_with (first | ((with_reducible refine gate_dst (N := 2) rfl ?_); refine bx 2 #[.int .i64 0, .int .i64 0, .int .i64 0, .int .i64 0, .int .i64 0, .int .i64 0] 34 ?_; intro gb101 hg w57 hbox hb; have BK101 := Aside0.mk (hbox); have GW101 := Aside0.mk (bz hg); have GE101 := Aside0.mk (bz hg); replace HB := Aside0.mk (below_step bh hb); clear hb hbox hg; obtain ⟨hcz58_0, hcz58_1, hcz58_2, hcz58_3, hcz58_4, hcz58_5⟩ := zcf6 BK101; obtain ⟨hfz58_0, hfz58_1, hfz58_2, hfz58_3, hfz58_4, hfz58_5⟩ := zff6 BK101))
  refine bodyPost_ret (results_ct rfl _ _ gb101 34 #[.int .i64 0, .int .i64 0, .int .i64 0, .int .i64 0, .int .i64 0, .int .i64 0] (0, 0) _ rfl bkp Tryd.underlying34 rfl (by kernel_rfl)) rfl ?_
  exact ⟨er, bh⟩

end Go.Proofs.YtkaknffeoeoajaaDoor.P
