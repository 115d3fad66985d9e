/- Functions of the Go program as Lean functions, and proofs that each Go function comes to its Lean function's answers; conditions: those that each theorem states. Written by this session's program hprint.py, which drives the kit's printer. -/
import Derived.Test.YtfbgpjhnjdhpcaaDoorP0
import Derived.Test.YtfbgpjhnjdhpcaaDoorPspecHexDigits
import Derived.Test.YtfbgpjhnjdhpcaaDoorPspecl1Hex
import Derived.Test.YtfbgpjhnjdhpcaaDoorXA
namespace Go.Proofs.YtfbgpjhnjdhpcaaDoor.P
open Go.RowKit Go.Proofs.YtfbgpjhnjdhpcaaDoorW.PrintWords Go.Proofs.YtfbgpjhnjdhpcaaDoorW.PrintLast Go.Proofs.YtfbgpjhnjdhpcaaDoorW.PrintMore
attribute [local go_sem] max2_int min2_int max_two min_two max_three min_three max_four min_four   -- for this text's walks alone
set_option linter.unusedVariables false
set_option linter.unusedSimpArgs false

/-! ### spec_l5Eat: function 59 -/
mutual
def spec_l5Eat.j0 : Nat → Int → Int → Int → Int → Bool → Int → Int → ByteArray → ByteArray → Int → Int → ByteArray → ByteArray → Option (Int × Int × ByteArray × ByteArray)
  | 0, _, _, _, _, _, _, _, _, _, _, _, _, _ => none
  | k + 1, x1, x6, x7, x14, x15, x102000, x102001, x102002, x102003, x104000, x104001, x104002, x104003 => if x15 = true then (some (x102000, x102001, x102002, x102003)) else (if x14 = 1 then ((spec_l1Hex.f k x1).bind fun t104 => (if t104 ≥ 0 then (spec_l5Eat.j1 k x1 (decide ((x102002.size : Int) < 13)) x102000 x102001 x102002 x102003 x104000 x104001 x104002 x104003) else (spec_l5Eat.j1 k x1 false x102000 x102001 x102002 x102003 x104000 x104001 x104002 x104003))) else (if x14 = 2 then (if x1 = 10 then (if x102001 = 0 then (some (6, x102001, x102002, x102003)) else (some (3, x102001, x102002, x102003))) else (some (x104000, x104001, x104002, x104003))) else (if x14 = 3 then ((some (([x1] : List Int) : List Int)).bind fun y110 => (if x102003.size + (strOfNums y110).size ≤ 9223372036854775807 then (if (wrap64 (x102001 - 1)) = 0 then (some (4, wrap64 (x102001 - 1), x102002, x102003 ++ (strOfNums y110))) else (some (x102000, wrap64 (x102001 - 1), x102002, x102003 ++ (strOfNums y110)))) else (none))) else (if x14 = 4 then (if x1 = x6 then (some (5, x102001, x102002, x102003)) else (some (x104000, x104001, x104002, x104003))) else (if x14 = 5 then (if x1 = 10 then (some (1, x102001, x102002, x102003)) else (some (x104000, x104001, x104002, x104003))) else (if x14 = 6 then (if x1 = x6 then (some (7, x102001, x102002, x102003)) else (some (x104000, x104001, x104002, x104003))) else (if x14 = 7 then (if x1 = 10 then (some (8, x102001, x102002, x102003)) else (some (x104000, x104001, x104002, x104003))) else (if x1 = x6 then (some (x7, x102001, x102002, x102003)) else (some (x104000, x104001, x104002, x104003))))))))))
def spec_l5Eat.j1 : Nat → Int → Bool → Int → Int → ByteArray → ByteArray → Int → Int → ByteArray → ByteArray → Option (Int × Int × ByteArray × ByteArray)
  | 0, _, _, _, _, _, _, _, _, _, _ => none
  | k + 1, x1, x29, x102000, x102001, x102002, x102003, x104000, x104001, x104002, x104003 => if x29 = true then ((some (([x1] : List Int) : List Int)).bind fun y105 => (if x102002.size + (strOfNums y105).size ≤ 9223372036854775807 then (some (x102000, x102001, x102002 ++ (strOfNums y105), x102003)) else (none))) else ((spec_HexDigits.f k x102002).bind fun bt108 => (if x1 = 13 then (if bt108.2 = true then (spec_l5Eat.j2 k bt108.1 (decide (bt108.1 > (wrap64 (4000 - (x102003.size : Int))))) x102000 x102001 x102002 x102003 x104000 x104001 x104002 x104003) else (spec_l5Eat.j2 k bt108.1 true x102000 x102001 x102002 x102003 x104000 x104001 x104002 x104003)) else (spec_l5Eat.j2 k bt108.1 true x102000 x102001 x102002 x102003 x104000 x104001 x104002 x104003)))
def spec_l5Eat.j2 : Nat → Int → Bool → Int → Int → ByteArray → ByteArray → Int → Int → ByteArray → ByteArray → Option (Int × Int × ByteArray × ByteArray)
  | 0, _, _, _, _, _, _, _, _, _, _ => none
  | k + 1, x8, x57, x102000, x102001, x102002, x102003, x104000, x104001, x104002, x104003 => if x57 = true then (some (x104000, x104001, x104002, x104003)) else (some (2, x8, (⟨#[]⟩ : ByteArray), x102003))
end
def spec_l5Eat.f (k : Nat) (a0_0 : Int) (a0_1 : Int) (a0_2 : ByteArray) (a0_3 : ByteArray) (a1 : Int) : Option (Int × Int × ByteArray × ByteArray) := if a0_0 = 8 then (spec_l5Eat.j0 k a1 13 0 a0_0 (a0_0 == 8) a0_0 a0_1 a0_2 a0_3 9 0 (⟨#[]⟩ : ByteArray) a0_3) else (spec_l5Eat.j0 k a1 13 0 a0_0 (a0_0 == 9) a0_0 a0_1 a0_2 a0_3 9 0 (⟨#[]⟩ : ByteArray) a0_3)
theorem spec_l5Eat.mono_l : ∀ k, (∀ y0 y1 y2 y3 y4 y5 y6 y7 y8 y9 y10 y11 y12, LeO (spec_l5Eat.j0 k y0 y1 y2 y3 y4 y5 y6 y7 y8 y9 y10 y11 y12) (spec_l5Eat.j0 (k + 1) y0 y1 y2 y3 y4 y5 y6 y7 y8 y9 y10 y11 y12)) ∧ (∀ y0 y1 y2 y3 y4 y5 y6 y7 y8 y9, LeO (spec_l5Eat.j1 k y0 y1 y2 y3 y4 y5 y6 y7 y8 y9) (spec_l5Eat.j1 (k + 1) y0 y1 y2 y3 y4 y5 y6 y7 y8 y9)) ∧ (∀ y0 y1 y2 y3 y4 y5 y6 y7 y8 y9, LeO (spec_l5Eat.j2 k y0 y1 y2 y3 y4 y5 y6 y7 y8 y9) (spec_l5Eat.j2 (k + 1) y0 y1 y2 y3 y4 y5 y6 y7 y8 y9))
  | 0 => ⟨fun _ _ _ _ _ _ _ _ _ _ _ _ _ r h => by simp [spec_l5Eat.j0] at h, fun _ _ _ _ _ _ _ _ _ _ r h => by simp [spec_l5Eat.j1] at h, fun _ _ _ _ _ _ _ _ _ _ r h => by simp [spec_l5Eat.j2] at h⟩
  | k + 1 => by
    obtain ⟨ih0, ih1, ih2⟩ := spec_l5Eat.mono_l k
    refine ⟨?_, ?_, ?_⟩
    · intro y0 y1 y2 y3 y4 y5 y6 y7 y8 y9 y10 y11 y12
      unfold spec_l5Eat.j0
      repeat' first
      | (with_reducible exact ih0 _ _ _ _ _ _ _ _ _ _ _ _ _)
      | (with_reducible exact ih1 _ _ _ _ _ _ _ _ _ _)
      | (with_reducible exact ih2 _ _ _ _ _ _ _ _ _ _)
      | (with_reducible exact spec_HexDigits.mono _ _)
      | (with_reducible exact spec_l1Hex.mono _ _)
      | (with_reducible exact LeO.refl _)
      | (with_reducible exact LeO.none _)
      | (with_reducible refine LeO.ite ?_ ?_)
      | (with_reducible refine LeO.bind ?_ (fun _ => ?_))
      | exact ih0 _ _ _ _ _ _ _ _ _ _ _ _ _
      | exact ih1 _ _ _ _ _ _ _ _ _ _
      | exact ih2 _ _ _ _ _ _ _ _ _ _
      | exact spec_HexDigits.mono _ _
      | exact spec_l1Hex.mono _ _
      | exact LeO.none _
      | refine LeO.ite ?_ ?_
      | refine LeO.bind ?_ (fun _ => ?_)
    · intro y0 y1 y2 y3 y4 y5 y6 y7 y8 y9
      unfold spec_l5Eat.j1
      repeat' first
      | (with_reducible exact ih0 _ _ _ _ _ _ _ _ _ _ _ _ _)
      | (with_reducible exact ih1 _ _ _ _ _ _ _ _ _ _)
      | (with_reducible exact ih2 _ _ _ _ _ _ _ _ _ _)
      | (with_reducible exact spec_HexDigits.mono _ _)
      | (with_reducible exact spec_l1Hex.mono _ _)
      | (with_reducible exact LeO.refl _)
      | (with_reducible exact LeO.none _)
      | (with_reducible refine LeO.ite ?_ ?_)
      | (with_reducible refine LeO.bind ?_ (fun _ => ?_))
      | exact ih0 _ _ _ _ _ _ _ _ _ _ _ _ _
      | exact ih1 _ _ _ _ _ _ _ _ _ _
      | exact ih2 _ _ _ _ _ _ _ _ _ _
      | exact spec_HexDigits.mono _ _
      | exact spec_l1Hex.mono _ _
      | exact LeO.none _
      | refine LeO.ite ?_ ?_
      | refine LeO.bind ?_ (fun _ => ?_)
    · intro y0 y1 y2 y3 y4 y5 y6 y7 y8 y9
      unfold spec_l5Eat.j2
      repeat' first
      | (with_reducible exact ih0 _ _ _ _ _ _ _ _ _ _ _ _ _)
      | (with_reducible exact ih1 _ _ _ _ _ _ _ _ _ _)
      | (with_reducible exact ih2 _ _ _ _ _ _ _ _ _ _)
      | (with_reducible exact spec_HexDigits.mono _ _)
      | (with_reducible exact spec_l1Hex.mono _ _)
      | (with_reducible exact LeO.refl _)
      | (with_reducible exact LeO.none _)
      | (with_reducible refine LeO.ite ?_ ?_)
      | (with_reducible refine LeO.bind ?_ (fun _ => ?_))
      | exact ih0 _ _ _ _ _ _ _ _ _ _ _ _ _
      | exact ih1 _ _ _ _ _ _ _ _ _ _
      | exact ih2 _ _ _ _ _ _ _ _ _ _
      | exact spec_HexDigits.mono _ _
      | exact spec_l1Hex.mono _ _
      | exact LeO.none _
      | refine LeO.ite ?_ ?_
      | refine LeO.bind ?_ (fun _ => ?_)
theorem spec_l5Eat.mono : ∀ a0 a1 a2 a3 a4 k, LeO (spec_l5Eat.f k a0 a1 a2 a3 a4) (spec_l5Eat.f (k + 1) a0 a1 a2 a3 a4) := by
  intro a0 a1 a2 a3 a4 k
  obtain ⟨ih0, ih1, ih2⟩ := spec_l5Eat.mono_l k
  unfold spec_l5Eat.f
  repeat' first
      | (with_reducible exact ih0 _ _ _ _ _ _ _ _ _ _ _ _ _)
      | (with_reducible exact ih1 _ _ _ _ _ _ _ _ _ _)
      | (with_reducible exact ih2 _ _ _ _ _ _ _ _ _ _)
      | (with_reducible exact spec_HexDigits.mono _ _)
      | (with_reducible exact spec_l1Hex.mono _ _)
      | (with_reducible exact LeO.refl _)
      | (with_reducible exact LeO.none _)
      | (with_reducible refine LeO.ite ?_ ?_)
      | (with_reducible refine LeO.bind ?_ (fun _ => ?_))
      | exact ih0 _ _ _ _ _ _ _ _ _ _ _ _ _
      | exact ih1 _ _ _ _ _ _ _ _ _ _
      | exact ih2 _ _ _ _ _ _ _ _ _ _
      | exact spec_HexDigits.mono _ _
      | exact spec_l1Hex.mono _ _
      | exact LeO.none _
      | refine LeO.ite ?_ ?_
      | refine LeO.bind ?_ (fun _ => ?_)
set_option maxHeartbeats 8000000 in
set_option maxRecDepth 100000 in
theorem spec_l5Eat.calls (k : Nat) (a0_0 : Int) (a0_1 : Int) (a0_2 : ByteArray) (a0_3 : ByteArray) (a1 : Int) (r1 : Int) (r2 : Int) (r3 : ByteArray) (r4 : ByteArray) (w : World) (h : spec_l5Eat.f k a0_0 a0_1 a0_2 a0_3 a1 = some (r1, r2, r3, r4)) :
    Calls Tryd.prog 59 #[.agg #[.int .i64 a0_0, .int .i64 a0_1, .string a0_2, .string a0_3], .int .u8 a1] w fun e w' => e = .returned (.agg #[.int .i64 r1, .int .i64 r2, .string r3, .string r4]) ∧ Below w.heap.size w w' := by
  have hu35 := Tryd.underlying35
  have HB := Aside0.mk (Below.refl w.heap.size w)
  have H : (if a0_0 = 8 then (spec_l5Eat.j0 k a1 13 0 a0_0 (a0_0 == 8) a0_0 a0_1 a0_2 a0_3 9 0 (⟨#[]⟩ : ByteArray) a0_3) else (spec_l5Eat.j0 k a1 13 0 a0_0 (a0_0 == 9) a0_0 a0_1 a0_2 a0_3 9 0 (⟨#[]⟩ : ByteArray) a0_3)) = some (r1, r2, r3, r4) := h
  clear h
  have HC3 := Aside0.mk H
  clear H
  go_enter Tryd.func59, Tryd.ntmps59
  go_upto_if 15 with (first | ((with_reducible refine gate_dst (N := 2) rfl ?_); (try (refine gate_guard (by rfl) ?_; dsimp only)); refine bx 2 #[.int .i64 a0_0, .int .i64 a0_1, .string a0_2, .string a0_3] 35 ?_; intro gb101 hg w4 hbox hb; have BK101 := Aside0.mk (hbox); have GW101 := Aside0.mk (bz hg); have GE101 := Aside0.mk (bz hg); replace HB := Aside0.mk (below_step bh hb); clear hb hbox hg) | ((with_reducible refine gate_dst (N := 4) rfl ?_); (try (refine gate_guard (by rfl) ?_; dsimp only)); refine bx 4 #[.int .i64 0, .int .i64 0, .string (⟨#[]⟩ : ByteArray), .string (⟨#[]⟩ : ByteArray)] 35 ?_; intro gb102 hg w5 hbox hb; have BK102 := Aside0.mk (hbox); have GW102 := Aside0.mk (bz hg); have GE102 := Aside0.mk (bz hg); have NB101_102 := Aside0.mk ((nl (o := .cells #[.int .i64 a0_0, .int .i64 a0_1, .string a0_2, .string a0_3] 35 (0, 0)) hg bk : gb101 ≠ gb102)); have NB102_101 := Aside0.mk ((ng (o := .cells #[.int .i64 a0_0, .int .i64 a0_1, .string a0_2, .string a0_3] 35 (0, 0)) hg bk : gb102 ≠ gb101)); replace BK101 := Aside0.mk (blk_below (g := gb101) (o := .cells #[.int .i64 a0_0, .int .i64 a0_1, .string a0_2, .string a0_3] 35 (0, 0)) bk hb); replace HB := Aside0.mk (below_step bh hb); clear hb hbox hg; have hnb6 := NB101_102.out; have hnc6 := NB102_101.out; have hcz7_0 : w5.cell? ⟨gb101, 0, none⟩ = some (.int .i64 a0_0) := bc BK101 0; have hcz7_1 : w5.cell? ⟨gb101, 1, none⟩ = some (.int .i64 a0_1) := bc BK101 1; have hcz7_2 : w5.cell? ⟨gb101, 2, none⟩ = some (.string a0_2) := bc BK101 2; have hcz7_3 : w5.cell? ⟨gb101, 3, none⟩ = some (.string a0_3) := bc BK101 3; have hfz7_0 := blk_frozen BK101.out 0; have hfz7_1 := blk_frozen BK101.out 1; have hfz7_2 := blk_frozen BK101.out 2; have hfz7_3 := blk_frozen BK101.out 3) | ((with_reducible refine gate_dst (N := 5) rfl ?_); (try (refine gate_guard (by rfl) ?_; dsimp only)); refine bx 5 #[.int .i64 0, .int .i64 0, .string (⟨#[]⟩ : ByteArray), .string (⟨#[]⟩ : ByteArray)] 35 ?_; intro gb103 hg w8 hbox hb; have BK103 := Aside0.mk (hbox); have GW103 := Aside0.mk (bz hg); have GE103 := Aside0.mk (bz hg); have NB101_103 := Aside0.mk ((nl (o := .cells #[.int .i64 a0_0, .int .i64 a0_1, .string a0_2, .string a0_3] 35 (0, 0)) hg bk : gb101 ≠ gb103)); have NB103_101 := Aside0.mk ((ng (o := .cells #[.int .i64 a0_0, .int .i64 a0_1, .string a0_2, .string a0_3] 35 (0, 0)) hg bk : gb103 ≠ gb101)); have NB102_103 := Aside0.mk ((nl (o := .cells #[.int .i64 0, .int .i64 0, .string (⟨#[]⟩ : ByteArray), .string (⟨#[]⟩ : ByteArray)] 35 (0, 0)) hg bk : gb102 ≠ gb103)); have NB103_102 := Aside0.mk ((ng (o := .cells #[.int .i64 0, .int .i64 0, .string (⟨#[]⟩ : ByteArray), .string (⟨#[]⟩ : ByteArray)] 35 (0, 0)) hg bk : gb103 ≠ gb102)); replace BK101 := Aside0.mk (blk_below (g := gb101) (o := .cells #[.int .i64 a0_0, .int .i64 a0_1, .string a0_2, .string a0_3] 35 (0, 0)) bk hb); replace BK102 := Aside0.mk (blk_below (g := gb102) (o := .cells #[.int .i64 0, .int .i64 0, .string (⟨#[]⟩ : ByteArray), .string (⟨#[]⟩ : ByteArray)] 35 (0, 0)) bk hb); replace HB := Aside0.mk (below_step bh hb); clear hb hbox hg; have hnb9 := NB103_101.out; have hnc9 := NB101_103.out; have hnb10 := NB103_102.out; have hnc10 := NB102_103.out; have hcz11_0 : w8.cell? ⟨gb103, 0, none⟩ = some (.int .i64 0) := bc BK103 0; have hcz11_1 : w8.cell? ⟨gb103, 1, none⟩ = some (.int .i64 0) := bc BK103 1; have hcz11_2 : w8.cell? ⟨gb103, 2, none⟩ = some (.string (⟨#[]⟩ : ByteArray)) := bc BK103 2; have hcz11_3 : w8.cell? ⟨gb103, 3, none⟩ = some (.string (⟨#[]⟩ : ByteArray)) := bc BK103 3; have hfz11_0 := blk_frozen BK103.out 0; have hfz11_1 := blk_frozen BK103.out 1; have hfz11_2 := blk_frozen BK103.out 2; have hfz11_3 := blk_frozen BK103.out 3; have hcz12_0 : w8.cell? ⟨gb101, 0, none⟩ = some (.int .i64 a0_0) := bc BK101 0; have hcz12_1 : w8.cell? ⟨gb101, 1, none⟩ = some (.int .i64 a0_1) := bc BK101 1; have hcz12_2 : w8.cell? ⟨gb101, 2, none⟩ = some (.string a0_2) := bc BK101 2; have hcz12_3 : w8.cell? ⟨gb101, 3, none⟩ = some (.string a0_3) := bc BK101 3; have hfz12_0 := blk_frozen BK101.out 0; have hfz12_1 := blk_frozen BK101.out 1; have hfz12_2 := blk_frozen BK101.out 2; have hfz12_3 := blk_frozen BK101.out 3))
  (try simp only [Act.put, List.setIfInBounds_toArray, List.set_cons_zero, List.set_cons_succ])
  go_cut [15] (fun v15 wc => ∃ (kq : Nat) (x15_2 : Bool), v15 = .bool x15_2 ∧ Aside0 (spec_l5Eat.j0 kq a1 13 0 a0_0 x15_2 a0_0 a0_1 a0_2 a0_3 9 0 (⟨#[]⟩ : ByteArray) a0_3 = some (r1, r2, r3, r4)) ∧ Aside0 (kq ≤ k) ∧ Aside0 (wc.heap[gb101]? = some (.cells #[.int .i64 a0_0, .int .i64 a0_1, .string a0_2, .string a0_3] 35 (0, 0))) ∧ Aside0 (wc.heap[gb102]? = some (.cells #[.int .i64 0, .int .i64 0, .string (⟨#[]⟩ : ByteArray), .string (⟨#[]⟩ : ByteArray)] 35 (0, 0))) ∧ Aside0 (wc.heap[gb103]? = some (.cells #[.int .i64 9, .int .i64 0, .string (⟨#[]⟩ : ByteArray), .string a0_3] 35 (0, 0))) ∧ Aside0 (Below w.heap.size w wc))
  case first =>
    have H := HC3.out
    clear HC3
    by_cases c13 : a0_0 = 8
    · rw [if_pos c13] at H
      have c13b0 : (a0_0 == 8) = true := beq_iff_eq.mpr c13
      have c13b1 : (a0_0 != 8) = false := bne_eq_false_iff_eq.mpr c13
      clear c13
      (first | rw [c13b0] | (simp only [i64_w, i32_w]; rw [c13b0]) | skip)
      have H' := Aside0.mk H
      clear H
      go_wp2
      go_meet
      case rel => exact ⟨_, ((a0_0 == 8)), (by first | rfl | (simp; done) | (simp [*]; done)), H', ⟨by first | omega | exact Nat.le_refl _⟩, ⟨by (with_reducible repeat (first | refine blk_drewN ?_ _ | refine blk_drew ?_ | refine blk_alloc ?_ _)); refine blk_far ?_ NB101_103.out _; (with_reducible repeat (first | refine blk_drewN ?_ _ | refine blk_drew ?_ | refine blk_alloc ?_ _)); refine blk_far ?_ NB101_103.out _; (with_reducible repeat (first | refine blk_drewN ?_ _ | refine blk_drew ?_ | refine blk_alloc ?_ _)); refine blk_far ?_ NB101_103.out _; (with_reducible repeat (first | refine blk_drewN ?_ _ | refine blk_drew ?_ | refine blk_alloc ?_ _)); refine blk_far ?_ NB101_103.out _; (with_reducible repeat (first | refine blk_drewN ?_ _ | refine blk_drew ?_ | refine blk_alloc ?_ _)); exact BK101.out⟩, ⟨by (with_reducible repeat (first | refine blk_drewN ?_ _ | refine blk_drew ?_ | refine blk_alloc ?_ _)); refine blk_far ?_ NB102_103.out _; (with_reducible repeat (first | refine blk_drewN ?_ _ | refine blk_drew ?_ | refine blk_alloc ?_ _)); refine blk_far ?_ NB102_103.out _; (with_reducible repeat (first | refine blk_drewN ?_ _ | refine blk_drew ?_ | refine blk_alloc ?_ _)); refine blk_far ?_ NB102_103.out _; (with_reducible repeat (first | refine blk_drewN ?_ _ | refine blk_drew ?_ | refine blk_alloc ?_ _)); refine blk_far ?_ NB102_103.out _; (with_reducible repeat (first | refine blk_drewN ?_ _ | refine blk_drew ?_ | refine blk_alloc ?_ _)); exact BK102.out⟩, ⟨by (with_reducible repeat (first | refine blk_drewN ?_ _ | refine blk_drew ?_ | refine blk_alloc ?_ _)); refine blk_put (cs := #[.int .i64 9, .int .i64 0, .string (⟨#[]⟩ : ByteArray), .string (⟨#[]⟩ : ByteArray)]) ?_ 3 _ rfl; (with_reducible repeat (first | refine blk_drewN ?_ _ | refine blk_drew ?_ | refine blk_alloc ?_ _)); refine blk_put (cs := #[.int .i64 9, .int .i64 0, .string (⟨#[]⟩ : ByteArray), .string (⟨#[]⟩ : ByteArray)]) ?_ 2 _ rfl; (with_reducible repeat (first | refine blk_drewN ?_ _ | refine blk_drew ?_ | refine blk_alloc ?_ _)); refine blk_put (cs := #[.int .i64 9, .int .i64 0, .string (⟨#[]⟩ : ByteArray), .string (⟨#[]⟩ : ByteArray)]) ?_ 1 _ rfl; (with_reducible repeat (first | refine blk_drewN ?_ _ | refine blk_drew ?_ | refine blk_alloc ?_ _)); refine blk_put (cs := #[.int .i64 0, .int .i64 0, .string (⟨#[]⟩ : ByteArray), .string (⟨#[]⟩ : ByteArray)]) ?_ 0 _ rfl; (with_reducible repeat (first | refine blk_drewN ?_ _ | refine blk_drew ?_ | refine blk_alloc ?_ _)); exact BK103.out⟩, ⟨bh⟩⟩
    · rw [if_neg c13] at H
      have c13b0 : (a0_0 == 8) = false := beq_eq_false_iff_ne.mpr c13
      have c13b1 : (a0_0 != 8) = true := bne_iff_ne.mpr c13
      (first | rw [c13b0] | (simp only [i64_w, i32_w]; rw [c13b0]) | skip)
      have H' := Aside0.mk H
      clear H
      go_wp2
      go_meet
      case rel => exact ⟨_, ((a0_0 == 9)), (by first | rfl | (simp; done) | (simp [*]; done)), H', ⟨by first | omega | exact Nat.le_refl _⟩, ⟨by (with_reducible repeat (first | refine blk_drewN ?_ _ | refine blk_drew ?_ | refine blk_alloc ?_ _)); refine blk_far ?_ NB101_103.out _; (with_reducible repeat (first | refine blk_drewN ?_ _ | refine blk_drew ?_ | refine blk_alloc ?_ _)); refine blk_far ?_ NB101_103.out _; (with_reducible repeat (first | refine blk_drewN ?_ _ | refine blk_drew ?_ | refine blk_alloc ?_ _)); refine blk_far ?_ NB101_103.out _; (with_reducible repeat (first | refine blk_drewN ?_ _ | refine blk_drew ?_ | refine blk_alloc ?_ _)); refine blk_far ?_ NB101_103.out _; (with_reducible repeat (first | refine blk_drewN ?_ _ | refine blk_drew ?_ | refine blk_alloc ?_ _)); exact BK101.out⟩, ⟨by (with_reducible repeat (first | refine blk_drewN ?_ _ | refine blk_drew ?_ | refine blk_alloc ?_ _)); refine blk_far ?_ NB102_103.out _; (with_reducible repeat (first | refine blk_drewN ?_ _ | refine blk_drew ?_ | refine blk_alloc ?_ _)); refine blk_far ?_ NB102_103.out _; (with_reducible repeat (first | refine blk_drewN ?_ _ | refine blk_drew ?_ | refine blk_alloc ?_ _)); refine blk_far ?_ NB102_103.out _; (with_reducible repeat (first | refine blk_drewN ?_ _ | refine blk_drew ?_ | refine blk_alloc ?_ _)); refine blk_far ?_ NB102_103.out _; (with_reducible repeat (first | refine blk_drewN ?_ _ | refine blk_drew ?_ | refine blk_alloc ?_ _)); exact BK102.out⟩, ⟨by (with_reducible repeat (first | refine blk_drewN ?_ _ | refine blk_drew ?_ | refine blk_alloc ?_ _)); refine blk_put (cs := #[.int .i64 9, .int .i64 0, .string (⟨#[]⟩ : ByteArray), .string (⟨#[]⟩ : ByteArray)]) ?_ 3 _ rfl; (with_reducible repeat (first | refine blk_drewN ?_ _ | refine blk_drew ?_ | refine blk_alloc ?_ _)); refine blk_put (cs := #[.int .i64 9, .int .i64 0, .string (⟨#[]⟩ : ByteArray), .string (⟨#[]⟩ : ByteArray)]) ?_ 2 _ rfl; (with_reducible repeat (first | refine blk_drewN ?_ _ | refine blk_drew ?_ | refine blk_alloc ?_ _)); refine blk_put (cs := #[.int .i64 9, .int .i64 0, .string (⟨#[]⟩ : ByteArray), .string (⟨#[]⟩ : ByteArray)]) ?_ 1 _ rfl; (with_reducible repeat (first | refine blk_drewN ?_ _ | refine blk_drew ?_ | refine blk_alloc ?_ _)); refine blk_put (cs := #[.int .i64 0, .int .i64 0, .string (⟨#[]⟩ : ByteArray), .string (⟨#[]⟩ : ByteArray)]) ?_ 0 _ rfl; (with_reducible repeat (first | refine blk_drewN ?_ _ | refine blk_drew ?_ | refine blk_alloc ?_ _)); exact BK103.out⟩, ⟨bh⟩⟩
  case rest =>
    clear HC3
    try clear c1
    try clear p2
    try clear c5
    try clear c6
    try clear c9
    try clear c10
    try clear c13
    try clear c13b0
    try clear c13b1
    try clear hcz11_0
    try clear hcz11_1
    try clear hcz11_2
    try clear hcz11_3
    try clear hcz12_0
    try clear hcz12_1
    try clear hcz12_2
    try clear hcz12_3
    try clear hcz7_0
    try clear hcz7_1
    try clear hcz7_2
    try clear hcz7_3
    try clear hfz11_0
    try clear hfz11_1
    try clear hfz11_2
    try clear hfz11_3
    try clear hfz12_0
    try clear hfz12_1
    try clear hfz12_2
    try clear hfz12_3
    try clear hfz7_0
    try clear hfz7_1
    try clear hfz7_2
    try clear hfz7_3
    obtain ⟨kq, x15_2, rfl, HA, HJ2, BK101, BK102, BK103, HB⟩ := hcut
    cases kq with
    | zero => exact absurd HA.out (by simp [spec_l5Eat.j0])
    | succ kj2 =>
      have H := HA.out
      clear HA
      simp only [spec_l5Eat.j0] at H
      by_cases c14 : x15_2 = true
      · subst c14
        have H1 : (some (a0_0, a0_1, a0_2, a0_3)) = some (r1, r2, r3, r4) := by rw [if_pos rfl] at H; exact H
        clear H
        have H := H1
        clear H1
        simp only [Option.some.injEq, Prod.mk.injEq] at H
        obtain ⟨rfl, rfl, rfl, rfl⟩ := H
        have hnb15 := NB101_102.out
        have hnc15 := NB102_101.out
        have hnb16 := NB101_103.out
        have hnc16 := NB103_101.out
        have hcz17_0 : wc.cell? ⟨gb101, 0, none⟩ = some (.int .i64 a0_0) := bc BK101 0
        have hcz17_1 : wc.cell? ⟨gb101, 1, none⟩ = some (.int .i64 a0_1) := bc BK101 1
        have hcz17_2 : wc.cell? ⟨gb101, 2, none⟩ = some (.string a0_2) := bc BK101 2
        have hcz17_3 : wc.cell? ⟨gb101, 3, none⟩ = some (.string a0_3) := bc BK101 3
        have hfz17_0 := blk_frozen BK101.out 0
        have hfz17_1 := blk_frozen BK101.out 1
        have hfz17_2 := blk_frozen BK101.out 2
        have hfz17_3 := blk_frozen BK101.out 3
        have hnb18 := NB102_103.out
        have hnc18 := NB103_102.out
        have hcz19_0 : wc.cell? ⟨gb102, 0, none⟩ = some (.int .i64 0) := bc BK102 0
        have hcz19_1 : wc.cell? ⟨gb102, 1, none⟩ = some (.int .i64 0) := bc BK102 1
        have hcz19_2 : wc.cell? ⟨gb102, 2, none⟩ = some (.string (⟨#[]⟩ : ByteArray)) := bc BK102 2
        have hcz19_3 : wc.cell? ⟨gb102, 3, none⟩ = some (.string (⟨#[]⟩ : ByteArray)) := bc BK102 3
        have hfz19_0 := blk_frozen BK102.out 0
        have hfz19_1 := blk_frozen BK102.out 1
        have hfz19_2 := blk_frozen BK102.out 2
        have hfz19_3 := blk_frozen BK102.out 3
        go_wp2
        refine bodyPost_ret (results_cell_row rfl _ _ gb102 35 #[.int .i64 a0_0, .int .i64 a0_1, .string a0_2, .string a0_3] (0, 0) _ rfl bkp Tryd.underlying35 rfl (by kernel_rfl)) rfl ?_
        exact ⟨er, bh⟩
      · replace c14 := Bool.eq_false_iff.mpr c14
        subst c14
        rw [if_neg (show ¬ (false = true) by decide)] at H
        by_cases c20 : a0_0 = 1
        · rw [if_pos c20] at H
          have c20b0 : (a0_0 == 1) = true := beq_iff_eq.mpr c20
          have c20b1 : (a0_0 != 1) = false := bne_eq_false_iff_eq.mpr c20
          clear c20
          have HC21 := Aside0.mk H
          clear H
          go_upto_region 9 with (fail)
          go_cut [29] (fun v29 wc => ∃ (kq : Nat) (x29_20 : Bool), v29 = .bool x29_20 ∧ Aside0 (spec_l5Eat.j1 kq a1 x29_20 a0_0 a0_1 a0_2 a0_3 9 0 (⟨#[]⟩ : ByteArray) a0_3 = some (r1, r2, r3, r4)) ∧ Aside0 (kq ≤ kj2) ∧ Aside0 (wc.heap[gb101]? = some (.cells #[.int .i64 a0_0, .int .i64 a0_1, .string a0_2, .string a0_3] 35 (0, 0))) ∧ Aside0 (wc.heap[gb102]? = some (.cells #[.int .i64 0, .int .i64 0, .string (⟨#[]⟩ : ByteArray), .string (⟨#[]⟩ : ByteArray)] 35 (0, 0))) ∧ Aside0 (wc.heap[gb103]? = some (.cells #[.int .i64 9, .int .i64 0, .string (⟨#[]⟩ : ByteArray), .string a0_3] 35 (0, 0))) ∧ Aside0 (Below w.heap.size w wc))
          case first =>
            have H := HC21.out
            clear HC21
            obtain ⟨t104, A220, H⟩ := Option.bind_eq_some_iff.mp H
            try dsimp only at H
            have A22 := Aside0.mk A220
            clear A220
            by_cases c23 : t104 ≥ 0
            · rw [if_pos c23] at H
              have c23b0 : decide (0 ≤ t104) = true := decide_eq_true c23
              clear c23
              (first | rw [c23b0] | (simp only [i64_w, i32_w]; rw [c23b0]) | skip)
              have H' := Aside0.mk H
              clear H
              go_wp2_with (first | ((with_reducible refine gate_callee (f := 43) rfl ?_); refine goesL_ (some 22) rfl rfl Tryd.func43 (by kernel_rfl) rfl #[.int .u8 a1] rfl mc ?_; (with_reducible refine (spec_l1Hex.calls kj2 a1 t104 _ A22.out).mono ?_); rintro e w' ⟨rfl, ⟨nd, rfl⟩⟩; refine ⟨_, rfl, ?_⟩; have hnb24 := NB101_102.out; have hnc24 := NB102_101.out; have hnb25 := NB101_103.out; have hnc25 := NB103_101.out; have hcz26_0 : wc.cell? ⟨gb101, 0, none⟩ = some (.int .i64 a0_0) := bc BK101 0; have hcz26_1 : wc.cell? ⟨gb101, 1, none⟩ = some (.int .i64 a0_1) := bc BK101 1; have hcz26_2 : wc.cell? ⟨gb101, 2, none⟩ = some (.string a0_2) := bc BK101 2; have hcz26_3 : wc.cell? ⟨gb101, 3, none⟩ = some (.string a0_3) := bc BK101 3; have hfz26_0 := blk_frozen BK101.out 0; have hfz26_1 := blk_frozen BK101.out 1; have hfz26_2 := blk_frozen BK101.out 2; have hfz26_3 := blk_frozen BK101.out 3))
              go_meet
              case rel => exact ⟨_, (decide ((a0_2.size : Int) < 13)), (by first | rfl | (simp; done) | (simp [*]; done)), H', ⟨by have := HJ2.out; first | omega | exact Nat.le_refl _⟩, ⟨by (with_reducible repeat (first | refine blk_drewN ?_ _ | refine blk_drew ?_ | refine blk_alloc ?_ _)); exact BK101.out⟩, ⟨by (with_reducible repeat (first | refine blk_drewN ?_ _ | refine blk_drew ?_ | refine blk_alloc ?_ _)); exact BK102.out⟩, ⟨by (with_reducible repeat (first | refine blk_drewN ?_ _ | refine blk_drew ?_ | refine blk_alloc ?_ _)); exact BK103.out⟩, ⟨bh⟩⟩
            · rw [if_neg c23] at H
              have c23b0 : decide (0 ≤ t104) = false := decide_eq_false c23
              clear c23
              (first | rw [c23b0] | (simp only [i64_w, i32_w]; rw [c23b0]) | skip)
              have H' := Aside0.mk H
              clear H
              go_wp2_with (first | ((with_reducible refine gate_callee (f := 43) rfl ?_); refine goesL_ (some 22) rfl rfl Tryd.func43 (by kernel_rfl) rfl #[.int .u8 a1] rfl mc ?_; (with_reducible refine (spec_l1Hex.calls kj2 a1 t104 _ A22.out).mono ?_); rintro e w' ⟨rfl, ⟨nd, rfl⟩⟩; refine ⟨_, rfl, ?_⟩))
              go_meet
              case rel => exact ⟨_, (false), (by first | rfl | (simp; done) | (simp [*]; done)), H', ⟨by have := HJ2.out; first | omega | exact Nat.le_refl _⟩, ⟨by (with_reducible repeat (first | refine blk_drewN ?_ _ | refine blk_drew ?_ | refine blk_alloc ?_ _)); exact BK101.out⟩, ⟨by (with_reducible repeat (first | refine blk_drewN ?_ _ | refine blk_drew ?_ | refine blk_alloc ?_ _)); exact BK102.out⟩, ⟨by (with_reducible repeat (first | refine blk_drewN ?_ _ | refine blk_drew ?_ | refine blk_alloc ?_ _)); exact BK103.out⟩, ⟨bh⟩⟩
          case rest =>
            clear HC21
            try clear c1
            try clear c2
            try clear p2
            try clear c4
            try clear c5
            try clear c6
            try clear p6
            try clear c9
            try clear c10
            try clear c13
            try clear c13b0
            try clear c13b1
            try clear c14
            try clear c15
            try clear c16
            try clear c18
            try clear c20
            try clear c20b0
            try clear c20b1
            try clear c23
            try clear c23b0
            try clear c24
            try clear c25
            try clear hcz11_0
            try clear hcz11_1
            try clear hcz11_2
            try clear hcz11_3
            try clear hcz12_0
            try clear hcz12_1
            try clear hcz12_2
            try clear hcz12_3
            try clear hcz17_0
            try clear hcz17_1
            try clear hcz17_2
            try clear hcz17_3
            try clear hcz19_0
            try clear hcz19_1
            try clear hcz19_2
            try clear hcz19_3
            try clear hcz26_0
            try clear hcz26_1
            try clear hcz26_2
            try clear hcz26_3
            try clear hcz7_0
            try clear hcz7_1
            try clear hcz7_2
            try clear hcz7_3
            try clear hfz11_0
            try clear hfz11_1
            try clear hfz11_2
            try clear hfz11_3
            try clear hfz12_0
            try clear hfz12_1
            try clear hfz12_2
            try clear hfz12_3
            try clear hfz17_0
            try clear hfz17_1
            try clear hfz17_2
            try clear hfz17_3
            try clear hfz19_0
            try clear hfz19_1
            try clear hfz19_2
            try clear hfz19_3
            try clear hfz26_0
            try clear hfz26_1
            try clear hfz26_2
            try clear hfz26_3
            try clear hfz7_0
            try clear hfz7_1
            try clear hfz7_2
            try clear hfz7_3
            try clear p2
            obtain ⟨kq, x29_20, rfl, HA, HJ20, BK101, BK102, BK103, HB⟩ := hcut
            cases kq with
            | zero => exact absurd HA.out (by simp [spec_l5Eat.j1])
            | succ kj20 =>
              have H := HA.out
              clear HA
              simp only [spec_l5Eat.j1] at H
              by_cases c27 : x29_20 = true
              · subst c27
                rw [if_pos rfl] at H
                obtain ⟨y105, hy105⟩ : ∃ y_ : List Int, y_ = (([a1] : List Int)) := ⟨_, rfl⟩
                replace H : (if a0_2.size + (strOfNums y105).size ≤ 9223372036854775807 then (some (a0_0, a0_1, a0_2 ++ (strOfNums y105), a0_3)) else (none)) = some (r1, r2, r3, r4) := by first | (rw [hy105]; with_reducible exact H) | (have H2_ := (Option.bind_some _ _).symm.trans H; rw [hy105]; with_reducible exact H2_) | (have H2_ := (Option.bind_some _ _).symm.trans H; with_reducible exact H2_) | with_reducible exact H | (rw [hy105]; exact H) | exact H
                have Ny105 := Aside0.mk hy105
                clear hy105
                by_cases c28 : a0_2.size + (strOfNums y105).size ≤ 9223372036854775807
                · rw [if_pos c28] at H
                  have c28b0 := eq_true c28
                  have c28b1 : decide (a0_2.size + (strOfNums y105).size ≤ 9223372036854775807) = true := decide_eq_true c28
                  try have c28b2 : (9223372036854775807 < a0_2.size + (strOfNums y105).size) = False := eq_false (Nat.not_lt.2 c28)
                  simp only [Option.some.injEq, Prod.mk.injEq] at H
                  obtain ⟨rfl, rfl, rfl, rfl⟩ := H
                  have hnb29 := NB101_102.out
                  have hnc29 := NB102_101.out
                  have hnb30 := NB101_103.out
                  have hnc30 := NB103_101.out
                  have hcz31_0 : wc.cell? ⟨gb101, 0, none⟩ = some (.int .i64 a0_0) := bc BK101 0
                  have hcz31_1 : wc.cell? ⟨gb101, 1, none⟩ = some (.int .i64 a0_1) := bc BK101 1
                  have hcz31_2 : wc.cell? ⟨gb101, 2, none⟩ = some (.string a0_2) := bc BK101 2
                  have hcz31_3 : wc.cell? ⟨gb101, 3, none⟩ = some (.string a0_3) := bc BK101 3
                  have hfz31_0 := blk_frozen BK101.out 0
                  have hfz31_1 := blk_frozen BK101.out 1
                  have hfz31_2 := blk_frozen BK101.out 2
                  have hfz31_3 := blk_frozen BK101.out 3
                  go_wp2_with (first | ((with_reducible refine gate_dst (N := 33) rfl ?_); (try (refine gate_guard (by rfl) ?_; dsimp only)); refine Kd.R_lit (Kd.int .u8) _ 5 ?hg (N := 33) ?hd (xs := ([a1] : List Int)) (inner := [.int .u8 a1]) (ok := fun _ => True) (okp := fun _ => True) ?hr ?hp (fun _ hk => hk) trivial (Below.refl _ _) (Nat.le_refl _) (by simp) ?_; (case hd => rfl); (case hg => rfl); (case hr => first | (go_simp; done) | (go_simp; rfl)); (case hp => exact (Reps.one (show Kd.M (Kd.int .u8) _ _ _ a1 [.int .u8 a1] from rfl) (Reps.none _ _))); intro v106 w32 ho33 hb hg_ hnew_; clear hg_ hnew_; (first | rw [← Ny105.out] at ho33 | (simp only [Int.reduceToNat] at ho33; rw [← Ny105.out] at ho33)); have HO107 := Aside0.mk (Kd.R_lower ho33 (below_size bh)); replace BK101 := Aside0.mk (blk_below (g := gb101) (o := .cells #[.int .i64 a0_0, .int .i64 a0_1, .string a0_2, .string a0_3] 35 (0, 0)) bk hb); replace BK102 := Aside0.mk (blk_below (g := gb102) (o := .cells #[.int .i64 0, .int .i64 0, .string (⟨#[]⟩ : ByteArray), .string (⟨#[]⟩ : ByteArray)] 35 (0, 0)) bk hb); replace BK103 := Aside0.mk (blk_below (g := gb103) (o := .cells #[.int .i64 9, .int .i64 0, .string (⟨#[]⟩ : ByteArray), .string a0_3] 35 (0, 0)) bk hb); replace HB := Aside0.mk (below_step bh hb); clear hb ho33; have hcv34 := own_string (P := Tryd.prog) Tryd.underlying22 Tryd.underlying5 Tryd.underlying9 (Kd.own_of_R HO107.out); have hcz35_0 : w32.cell? ⟨gb101, 0, none⟩ = some (.int .i64 a0_0) := bc BK101 0; have hcz35_1 : w32.cell? ⟨gb101, 1, none⟩ = some (.int .i64 a0_1) := bc BK101 1; have hcz35_2 : w32.cell? ⟨gb101, 2, none⟩ = some (.string a0_2) := bc BK101 2; have hcz35_3 : w32.cell? ⟨gb101, 3, none⟩ = some (.string a0_3) := bc BK101 3; have hfz35_0 := blk_frozen BK101.out 0; have hfz35_1 := blk_frozen BK101.out 1; have hfz35_2 := blk_frozen BK101.out 2; have hfz35_3 := blk_frozen BK101.out 3; have hnb36 := NB102_103.out; have hnc36 := NB103_102.out; have hcz37_0 : w32.cell? ⟨gb102, 0, none⟩ = some (.int .i64 0) := bc BK102 0; have hcz37_1 : w32.cell? ⟨gb102, 1, none⟩ = some (.int .i64 0) := bc BK102 1; have hcz37_2 : w32.cell? ⟨gb102, 2, none⟩ = some (.string (⟨#[]⟩ : ByteArray)) := bc BK102 2; have hcz37_3 : w32.cell? ⟨gb102, 3, none⟩ = some (.string (⟨#[]⟩ : ByteArray)) := bc BK102 3; have hfz37_0 := blk_frozen BK102.out 0; have hfz37_1 := blk_frozen BK102.out 1; have hfz37_2 := blk_frozen BK102.out 2; have hfz37_3 := blk_frozen BK102.out 3))
                  refine bodyPost_ret (results_cell_row rfl _ _ gb102 35 #[.int .i64 a0_0, .int .i64 a0_1, .string (a0_2 ++ (strOfNums y105)), .string a0_3] (0, 0) _ rfl bkp Tryd.underlying35 rfl (by kernel_rfl)) rfl ?_
                  exact ⟨er, bh⟩
                · rw [if_neg c28] at H
                  exact absurd H (by simp)
              · replace c27 := Bool.eq_false_iff.mpr c27
                subst c27
                rw [if_neg (show ¬ (false = true) by decide)] at H
                obtain ⟨⟨t108, t109⟩, A380, H⟩ := Option.bind_eq_some_iff.mp H
                try dsimp only at H
                have A38 := Aside0.mk A380
                clear A380
                have HC39 := Aside0.mk H
                clear H
                have hnb40 := NB101_102.out
                have hnc40 := NB102_101.out
                have hnb41 := NB101_103.out
                have hnc41 := NB103_101.out
                have hcz42_0 : wc.cell? ⟨gb101, 0, none⟩ = some (.int .i64 a0_0) := bc BK101 0
                have hcz42_1 : wc.cell? ⟨gb101, 1, none⟩ = some (.int .i64 a0_1) := bc BK101 1
                have hcz42_2 : wc.cell? ⟨gb101, 2, none⟩ = some (.string a0_2) := bc BK101 2
                have hcz42_3 : wc.cell? ⟨gb101, 3, none⟩ = some (.string a0_3) := bc BK101 3
                have hfz42_0 := blk_frozen BK101.out 0
                have hfz42_1 := blk_frozen BK101.out 1
                have hfz42_2 := blk_frozen BK101.out 2
                have hfz42_3 := blk_frozen BK101.out 3
                go_upto_region 13 with (first | ((with_reducible refine gate_callee (f := 77) rfl ?_); refine goesL_ (some 41) rfl rfl Tryd.func77 (by kernel_rfl) rfl #[.string a0_2] rfl mc ?_; (with_reducible refine (spec_HexDigits.calls kj20 a0_2 t108 t109 _ A38.out).mono ?_); rintro e w' ⟨rfl, ⟨nd, rfl⟩⟩; refine ⟨_, rfl, ?_⟩))
                (try simp only [Act.put, List.setIfInBounds_toArray, List.set_cons_zero, List.set_cons_succ])
                go_cut [57] (fun v57 wc => ∃ (kq : Nat) (x57_38 : Bool), v57 = .bool x57_38 ∧ Aside0 (spec_l5Eat.j2 kq t108 x57_38 a0_0 a0_1 a0_2 a0_3 9 0 (⟨#[]⟩ : ByteArray) a0_3 = some (r1, r2, r3, r4)) ∧ Aside0 (kq ≤ kj20) ∧ Aside0 (wc.heap[gb101]? = some (.cells #[.int .i64 a0_0, .int .i64 a0_1, .string a0_2, .string a0_3] 35 (0, 0))) ∧ Aside0 (wc.heap[gb102]? = some (.cells #[.int .i64 0, .int .i64 0, .string (⟨#[]⟩ : ByteArray), .string (⟨#[]⟩ : ByteArray)] 35 (0, 0))) ∧ Aside0 (wc.heap[gb103]? = some (.cells #[.int .i64 9, .int .i64 0, .string (⟨#[]⟩ : ByteArray), .string a0_3] 35 (0, 0))) ∧ Aside0 (Below w.heap.size w wc))
                case first =>
                  have H := HC39.out
                  clear HC39
                  by_cases c43 : a1 = 13
                  · rw [if_pos c43] at H
                    have c43b0 : (a1 == 13) = true := beq_iff_eq.mpr c43
                    have c43b1 : (a1 != 13) = false := bne_eq_false_iff_eq.mpr c43
                    clear c43
                    (first | rw [c43b0] | (simp only [i64_w, i32_w]; rw [c43b0]) | skip)
                    by_cases c44 : t109 = true
                    · subst c44
                      rw [if_pos rfl] at H
                      have H' := Aside0.mk H
                      clear H
                      have hnb45 := NB101_102.out
                      have hnc45 := NB102_101.out
                      have hnb46 := NB101_103.out
                      have hnc46 := NB103_101.out
                      have hcz47_0 : wc.cell? ⟨gb101, 0, none⟩ = some (.int .i64 a0_0) := bc BK101 0
                      have hcz47_1 : wc.cell? ⟨gb101, 1, none⟩ = some (.int .i64 a0_1) := bc BK101 1
                      have hcz47_2 : wc.cell? ⟨gb101, 2, none⟩ = some (.string a0_2) := bc BK101 2
                      have hcz47_3 : wc.cell? ⟨gb101, 3, none⟩ = some (.string a0_3) := bc BK101 3
                      have hfz47_0 := blk_frozen BK101.out 0
                      have hfz47_1 := blk_frozen BK101.out 1
                      have hfz47_2 := blk_frozen BK101.out 2
                      have hfz47_3 := blk_frozen BK101.out 3
                      go_wp2
                      go_meet
                      case rel => exact ⟨_, (decide (t108 > (wrap64 (4000 - (a0_3.size : Int))))), (by first | rfl | (simp; done) | (simp [*]; done)), H', ⟨by have := HJ2.out; have := HJ20.out; first | omega | exact Nat.le_refl _⟩, ⟨by (with_reducible repeat (first | refine blk_drewN ?_ _ | refine blk_drew ?_ | refine blk_alloc ?_ _)); exact BK101.out⟩, ⟨by (with_reducible repeat (first | refine blk_drewN ?_ _ | refine blk_drew ?_ | refine blk_alloc ?_ _)); exact BK102.out⟩, ⟨by (with_reducible repeat (first | refine blk_drewN ?_ _ | refine blk_drew ?_ | refine blk_alloc ?_ _)); exact BK103.out⟩, ⟨bh⟩⟩
                    · replace c44 := Bool.eq_false_iff.mpr c44
                      subst c44
                      rw [if_neg (show ¬ (false = true) by decide)] at H
                      have H' := Aside0.mk H
                      clear H
                      go_wp2
                      go_meet
                      case rel => exact ⟨_, (true), (by first | rfl | (simp; done) | (simp [*]; done)), H', ⟨by have := HJ2.out; have := HJ20.out; first | omega | exact Nat.le_refl _⟩, ⟨by (with_reducible repeat (first | refine blk_drewN ?_ _ | refine blk_drew ?_ | refine blk_alloc ?_ _)); exact BK101.out⟩, ⟨by (with_reducible repeat (first | refine blk_drewN ?_ _ | refine blk_drew ?_ | refine blk_alloc ?_ _)); exact BK102.out⟩, ⟨by (with_reducible repeat (first | refine blk_drewN ?_ _ | refine blk_drew ?_ | refine blk_alloc ?_ _)); exact BK103.out⟩, ⟨bh⟩⟩
                  · rw [if_neg c43] at H
                    have c43b0 : (a1 == 13) = false := beq_eq_false_iff_ne.mpr c43
                    have c43b1 : (a1 != 13) = true := bne_iff_ne.mpr c43
                    (first | rw [c43b0] | (simp only [i64_w, i32_w]; rw [c43b0]) | skip)
                    have H' := Aside0.mk H
                    clear H
                    go_wp2
                    go_meet
                    case rel => exact ⟨_, (true), (by first | rfl | (simp; done) | (simp [*]; done)), H', ⟨by have := HJ2.out; have := HJ20.out; first | omega | exact Nat.le_refl _⟩, ⟨by (with_reducible repeat (first | refine blk_drewN ?_ _ | refine blk_drew ?_ | refine blk_alloc ?_ _)); exact BK101.out⟩, ⟨by (with_reducible repeat (first | refine blk_drewN ?_ _ | refine blk_drew ?_ | refine blk_alloc ?_ _)); exact BK102.out⟩, ⟨by (with_reducible repeat (first | refine blk_drewN ?_ _ | refine blk_drew ?_ | refine blk_alloc ?_ _)); exact BK103.out⟩, ⟨bh⟩⟩
                case rest =>
                  clear HC39
                  try clear c1
                  try clear c2
                  try clear p2
                  try clear c3
                  try clear hcv3
                  try clear c4
                  try clear c5
                  try clear c6
                  try clear p6
                  try clear c7
                  try clear c9
                  try clear c10
                  try clear c13
                  try clear c13b0
                  try clear c13b1
                  try clear c14
                  try clear c15
                  try clear c16
                  try clear c18
                  try clear c20
                  try clear c20b0
                  try clear c20b1
                  try clear c23
                  try clear c23b0
                  try clear c24
                  try clear c25
                  try clear c27
                  try clear c28
                  try clear c28b0
                  try clear c28b1
                  try clear c28b2
                  try clear c29
                  try clear c30
                  try clear hcv34
                  try clear c36
                  try clear c40
                  try clear c41
                  try clear c43
                  try clear c43b0
                  try clear c43b1
                  try clear c44
                  try clear c45
                  try clear c46
                  try clear hcz11_0
                  try clear hcz11_1
                  try clear hcz11_2
                  try clear hcz11_3
                  try clear hcz12_0
                  try clear hcz12_1
                  try clear hcz12_2
                  try clear hcz12_3
                  try clear hcz17_0
                  try clear hcz17_1
                  try clear hcz17_2
                  try clear hcz17_3
                  try clear hcz19_0
                  try clear hcz19_1
                  try clear hcz19_2
                  try clear hcz19_3
                  try clear hcz26_0
                  try clear hcz26_1
                  try clear hcz26_2
                  try clear hcz26_3
                  try clear hcz31_0
                  try clear hcz31_1
                  try clear hcz31_2
                  try clear hcz31_3
                  try clear hcz35_0
                  try clear hcz35_1
                  try clear hcz35_2
                  try clear hcz35_3
                  try clear hcz37_0
                  try clear hcz37_1
                  try clear hcz37_2
                  try clear hcz37_3
                  try clear hcz42_0
                  try clear hcz42_1
                  try clear hcz42_2
                  try clear hcz42_3
                  try clear hcz47_0
                  try clear hcz47_1
                  try clear hcz47_2
                  try clear hcz47_3
                  try clear hcz7_0
                  try clear hcz7_1
                  try clear hcz7_2
                  try clear hcz7_3
                  try clear hfz11_0
                  try clear hfz11_1
                  try clear hfz11_2
                  try clear hfz11_3
                  try clear hfz12_0
                  try clear hfz12_1
                  try clear hfz12_2
                  try clear hfz12_3
                  try clear hfz17_0
                  try clear hfz17_1
                  try clear hfz17_2
                  try clear hfz17_3
                  try clear hfz19_0
                  try clear hfz19_1
                  try clear hfz19_2
                  try clear hfz19_3
                  try clear hfz26_0
                  try clear hfz26_1
                  try clear hfz26_2
                  try clear hfz26_3
                  try clear hfz31_0
                  try clear hfz31_1
                  try clear hfz31_2
                  try clear hfz31_3
                  try clear hfz35_0
                  try clear hfz35_1
                  try clear hfz35_2
                  try clear hfz35_3
                  try clear hfz37_0
                  try clear hfz37_1
                  try clear hfz37_2
                  try clear hfz37_3
                  try clear hfz42_0
                  try clear hfz42_1
                  try clear hfz42_2
                  try clear hfz42_3
                  try clear hfz47_0
                  try clear hfz47_1
                  try clear hfz47_2
                  try clear hfz47_3
                  try clear hfz7_0
                  try clear hfz7_1
                  try clear hfz7_2
                  try clear hfz7_3
                  try clear p2
                  try clear p6
                  obtain ⟨kq, x57_38, rfl, HA, HJ38, BK101, BK102, BK103, HB⟩ := hcut
                  cases kq with
                  | zero => exact absurd HA.out (by simp [spec_l5Eat.j2])
                  | succ kj38 =>
                    have H := HA.out
                    clear HA
                    simp only [spec_l5Eat.j2] at H
                    by_cases c48 : x57_38 = true
                    · subst c48
                      rw [if_pos rfl] at H
                      simp only [Option.some.injEq, Prod.mk.injEq] at H
                      obtain ⟨rfl, rfl, rfl, rfl⟩ := H
                      have hnb49 := NB103_101.out
                      have hnc49 := NB101_103.out
                      have hnb50 := NB103_102.out
                      have hnc50 := NB102_103.out
                      have hcz51_0 : wc.cell? ⟨gb103, 0, none⟩ = some (.int .i64 9) := bc BK103 0
                      have hcz51_1 : wc.cell? ⟨gb103, 1, none⟩ = some (.int .i64 0) := bc BK103 1
                      have hcz51_2 : wc.cell? ⟨gb103, 2, none⟩ = some (.string (⟨#[]⟩ : ByteArray)) := bc BK103 2
                      have hcz51_3 : wc.cell? ⟨gb103, 3, none⟩ = some (.string a0_3) := bc BK103 3
                      have hfz51_0 := blk_frozen BK103.out 0
                      have hfz51_1 := blk_frozen BK103.out 1
                      have hfz51_2 := blk_frozen BK103.out 2
                      have hfz51_3 := blk_frozen BK103.out 3
                      have hnb52 := NB102_101.out
                      have hnc52 := NB101_102.out
                      have hcz53_0 : wc.cell? ⟨gb102, 0, none⟩ = some (.int .i64 0) := bc BK102 0
                      have hcz53_1 : wc.cell? ⟨gb102, 1, none⟩ = some (.int .i64 0) := bc BK102 1
                      have hcz53_2 : wc.cell? ⟨gb102, 2, none⟩ = some (.string (⟨#[]⟩ : ByteArray)) := bc BK102 2
                      have hcz53_3 : wc.cell? ⟨gb102, 3, none⟩ = some (.string (⟨#[]⟩ : ByteArray)) := bc BK102 3
                      have hfz53_0 := blk_frozen BK102.out 0
                      have hfz53_1 := blk_frozen BK102.out 1
                      have hfz53_2 := blk_frozen BK102.out 2
                      have hfz53_3 := blk_frozen BK102.out 3
                      go_wp2
                      refine bodyPost_ret (results_cell_row rfl _ _ gb102 35 #[.int .i64 9, .int .i64 0, .string (⟨#[]⟩ : ByteArray), .string a0_3] (0, 0) _ rfl bkp Tryd.underlying35 rfl (by kernel_rfl)) rfl ?_
                      exact ⟨er, bh⟩
                    · replace c48 := Bool.eq_false_iff.mpr c48
                      subst c48
                      rw [if_neg (show ¬ (false = true) by decide)] at H
                      simp only [Option.some.injEq, Prod.mk.injEq] at H
                      obtain ⟨rfl, rfl, rfl, rfl⟩ := H
                      have hnb54 := NB101_102.out
                      have hnc54 := NB102_101.out
                      have hnb55 := NB101_103.out
                      have hnc55 := NB103_101.out
                      have hcz56_0 : wc.cell? ⟨gb101, 0, none⟩ = some (.int .i64 a0_0) := bc BK101 0
                      have hcz56_1 : wc.cell? ⟨gb101, 1, none⟩ = some (.int .i64 a0_1) := bc BK101 1
                      have hcz56_2 : wc.cell? ⟨gb101, 2, none⟩ = some (.string a0_2) := bc BK101 2
                      have hcz56_3 : wc.cell? ⟨gb101, 3, none⟩ = some (.string a0_3) := bc BK101 3
                      have hfz56_0 := blk_frozen BK101.out 0
                      have hfz56_1 := blk_frozen BK101.out 1
                      have hfz56_2 := blk_frozen BK101.out 2
                      have hfz56_3 := blk_frozen BK101.out 3
                      have hnb57 := NB102_103.out
                      have hnc57 := NB103_102.out
                      have hcz58_0 : wc.cell? ⟨gb102, 0, none⟩ = some (.int .i64 0) := bc BK102 0
                      have hcz58_1 : wc.cell? ⟨gb102, 1, none⟩ = some (.int .i64 0) := bc BK102 1
                      have hcz58_2 : wc.cell? ⟨gb102, 2, none⟩ = some (.string (⟨#[]⟩ : ByteArray)) := bc BK102 2
                      have hcz58_3 : wc.cell? ⟨gb102, 3, none⟩ = some (.string (⟨#[]⟩ : ByteArray)) := bc BK102 3
                      have hfz58_0 := blk_frozen BK102.out 0
                      have hfz58_1 := blk_frozen BK102.out 1
                      have hfz58_2 := blk_frozen BK102.out 2
                      have hfz58_3 := blk_frozen BK102.out 3
                      go_wp2
                      refine bodyPost_ret (results_cell_row rfl _ _ gb102 35 #[.int .i64 2, .int .i64 t108, .string (⟨#[]⟩ : ByteArray), .string a0_3] (0, 0) _ rfl bkp Tryd.underlying35 rfl (by kernel_rfl)) rfl ?_
                      exact ⟨er, bh⟩
        · rw [if_neg c20] at H
          have c20b0 : (a0_0 == 1) = false := beq_eq_false_iff_ne.mpr c20
          have c20b1 : (a0_0 != 1) = true := bne_iff_ne.mpr c20
          by_cases c59 : a0_0 = 2
          · rw [if_pos c59] at H
            have c59b0 : (a0_0 == 2) = true := beq_iff_eq.mpr c59
            have c59b1 : (a0_0 != 2) = false := bne_eq_false_iff_eq.mpr c59
            clear c59
            by_cases c60 : a1 = 10
            · rw [if_pos c60] at H
              have c60b0 : (a1 == 10) = true := beq_iff_eq.mpr c60
              have c60b1 : (a1 != 10) = false := bne_eq_false_iff_eq.mpr c60
              clear c60
              by_cases c61 : a0_1 = 0
              · rw [if_pos c61] at H
                have c61b0 : (a0_1 == 0) = true := beq_iff_eq.mpr c61
                have c61b1 : (a0_1 != 0) = false := bne_eq_false_iff_eq.mpr c61
                clear c61
                simp only [Option.some.injEq, Prod.mk.injEq] at H
                obtain ⟨rfl, rfl, rfl, rfl⟩ := H
                have hnb62 := NB101_102.out
                have hnc62 := NB102_101.out
                have hnb63 := NB101_103.out
                have hnc63 := NB103_101.out
                have hcz64_0 : wc.cell? ⟨gb101, 0, none⟩ = some (.int .i64 a0_0) := bc BK101 0
                have hcz64_1 : wc.cell? ⟨gb101, 1, none⟩ = some (.int .i64 a0_1) := bc BK101 1
                have hcz64_2 : wc.cell? ⟨gb101, 2, none⟩ = some (.string a0_2) := bc BK101 2
                have hcz64_3 : wc.cell? ⟨gb101, 3, none⟩ = some (.string a0_3) := bc BK101 3
                have hfz64_0 := blk_frozen BK101.out 0
                have hfz64_1 := blk_frozen BK101.out 1
                have hfz64_2 := blk_frozen BK101.out 2
                have hfz64_3 := blk_frozen BK101.out 3
                have hnb65 := NB102_103.out
                have hnc65 := NB103_102.out
                have hcz66_0 : wc.cell? ⟨gb102, 0, none⟩ = some (.int .i64 0) := bc BK102 0
                have hcz66_1 : wc.cell? ⟨gb102, 1, none⟩ = some (.int .i64 0) := bc BK102 1
                have hcz66_2 : wc.cell? ⟨gb102, 2, none⟩ = some (.string (⟨#[]⟩ : ByteArray)) := bc BK102 2
                have hcz66_3 : wc.cell? ⟨gb102, 3, none⟩ = some (.string (⟨#[]⟩ : ByteArray)) := bc BK102 3
                have hfz66_0 := blk_frozen BK102.out 0
                have hfz66_1 := blk_frozen BK102.out 1
                have hfz66_2 := blk_frozen BK102.out 2
                have hfz66_3 := blk_frozen BK102.out 3
                go_wp2
                refine bodyPost_ret (results_cell_row rfl _ _ gb102 35 #[.int .i64 6, .int .i64 a0_1, .string a0_2, .string a0_3] (0, 0) _ rfl bkp Tryd.underlying35 rfl (by kernel_rfl)) rfl ?_
                exact ⟨er, bh⟩
              · rw [if_neg c61] at H
                have c61b0 : (a0_1 == 0) = false := beq_eq_false_iff_ne.mpr c61
                have c61b1 : (a0_1 != 0) = true := bne_iff_ne.mpr c61
                simp only [Option.some.injEq, Prod.mk.injEq] at H
                obtain ⟨rfl, rfl, rfl, rfl⟩ := H
                have hnb67 := NB101_102.out
                have hnc67 := NB102_101.out
                have hnb68 := NB101_103.out
                have hnc68 := NB103_101.out
                have hcz69_0 : wc.cell? ⟨gb101, 0, none⟩ = some (.int .i64 a0_0) := bc BK101 0
                have hcz69_1 : wc.cell? ⟨gb101, 1, none⟩ = some (.int .i64 a0_1) := bc BK101 1
                have hcz69_2 : wc.cell? ⟨gb101, 2, none⟩ = some (.string a0_2) := bc BK101 2
                have hcz69_3 : wc.cell? ⟨gb101, 3, none⟩ = some (.string a0_3) := bc BK101 3
                have hfz69_0 := blk_frozen BK101.out 0
                have hfz69_1 := blk_frozen BK101.out 1
                have hfz69_2 := blk_frozen BK101.out 2
                have hfz69_3 := blk_frozen BK101.out 3
                have hnb70 := NB102_103.out
                have hnc70 := NB103_102.out
                have hcz71_0 : wc.cell? ⟨gb102, 0, none⟩ = some (.int .i64 0) := bc BK102 0
                have hcz71_1 : wc.cell? ⟨gb102, 1, none⟩ = some (.int .i64 0) := bc BK102 1
                have hcz71_2 : wc.cell? ⟨gb102, 2, none⟩ = some (.string (⟨#[]⟩ : ByteArray)) := bc BK102 2
                have hcz71_3 : wc.cell? ⟨gb102, 3, none⟩ = some (.string (⟨#[]⟩ : ByteArray)) := bc BK102 3
                have hfz71_0 := blk_frozen BK102.out 0
                have hfz71_1 := blk_frozen BK102.out 1
                have hfz71_2 := blk_frozen BK102.out 2
                have hfz71_3 := blk_frozen BK102.out 3
                go_wp2
                refine bodyPost_ret (results_cell_row rfl _ _ gb102 35 #[.int .i64 3, .int .i64 a0_1, .string a0_2, .string a0_3] (0, 0) _ rfl bkp Tryd.underlying35 rfl (by kernel_rfl)) rfl ?_
                exact ⟨er, bh⟩
            · rw [if_neg c60] at H
              have c60b0 : (a1 == 10) = false := beq_eq_false_iff_ne.mpr c60
              have c60b1 : (a1 != 10) = true := bne_iff_ne.mpr c60
              simp only [Option.some.injEq, Prod.mk.injEq] at H
              obtain ⟨rfl, rfl, rfl, rfl⟩ := H
              have hnb72 := NB103_101.out
              have hnc72 := NB101_103.out
              have hnb73 := NB103_102.out
              have hnc73 := NB102_103.out
              have hcz74_0 : wc.cell? ⟨gb103, 0, none⟩ = some (.int .i64 9) := bc BK103 0
              have hcz74_1 : wc.cell? ⟨gb103, 1, none⟩ = some (.int .i64 0) := bc BK103 1
              have hcz74_2 : wc.cell? ⟨gb103, 2, none⟩ = some (.string (⟨#[]⟩ : ByteArray)) := bc BK103 2
              have hcz74_3 : wc.cell? ⟨gb103, 3, none⟩ = some (.string a0_3) := bc BK103 3
              have hfz74_0 := blk_frozen BK103.out 0
              have hfz74_1 := blk_frozen BK103.out 1
              have hfz74_2 := blk_frozen BK103.out 2
              have hfz74_3 := blk_frozen BK103.out 3
              have hnb75 := NB102_101.out
              have hnc75 := NB101_102.out
              have hcz76_0 : wc.cell? ⟨gb102, 0, none⟩ = some (.int .i64 0) := bc BK102 0
              have hcz76_1 : wc.cell? ⟨gb102, 1, none⟩ = some (.int .i64 0) := bc BK102 1
              have hcz76_2 : wc.cell? ⟨gb102, 2, none⟩ = some (.string (⟨#[]⟩ : ByteArray)) := bc BK102 2
              have hcz76_3 : wc.cell? ⟨gb102, 3, none⟩ = some (.string (⟨#[]⟩ : ByteArray)) := bc BK102 3
              have hfz76_0 := blk_frozen BK102.out 0
              have hfz76_1 := blk_frozen BK102.out 1
              have hfz76_2 := blk_frozen BK102.out 2
              have hfz76_3 := blk_frozen BK102.out 3
              go_wp2
              refine bodyPost_ret (results_cell_row rfl _ _ gb102 35 #[.int .i64 9, .int .i64 0, .string (⟨#[]⟩ : ByteArray), .string a0_3] (0, 0) _ rfl bkp Tryd.underlying35 rfl (by kernel_rfl)) rfl ?_
              exact ⟨er, bh⟩
          · rw [if_neg c59] at H
            have c59b0 : (a0_0 == 2) = false := beq_eq_false_iff_ne.mpr c59
            have c59b1 : (a0_0 != 2) = true := bne_iff_ne.mpr c59
            by_cases c77 : a0_0 = 3
            · rw [if_pos c77] at H
              have c77b0 : (a0_0 == 3) = true := beq_iff_eq.mpr c77
              have c77b1 : (a0_0 != 3) = false := bne_eq_false_iff_eq.mpr c77
              clear c77
              obtain ⟨y110, hy110⟩ : ∃ y_ : List Int, y_ = (([a1] : List Int)) := ⟨_, rfl⟩
              replace H : (if a0_3.size + (strOfNums y110).size ≤ 9223372036854775807 then (if (wrap64 (a0_1 - 1)) = 0 then (some (4, wrap64 (a0_1 - 1), a0_2, a0_3 ++ (strOfNums y110))) else (some (a0_0, wrap64 (a0_1 - 1), a0_2, a0_3 ++ (strOfNums y110)))) else (none)) = some (r1, r2, r3, r4) := by first | (rw [hy110]; with_reducible exact H) | (have H2_ := (Option.bind_some _ _).symm.trans H; rw [hy110]; with_reducible exact H2_) | (have H2_ := (Option.bind_some _ _).symm.trans H; with_reducible exact H2_) | with_reducible exact H | (rw [hy110]; exact H) | exact H
              have Ny110 := Aside0.mk hy110
              clear hy110
              by_cases c78 : a0_3.size + (strOfNums y110).size ≤ 9223372036854775807
              · rw [if_pos c78] at H
                have c78b0 := eq_true c78
                have c78b1 : decide (a0_3.size + (strOfNums y110).size ≤ 9223372036854775807) = true := decide_eq_true c78
                try have c78b2 : (9223372036854775807 < a0_3.size + (strOfNums y110).size) = False := eq_false (Nat.not_lt.2 c78)
                by_cases c79 : (wrap64 (a0_1 - 1)) = 0
                · rw [if_pos c79] at H
                  have c79b0 : ((wrap64 (a0_1 - 1)) == 0) = true := beq_iff_eq.mpr c79
                  have c79b1 : ((wrap64 (a0_1 - 1)) != 0) = false := bne_eq_false_iff_eq.mpr c79
                  clear c79
                  simp only [Option.some.injEq, Prod.mk.injEq] at H
                  obtain ⟨rfl, rfl, rfl, rfl⟩ := H
                  have hnb80 := NB101_102.out
                  have hnc80 := NB102_101.out
                  have hnb81 := NB101_103.out
                  have hnc81 := NB103_101.out
                  have hcz82_0 : wc.cell? ⟨gb101, 0, none⟩ = some (.int .i64 a0_0) := bc BK101 0
                  have hcz82_1 : wc.cell? ⟨gb101, 1, none⟩ = some (.int .i64 a0_1) := bc BK101 1
                  have hcz82_2 : wc.cell? ⟨gb101, 2, none⟩ = some (.string a0_2) := bc BK101 2
                  have hcz82_3 : wc.cell? ⟨gb101, 3, none⟩ = some (.string a0_3) := bc BK101 3
                  have hfz82_0 := blk_frozen BK101.out 0
                  have hfz82_1 := blk_frozen BK101.out 1
                  have hfz82_2 := blk_frozen BK101.out 2
                  have hfz82_3 := blk_frozen BK101.out 3
                  go_wp2_with (first | ((with_reducible refine gate_dst (N := 79) rfl ?_); (try (refine gate_guard (by rfl) ?_; dsimp only)); refine Kd.R_lit (Kd.int .u8) _ 5 ?hg (N := 79) ?hd (xs := ([a1] : List Int)) (inner := [.int .u8 a1]) (ok := fun _ => True) (okp := fun _ => True) ?hr ?hp (fun _ hk => hk) trivial (Below.refl _ _) (Nat.le_refl _) (by simp) ?_; (case hd => rfl); (case hg => rfl); (case hr => first | (go_simp; done) | (go_simp; rfl)); (case hp => exact (Reps.one (show Kd.M (Kd.int .u8) _ _ _ a1 [.int .u8 a1] from rfl) (Reps.none _ _))); intro v111 w83 ho84 hb hg_ hnew_; clear hg_ hnew_; (first | rw [← Ny110.out] at ho84 | (simp only [Int.reduceToNat] at ho84; rw [← Ny110.out] at ho84)); have HO112 := Aside0.mk (Kd.R_lower ho84 (below_size bh)); replace BK101 := Aside0.mk (blk_below (g := gb101) (o := .cells #[.int .i64 a0_0, .int .i64 a0_1, .string a0_2, .string a0_3] 35 (0, 0)) bk hb); replace BK102 := Aside0.mk (blk_below (g := gb102) (o := .cells #[.int .i64 0, .int .i64 0, .string (⟨#[]⟩ : ByteArray), .string (⟨#[]⟩ : ByteArray)] 35 (0, 0)) bk hb); replace BK103 := Aside0.mk (blk_below (g := gb103) (o := .cells #[.int .i64 9, .int .i64 0, .string (⟨#[]⟩ : ByteArray), .string a0_3] 35 (0, 0)) bk hb); replace HB := Aside0.mk (below_step bh hb); clear hb ho84; have hcv85 := own_string (P := Tryd.prog) Tryd.underlying22 Tryd.underlying5 Tryd.underlying9 (Kd.own_of_R HO112.out); have hcz86_0 : w83.cell? ⟨gb101, 0, none⟩ = some (.int .i64 a0_0) := bc BK101 0; have hcz86_1 : w83.cell? ⟨gb101, 1, none⟩ = some (.int .i64 a0_1) := bc BK101 1; have hcz86_2 : w83.cell? ⟨gb101, 2, none⟩ = some (.string a0_2) := bc BK101 2; have hcz86_3 : w83.cell? ⟨gb101, 3, none⟩ = some (.string a0_3) := bc BK101 3; have hfz86_0 := blk_frozen BK101.out 0; have hfz86_1 := blk_frozen BK101.out 1; have hfz86_2 := blk_frozen BK101.out 2; have hfz86_3 := blk_frozen BK101.out 3; have hnb87 := NB102_103.out; have hnc87 := NB103_102.out; have hcz88_0 : w83.cell? ⟨gb102, 0, none⟩ = some (.int .i64 0) := bc BK102 0; have hcz88_1 : w83.cell? ⟨gb102, 1, none⟩ = some (.int .i64 0) := bc BK102 1; have hcz88_2 : w83.cell? ⟨gb102, 2, none⟩ = some (.string (⟨#[]⟩ : ByteArray)) := bc BK102 2; have hcz88_3 : w83.cell? ⟨gb102, 3, none⟩ = some (.string (⟨#[]⟩ : ByteArray)) := bc BK102 3; have hfz88_0 := blk_frozen BK102.out 0; have hfz88_1 := blk_frozen BK102.out 1; have hfz88_2 := blk_frozen BK102.out 2; have hfz88_3 := blk_frozen BK102.out 3))
                  refine bodyPost_ret (results_cell_row rfl _ _ gb102 35 #[.int .i64 4, .int .i64 (wrap64 (a0_1 - 1)), .string a0_2, .string (a0_3 ++ (strOfNums y110))] (0, 0) _ rfl bkp Tryd.underlying35 rfl (by kernel_rfl)) rfl ?_
                  exact ⟨er, bh⟩
                · rw [if_neg c79] at H
                  have c79b0 : ((wrap64 (a0_1 - 1)) == 0) = false := beq_eq_false_iff_ne.mpr c79
                  have c79b1 : ((wrap64 (a0_1 - 1)) != 0) = true := bne_iff_ne.mpr c79
                  simp only [Option.some.injEq, Prod.mk.injEq] at H
                  obtain ⟨rfl, rfl, rfl, rfl⟩ := H
                  have hnb89 := NB101_102.out
                  have hnc89 := NB102_101.out
                  have hnb90 := NB101_103.out
                  have hnc90 := NB103_101.out
                  have hcz91_0 : wc.cell? ⟨gb101, 0, none⟩ = some (.int .i64 a0_0) := bc BK101 0
                  have hcz91_1 : wc.cell? ⟨gb101, 1, none⟩ = some (.int .i64 a0_1) := bc BK101 1
                  have hcz91_2 : wc.cell? ⟨gb101, 2, none⟩ = some (.string a0_2) := bc BK101 2
                  have hcz91_3 : wc.cell? ⟨gb101, 3, none⟩ = some (.string a0_3) := bc BK101 3
                  have hfz91_0 := blk_frozen BK101.out 0
                  have hfz91_1 := blk_frozen BK101.out 1
                  have hfz91_2 := blk_frozen BK101.out 2
                  have hfz91_3 := blk_frozen BK101.out 3
                  go_wp2_with (first | ((with_reducible refine gate_dst (N := 79) rfl ?_); (try (refine gate_guard (by rfl) ?_; dsimp only)); refine Kd.R_lit (Kd.int .u8) _ 5 ?hg (N := 79) ?hd (xs := ([a1] : List Int)) (inner := [.int .u8 a1]) (ok := fun _ => True) (okp := fun _ => True) ?hr ?hp (fun _ hk => hk) trivial (Below.refl _ _) (Nat.le_refl _) (by simp) ?_; (case hd => rfl); (case hg => rfl); (case hr => first | (go_simp; done) | (go_simp; rfl)); (case hp => exact (Reps.one (show Kd.M (Kd.int .u8) _ _ _ a1 [.int .u8 a1] from rfl) (Reps.none _ _))); intro v111 w92 ho93 hb hg_ hnew_; clear hg_ hnew_; (first | rw [← Ny110.out] at ho93 | (simp only [Int.reduceToNat] at ho93; rw [← Ny110.out] at ho93)); have HO112 := Aside0.mk (Kd.R_lower ho93 (below_size bh)); replace BK101 := Aside0.mk (blk_below (g := gb101) (o := .cells #[.int .i64 a0_0, .int .i64 a0_1, .string a0_2, .string a0_3] 35 (0, 0)) bk hb); replace BK102 := Aside0.mk (blk_below (g := gb102) (o := .cells #[.int .i64 0, .int .i64 0, .string (⟨#[]⟩ : ByteArray), .string (⟨#[]⟩ : ByteArray)] 35 (0, 0)) bk hb); replace BK103 := Aside0.mk (blk_below (g := gb103) (o := .cells #[.int .i64 9, .int .i64 0, .string (⟨#[]⟩ : ByteArray), .string a0_3] 35 (0, 0)) bk hb); replace HB := Aside0.mk (below_step bh hb); clear hb ho93; have hcv94 := own_string (P := Tryd.prog) Tryd.underlying22 Tryd.underlying5 Tryd.underlying9 (Kd.own_of_R HO112.out); have hcz95_0 : w92.cell? ⟨gb101, 0, none⟩ = some (.int .i64 a0_0) := bc BK101 0; have hcz95_1 : w92.cell? ⟨gb101, 1, none⟩ = some (.int .i64 a0_1) := bc BK101 1; have hcz95_2 : w92.cell? ⟨gb101, 2, none⟩ = some (.string a0_2) := bc BK101 2; have hcz95_3 : w92.cell? ⟨gb101, 3, none⟩ = some (.string a0_3) := bc BK101 3; have hfz95_0 := blk_frozen BK101.out 0; have hfz95_1 := blk_frozen BK101.out 1; have hfz95_2 := blk_frozen BK101.out 2; have hfz95_3 := blk_frozen BK101.out 3; have hnb96 := NB102_103.out; have hnc96 := NB103_102.out; have hcz97_0 : w92.cell? ⟨gb102, 0, none⟩ = some (.int .i64 0) := bc BK102 0; have hcz97_1 : w92.cell? ⟨gb102, 1, none⟩ = some (.int .i64 0) := bc BK102 1; have hcz97_2 : w92.cell? ⟨gb102, 2, none⟩ = some (.string (⟨#[]⟩ : ByteArray)) := bc BK102 2; have hcz97_3 : w92.cell? ⟨gb102, 3, none⟩ = some (.string (⟨#[]⟩ : ByteArray)) := bc BK102 3; have hfz97_0 := blk_frozen BK102.out 0; have hfz97_1 := blk_frozen BK102.out 1; have hfz97_2 := blk_frozen BK102.out 2; have hfz97_3 := blk_frozen BK102.out 3))
                  refine bodyPost_ret (results_cell_row rfl _ _ gb102 35 #[.int .i64 a0_0, .int .i64 (wrap64 (a0_1 - 1)), .string a0_2, .string (a0_3 ++ (strOfNums y110))] (0, 0) _ rfl bkp Tryd.underlying35 rfl (by kernel_rfl)) rfl ?_
                  exact ⟨er, bh⟩
              · rw [if_neg c78] at H
                exact absurd H (by simp)
            · rw [if_neg c77] at H
              have c77b0 : (a0_0 == 3) = false := beq_eq_false_iff_ne.mpr c77
              have c77b1 : (a0_0 != 3) = true := bne_iff_ne.mpr c77
              by_cases c98 : a0_0 = 4
              · rw [if_pos c98] at H
                have c98b0 : (a0_0 == 4) = true := beq_iff_eq.mpr c98
                have c98b1 : (a0_0 != 4) = false := bne_eq_false_iff_eq.mpr c98
                clear c98
                by_cases c99 : a1 = 13
                · rw [if_pos c99] at H
                  have c99b0 : (a1 == 13) = true := beq_iff_eq.mpr c99
                  have c99b1 : (a1 != 13) = false := bne_eq_false_iff_eq.mpr c99
                  clear c99
                  simp only [Option.some.injEq, Prod.mk.injEq] at H
                  obtain ⟨rfl, rfl, rfl, rfl⟩ := H
                  have hnb100 := NB101_102.out
                  have hnc100 := NB102_101.out
                  have hnb101 := NB101_103.out
                  have hnc101 := NB103_101.out
                  have hcz102_0 : wc.cell? ⟨gb101, 0, none⟩ = some (.int .i64 a0_0) := bc BK101 0
                  have hcz102_1 : wc.cell? ⟨gb101, 1, none⟩ = some (.int .i64 a0_1) := bc BK101 1
                  have hcz102_2 : wc.cell? ⟨gb101, 2, none⟩ = some (.string a0_2) := bc BK101 2
                  have hcz102_3 : wc.cell? ⟨gb101, 3, none⟩ = some (.string a0_3) := bc BK101 3
                  have hfz102_0 := blk_frozen BK101.out 0
                  have hfz102_1 := blk_frozen BK101.out 1
                  have hfz102_2 := blk_frozen BK101.out 2
                  have hfz102_3 := blk_frozen BK101.out 3
                  have hnb103 := NB102_103.out
                  have hnc103 := NB103_102.out
                  have hcz104_0 : wc.cell? ⟨gb102, 0, none⟩ = some (.int .i64 0) := bc BK102 0
                  have hcz104_1 : wc.cell? ⟨gb102, 1, none⟩ = some (.int .i64 0) := bc BK102 1
                  have hcz104_2 : wc.cell? ⟨gb102, 2, none⟩ = some (.string (⟨#[]⟩ : ByteArray)) := bc BK102 2
                  have hcz104_3 : wc.cell? ⟨gb102, 3, none⟩ = some (.string (⟨#[]⟩ : ByteArray)) := bc BK102 3
                  have hfz104_0 := blk_frozen BK102.out 0
                  have hfz104_1 := blk_frozen BK102.out 1
                  have hfz104_2 := blk_frozen BK102.out 2
                  have hfz104_3 := blk_frozen BK102.out 3
                  go_wp2
                  refine bodyPost_ret (results_cell_row rfl _ _ gb102 35 #[.int .i64 5, .int .i64 a0_1, .string a0_2, .string a0_3] (0, 0) _ rfl bkp Tryd.underlying35 rfl (by kernel_rfl)) rfl ?_
                  exact ⟨er, bh⟩
                · rw [if_neg c99] at H
                  have c99b0 : (a1 == 13) = false := beq_eq_false_iff_ne.mpr c99
                  have c99b1 : (a1 != 13) = true := bne_iff_ne.mpr c99
                  simp only [Option.some.injEq, Prod.mk.injEq] at H
                  obtain ⟨rfl, rfl, rfl, rfl⟩ := H
                  have hnb105 := NB103_101.out
                  have hnc105 := NB101_103.out
                  have hnb106 := NB103_102.out
                  have hnc106 := NB102_103.out
                  have hcz107_0 : wc.cell? ⟨gb103, 0, none⟩ = some (.int .i64 9) := bc BK103 0
                  have hcz107_1 : wc.cell? ⟨gb103, 1, none⟩ = some (.int .i64 0) := bc BK103 1
                  have hcz107_2 : wc.cell? ⟨gb103, 2, none⟩ = some (.string (⟨#[]⟩ : ByteArray)) := bc BK103 2
                  have hcz107_3 : wc.cell? ⟨gb103, 3, none⟩ = some (.string a0_3) := bc BK103 3
                  have hfz107_0 := blk_frozen BK103.out 0
                  have hfz107_1 := blk_frozen BK103.out 1
                  have hfz107_2 := blk_frozen BK103.out 2
                  have hfz107_3 := blk_frozen BK103.out 3
                  have hnb108 := NB102_101.out
                  have hnc108 := NB101_102.out
                  have hcz109_0 : wc.cell? ⟨gb102, 0, none⟩ = some (.int .i64 0) := bc BK102 0
                  have hcz109_1 : wc.cell? ⟨gb102, 1, none⟩ = some (.int .i64 0) := bc BK102 1
                  have hcz109_2 : wc.cell? ⟨gb102, 2, none⟩ = some (.string (⟨#[]⟩ : ByteArray)) := bc BK102 2
                  have hcz109_3 : wc.cell? ⟨gb102, 3, none⟩ = some (.string (⟨#[]⟩ : ByteArray)) := bc BK102 3
                  have hfz109_0 := blk_frozen BK102.out 0
                  have hfz109_1 := blk_frozen BK102.out 1
                  have hfz109_2 := blk_frozen BK102.out 2
                  have hfz109_3 := blk_frozen BK102.out 3
                  go_wp2
                  refine bodyPost_ret (results_cell_row rfl _ _ gb102 35 #[.int .i64 9, .int .i64 0, .string (⟨#[]⟩ : ByteArray), .string a0_3] (0, 0) _ rfl bkp Tryd.underlying35 rfl (by kernel_rfl)) rfl ?_
                  exact ⟨er, bh⟩
              · rw [if_neg c98] at H
                have c98b0 : (a0_0 == 4) = false := beq_eq_false_iff_ne.mpr c98
                have c98b1 : (a0_0 != 4) = true := bne_iff_ne.mpr c98
                by_cases c110 : a0_0 = 5
                · rw [if_pos c110] at H
                  have c110b0 : (a0_0 == 5) = true := beq_iff_eq.mpr c110
                  have c110b1 : (a0_0 != 5) = false := bne_eq_false_iff_eq.mpr c110
                  clear c110
                  by_cases c111 : a1 = 10
                  · rw [if_pos c111] at H
                    have c111b0 : (a1 == 10) = true := beq_iff_eq.mpr c111
                    have c111b1 : (a1 != 10) = false := bne_eq_false_iff_eq.mpr c111
                    clear c111
                    simp only [Option.some.injEq, Prod.mk.injEq] at H
                    obtain ⟨rfl, rfl, rfl, rfl⟩ := H
                    have hnb112 := NB101_102.out
                    have hnc112 := NB102_101.out
                    have hnb113 := NB101_103.out
                    have hnc113 := NB103_101.out
                    have hcz114_0 : wc.cell? ⟨gb101, 0, none⟩ = some (.int .i64 a0_0) := bc BK101 0
                    have hcz114_1 : wc.cell? ⟨gb101, 1, none⟩ = some (.int .i64 a0_1) := bc BK101 1
                    have hcz114_2 : wc.cell? ⟨gb101, 2, none⟩ = some (.string a0_2) := bc BK101 2
                    have hcz114_3 : wc.cell? ⟨gb101, 3, none⟩ = some (.string a0_3) := bc BK101 3
                    have hfz114_0 := blk_frozen BK101.out 0
                    have hfz114_1 := blk_frozen BK101.out 1
                    have hfz114_2 := blk_frozen BK101.out 2
                    have hfz114_3 := blk_frozen BK101.out 3
                    have hnb115 := NB102_103.out
                    have hnc115 := NB103_102.out
                    have hcz116_0 : wc.cell? ⟨gb102, 0, none⟩ = some (.int .i64 0) := bc BK102 0
                    have hcz116_1 : wc.cell? ⟨gb102, 1, none⟩ = some (.int .i64 0) := bc BK102 1
                    have hcz116_2 : wc.cell? ⟨gb102, 2, none⟩ = some (.string (⟨#[]⟩ : ByteArray)) := bc BK102 2
                    have hcz116_3 : wc.cell? ⟨gb102, 3, none⟩ = some (.string (⟨#[]⟩ : ByteArray)) := bc BK102 3
                    have hfz116_0 := blk_frozen BK102.out 0
                    have hfz116_1 := blk_frozen BK102.out 1
                    have hfz116_2 := blk_frozen BK102.out 2
                    have hfz116_3 := blk_frozen BK102.out 3
                    go_wp2
                    refine bodyPost_ret (results_cell_row rfl _ _ gb102 35 #[.int .i64 1, .int .i64 a0_1, .string a0_2, .string a0_3] (0, 0) _ rfl bkp Tryd.underlying35 rfl (by kernel_rfl)) rfl ?_
                    exact ⟨er, bh⟩
                  · rw [if_neg c111] at H
                    have c111b0 : (a1 == 10) = false := beq_eq_false_iff_ne.mpr c111
                    have c111b1 : (a1 != 10) = true := bne_iff_ne.mpr c111
                    simp only [Option.some.injEq, Prod.mk.injEq] at H
                    obtain ⟨rfl, rfl, rfl, rfl⟩ := H
                    have hnb117 := NB103_101.out
                    have hnc117 := NB101_103.out
                    have hnb118 := NB103_102.out
                    have hnc118 := NB102_103.out
                    have hcz119_0 : wc.cell? ⟨gb103, 0, none⟩ = some (.int .i64 9) := bc BK103 0
                    have hcz119_1 : wc.cell? ⟨gb103, 1, none⟩ = some (.int .i64 0) := bc BK103 1
                    have hcz119_2 : wc.cell? ⟨gb103, 2, none⟩ = some (.string (⟨#[]⟩ : ByteArray)) := bc BK103 2
                    have hcz119_3 : wc.cell? ⟨gb103, 3, none⟩ = some (.string a0_3) := bc BK103 3
                    have hfz119_0 := blk_frozen BK103.out 0
                    have hfz119_1 := blk_frozen BK103.out 1
                    have hfz119_2 := blk_frozen BK103.out 2
                    have hfz119_3 := blk_frozen BK103.out 3
                    have hnb120 := NB102_101.out
                    have hnc120 := NB101_102.out
                    have hcz121_0 : wc.cell? ⟨gb102, 0, none⟩ = some (.int .i64 0) := bc BK102 0
                    have hcz121_1 : wc.cell? ⟨gb102, 1, none⟩ = some (.int .i64 0) := bc BK102 1
                    have hcz121_2 : wc.cell? ⟨gb102, 2, none⟩ = some (.string (⟨#[]⟩ : ByteArray)) := bc BK102 2
                    have hcz121_3 : wc.cell? ⟨gb102, 3, none⟩ = some (.string (⟨#[]⟩ : ByteArray)) := bc BK102 3
                    have hfz121_0 := blk_frozen BK102.out 0
                    have hfz121_1 := blk_frozen BK102.out 1
                    have hfz121_2 := blk_frozen BK102.out 2
                    have hfz121_3 := blk_frozen BK102.out 3
                    go_wp2
                    refine bodyPost_ret (results_cell_row rfl _ _ gb102 35 #[.int .i64 9, .int .i64 0, .string (⟨#[]⟩ : ByteArray), .string a0_3] (0, 0) _ rfl bkp Tryd.underlying35 rfl (by kernel_rfl)) rfl ?_
                    exact ⟨er, bh⟩
                · rw [if_neg c110] at H
                  have c110b0 : (a0_0 == 5) = false := beq_eq_false_iff_ne.mpr c110
                  have c110b1 : (a0_0 != 5) = true := bne_iff_ne.mpr c110
                  by_cases c122 : a0_0 = 6
                  · rw [if_pos c122] at H
                    have c122b0 : (a0_0 == 6) = true := beq_iff_eq.mpr c122
                    have c122b1 : (a0_0 != 6) = false := bne_eq_false_iff_eq.mpr c122
                    clear c122
                    by_cases c123 : a1 = 13
                    · rw [if_pos c123] at H
                      have c123b0 : (a1 == 13) = true := beq_iff_eq.mpr c123
                      have c123b1 : (a1 != 13) = false := bne_eq_false_iff_eq.mpr c123
                      clear c123
                      simp only [Option.some.injEq, Prod.mk.injEq] at H
                      obtain ⟨rfl, rfl, rfl, rfl⟩ := H
                      have hnb124 := NB101_102.out
                      have hnc124 := NB102_101.out
                      have hnb125 := NB101_103.out
                      have hnc125 := NB103_101.out
                      have hcz126_0 : wc.cell? ⟨gb101, 0, none⟩ = some (.int .i64 a0_0) := bc BK101 0
                      have hcz126_1 : wc.cell? ⟨gb101, 1, none⟩ = some (.int .i64 a0_1) := bc BK101 1
                      have hcz126_2 : wc.cell? ⟨gb101, 2, none⟩ = some (.string a0_2) := bc BK101 2
                      have hcz126_3 : wc.cell? ⟨gb101, 3, none⟩ = some (.string a0_3) := bc BK101 3
                      have hfz126_0 := blk_frozen BK101.out 0
                      have hfz126_1 := blk_frozen BK101.out 1
                      have hfz126_2 := blk_frozen BK101.out 2
                      have hfz126_3 := blk_frozen BK101.out 3
                      have hnb127 := NB102_103.out
                      have hnc127 := NB103_102.out
                      have hcz128_0 : wc.cell? ⟨gb102, 0, none⟩ = some (.int .i64 0) := bc BK102 0
                      have hcz128_1 : wc.cell? ⟨gb102, 1, none⟩ = some (.int .i64 0) := bc BK102 1
                      have hcz128_2 : wc.cell? ⟨gb102, 2, none⟩ = some (.string (⟨#[]⟩ : ByteArray)) := bc BK102 2
                      have hcz128_3 : wc.cell? ⟨gb102, 3, none⟩ = some (.string (⟨#[]⟩ : ByteArray)) := bc BK102 3
                      have hfz128_0 := blk_frozen BK102.out 0
                      have hfz128_1 := blk_frozen BK102.out 1
                      have hfz128_2 := blk_frozen BK102.out 2
                      have hfz128_3 := blk_frozen BK102.out 3
                      go_wp2
                      refine bodyPost_ret (results_cell_row rfl _ _ gb102 35 #[.int .i64 7, .int .i64 a0_1, .string a0_2, .string a0_3] (0, 0) _ rfl bkp Tryd.underlying35 rfl (by kernel_rfl)) rfl ?_
                      exact ⟨er, bh⟩
                    · rw [if_neg c123] at H
                      have c123b0 : (a1 == 13) = false := beq_eq_false_iff_ne.mpr c123
                      have c123b1 : (a1 != 13) = true := bne_iff_ne.mpr c123
                      simp only [Option.some.injEq, Prod.mk.injEq] at H
                      obtain ⟨rfl, rfl, rfl, rfl⟩ := H
                      have hnb129 := NB103_101.out
                      have hnc129 := NB101_103.out
                      have hnb130 := NB103_102.out
                      have hnc130 := NB102_103.out
                      have hcz131_0 : wc.cell? ⟨gb103, 0, none⟩ = some (.int .i64 9) := bc BK103 0
                      have hcz131_1 : wc.cell? ⟨gb103, 1, none⟩ = some (.int .i64 0) := bc BK103 1
                      have hcz131_2 : wc.cell? ⟨gb103, 2, none⟩ = some (.string (⟨#[]⟩ : ByteArray)) := bc BK103 2
                      have hcz131_3 : wc.cell? ⟨gb103, 3, none⟩ = some (.string a0_3) := bc BK103 3
                      have hfz131_0 := blk_frozen BK103.out 0
                      have hfz131_1 := blk_frozen BK103.out 1
                      have hfz131_2 := blk_frozen BK103.out 2
                      have hfz131_3 := blk_frozen BK103.out 3
                      have hnb132 := NB102_101.out
                      have hnc132 := NB101_102.out
                      have hcz133_0 : wc.cell? ⟨gb102, 0, none⟩ = some (.int .i64 0) := bc BK102 0
                      have hcz133_1 : wc.cell? ⟨gb102, 1, none⟩ = some (.int .i64 0) := bc BK102 1
                      have hcz133_2 : wc.cell? ⟨gb102, 2, none⟩ = some (.string (⟨#[]⟩ : ByteArray)) := bc BK102 2
                      have hcz133_3 : wc.cell? ⟨gb102, 3, none⟩ = some (.string (⟨#[]⟩ : ByteArray)) := bc BK102 3
                      have hfz133_0 := blk_frozen BK102.out 0
                      have hfz133_1 := blk_frozen BK102.out 1
                      have hfz133_2 := blk_frozen BK102.out 2
                      have hfz133_3 := blk_frozen BK102.out 3
                      go_wp2
                      refine bodyPost_ret (results_cell_row rfl _ _ gb102 35 #[.int .i64 9, .int .i64 0, .string (⟨#[]⟩ : ByteArray), .string a0_3] (0, 0) _ rfl bkp Tryd.underlying35 rfl (by kernel_rfl)) rfl ?_
                      exact ⟨er, bh⟩
                  · rw [if_neg c122] at H
                    have c122b0 : (a0_0 == 6) = false := beq_eq_false_iff_ne.mpr c122
                    have c122b1 : (a0_0 != 6) = true := bne_iff_ne.mpr c122
                    by_cases c134 : a0_0 = 7
                    · rw [if_pos c134] at H
                      have c134b0 : (a0_0 == 7) = true := beq_iff_eq.mpr c134
                      have c134b1 : (a0_0 != 7) = false := bne_eq_false_iff_eq.mpr c134
                      clear c134
                      by_cases c135 : a1 = 10
                      · rw [if_pos c135] at H
                        have c135b0 : (a1 == 10) = true := beq_iff_eq.mpr c135
                        have c135b1 : (a1 != 10) = false := bne_eq_false_iff_eq.mpr c135
                        clear c135
                        simp only [Option.some.injEq, Prod.mk.injEq] at H
                        obtain ⟨rfl, rfl, rfl, rfl⟩ := H
                        have hnb136 := NB101_102.out
                        have hnc136 := NB102_101.out
                        have hnb137 := NB101_103.out
                        have hnc137 := NB103_101.out
                        have hcz138_0 : wc.cell? ⟨gb101, 0, none⟩ = some (.int .i64 a0_0) := bc BK101 0
                        have hcz138_1 : wc.cell? ⟨gb101, 1, none⟩ = some (.int .i64 a0_1) := bc BK101 1
                        have hcz138_2 : wc.cell? ⟨gb101, 2, none⟩ = some (.string a0_2) := bc BK101 2
                        have hcz138_3 : wc.cell? ⟨gb101, 3, none⟩ = some (.string a0_3) := bc BK101 3
                        have hfz138_0 := blk_frozen BK101.out 0
                        have hfz138_1 := blk_frozen BK101.out 1
                        have hfz138_2 := blk_frozen BK101.out 2
                        have hfz138_3 := blk_frozen BK101.out 3
                        have hnb139 := NB102_103.out
                        have hnc139 := NB103_102.out
                        have hcz140_0 : wc.cell? ⟨gb102, 0, none⟩ = some (.int .i64 0) := bc BK102 0
                        have hcz140_1 : wc.cell? ⟨gb102, 1, none⟩ = some (.int .i64 0) := bc BK102 1
                        have hcz140_2 : wc.cell? ⟨gb102, 2, none⟩ = some (.string (⟨#[]⟩ : ByteArray)) := bc BK102 2
                        have hcz140_3 : wc.cell? ⟨gb102, 3, none⟩ = some (.string (⟨#[]⟩ : ByteArray)) := bc BK102 3
                        have hfz140_0 := blk_frozen BK102.out 0
                        have hfz140_1 := blk_frozen BK102.out 1
                        have hfz140_2 := blk_frozen BK102.out 2
                        have hfz140_3 := blk_frozen BK102.out 3
                        go_wp2
                        refine bodyPost_ret (results_cell_row rfl _ _ gb102 35 #[.int .i64 8, .int .i64 a0_1, .string a0_2, .string a0_3] (0, 0) _ rfl bkp Tryd.underlying35 rfl (by kernel_rfl)) rfl ?_
                        exact ⟨er, bh⟩
                      · rw [if_neg c135] at H
                        have c135b0 : (a1 == 10) = false := beq_eq_false_iff_ne.mpr c135
                        have c135b1 : (a1 != 10) = true := bne_iff_ne.mpr c135
                        simp only [Option.some.injEq, Prod.mk.injEq] at H
                        obtain ⟨rfl, rfl, rfl, rfl⟩ := H
                        have hnb141 := NB103_101.out
                        have hnc141 := NB101_103.out
                        have hnb142 := NB103_102.out
                        have hnc142 := NB102_103.out
                        have hcz143_0 : wc.cell? ⟨gb103, 0, none⟩ = some (.int .i64 9) := bc BK103 0
                        have hcz143_1 : wc.cell? ⟨gb103, 1, none⟩ = some (.int .i64 0) := bc BK103 1
                        have hcz143_2 : wc.cell? ⟨gb103, 2, none⟩ = some (.string (⟨#[]⟩ : ByteArray)) := bc BK103 2
                        have hcz143_3 : wc.cell? ⟨gb103, 3, none⟩ = some (.string a0_3) := bc BK103 3
                        have hfz143_0 := blk_frozen BK103.out 0
                        have hfz143_1 := blk_frozen BK103.out 1
                        have hfz143_2 := blk_frozen BK103.out 2
                        have hfz143_3 := blk_frozen BK103.out 3
                        have hnb144 := NB102_101.out
                        have hnc144 := NB101_102.out
                        have hcz145_0 : wc.cell? ⟨gb102, 0, none⟩ = some (.int .i64 0) := bc BK102 0
                        have hcz145_1 : wc.cell? ⟨gb102, 1, none⟩ = some (.int .i64 0) := bc BK102 1
                        have hcz145_2 : wc.cell? ⟨gb102, 2, none⟩ = some (.string (⟨#[]⟩ : ByteArray)) := bc BK102 2
                        have hcz145_3 : wc.cell? ⟨gb102, 3, none⟩ = some (.string (⟨#[]⟩ : ByteArray)) := bc BK102 3
                        have hfz145_0 := blk_frozen BK102.out 0
                        have hfz145_1 := blk_frozen BK102.out 1
                        have hfz145_2 := blk_frozen BK102.out 2
                        have hfz145_3 := blk_frozen BK102.out 3
                        go_wp2
                        refine bodyPost_ret (results_cell_row rfl _ _ gb102 35 #[.int .i64 9, .int .i64 0, .string (⟨#[]⟩ : ByteArray), .string a0_3] (0, 0) _ rfl bkp Tryd.underlying35 rfl (by kernel_rfl)) rfl ?_
                        exact ⟨er, bh⟩
                    · rw [if_neg c134] at H
                      have c134b0 : (a0_0 == 7) = false := beq_eq_false_iff_ne.mpr c134
                      have c134b1 : (a0_0 != 7) = true := bne_iff_ne.mpr c134
                      by_cases c146 : a1 = 13
                      · rw [if_pos c146] at H
                        have c146b0 : (a1 == 13) = true := beq_iff_eq.mpr c146
                        have c146b1 : (a1 != 13) = false := bne_eq_false_iff_eq.mpr c146
                        clear c146
                        simp only [Option.some.injEq, Prod.mk.injEq] at H
                        obtain ⟨rfl, rfl, rfl, rfl⟩ := H
                        have hnb147 := NB101_102.out
                        have hnc147 := NB102_101.out
                        have hnb148 := NB101_103.out
                        have hnc148 := NB103_101.out
                        have hcz149_0 : wc.cell? ⟨gb101, 0, none⟩ = some (.int .i64 a0_0) := bc BK101 0
                        have hcz149_1 : wc.cell? ⟨gb101, 1, none⟩ = some (.int .i64 a0_1) := bc BK101 1
                        have hcz149_2 : wc.cell? ⟨gb101, 2, none⟩ = some (.string a0_2) := bc BK101 2
                        have hcz149_3 : wc.cell? ⟨gb101, 3, none⟩ = some (.string a0_3) := bc BK101 3
                        have hfz149_0 := blk_frozen BK101.out 0
                        have hfz149_1 := blk_frozen BK101.out 1
                        have hfz149_2 := blk_frozen BK101.out 2
                        have hfz149_3 := blk_frozen BK101.out 3
                        have hnb150 := NB102_103.out
                        have hnc150 := NB103_102.out
                        have hcz151_0 : wc.cell? ⟨gb102, 0, none⟩ = some (.int .i64 0) := bc BK102 0
                        have hcz151_1 : wc.cell? ⟨gb102, 1, none⟩ = some (.int .i64 0) := bc BK102 1
                        have hcz151_2 : wc.cell? ⟨gb102, 2, none⟩ = some (.string (⟨#[]⟩ : ByteArray)) := bc BK102 2
                        have hcz151_3 : wc.cell? ⟨gb102, 3, none⟩ = some (.string (⟨#[]⟩ : ByteArray)) := bc BK102 3
                        have hfz151_0 := blk_frozen BK102.out 0
                        have hfz151_1 := blk_frozen BK102.out 1
                        have hfz151_2 := blk_frozen BK102.out 2
                        have hfz151_3 := blk_frozen BK102.out 3
                        go_wp2
                        refine bodyPost_ret (results_cell_row rfl _ _ gb102 35 #[.int .i64 0, .int .i64 a0_1, .string a0_2, .string a0_3] (0, 0) _ rfl bkp Tryd.underlying35 rfl (by kernel_rfl)) rfl ?_
                        exact ⟨er, bh⟩
                      · rw [if_neg c146] at H
                        have c146b0 : (a1 == 13) = false := beq_eq_false_iff_ne.mpr c146
                        have c146b1 : (a1 != 13) = true := bne_iff_ne.mpr c146
                        simp only [Option.some.injEq, Prod.mk.injEq] at H
                        obtain ⟨rfl, rfl, rfl, rfl⟩ := H
                        have hnb152 := NB103_101.out
                        have hnc152 := NB101_103.out
                        have hnb153 := NB103_102.out
                        have hnc153 := NB102_103.out
                        have hcz154_0 : wc.cell? ⟨gb103, 0, none⟩ = some (.int .i64 9) := bc BK103 0
                        have hcz154_1 : wc.cell? ⟨gb103, 1, none⟩ = some (.int .i64 0) := bc BK103 1
                        have hcz154_2 : wc.cell? ⟨gb103, 2, none⟩ = some (.string (⟨#[]⟩ : ByteArray)) := bc BK103 2
                        have hcz154_3 : wc.cell? ⟨gb103, 3, none⟩ = some (.string a0_3) := bc BK103 3
                        have hfz154_0 := blk_frozen BK103.out 0
                        have hfz154_1 := blk_frozen BK103.out 1
                        have hfz154_2 := blk_frozen BK103.out 2
                        have hfz154_3 := blk_frozen BK103.out 3
                        have hnb155 := NB102_101.out
                        have hnc155 := NB101_102.out
                        have hcz156_0 : wc.cell? ⟨gb102, 0, none⟩ = some (.int .i64 0) := bc BK102 0
                        have hcz156_1 : wc.cell? ⟨gb102, 1, none⟩ = some (.int .i64 0) := bc BK102 1
                        have hcz156_2 : wc.cell? ⟨gb102, 2, none⟩ = some (.string (⟨#[]⟩ : ByteArray)) := bc BK102 2
                        have hcz156_3 : wc.cell? ⟨gb102, 3, none⟩ = some (.string (⟨#[]⟩ : ByteArray)) := bc BK102 3
                        have hfz156_0 := blk_frozen BK102.out 0
                        have hfz156_1 := blk_frozen BK102.out 1
                        have hfz156_2 := blk_frozen BK102.out 2
                        have hfz156_3 := blk_frozen BK102.out 3
                        go_wp2
                        refine bodyPost_ret (results_cell_row rfl _ _ gb102 35 #[.int .i64 9, .int .i64 0, .string (⟨#[]⟩ : ByteArray), .string a0_3] (0, 0) _ rfl bkp Tryd.underlying35 rfl (by kernel_rfl)) rfl ?_
                        exact ⟨er, bh⟩

end Go.Proofs.YtfbgpjhnjdhpcaaDoor.P
