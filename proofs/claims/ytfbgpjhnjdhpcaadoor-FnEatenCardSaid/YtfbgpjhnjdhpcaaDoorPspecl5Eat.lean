/- Functions of the Go program as Lean functions, and proofs that each Go function comes to its Lean function's answers; conditions: those that each theorem states. Written by this session's program hprint.py, which drives the kit's printer. -/
import Derived.Test.YtfbgpjhnjdhpcaaDoorP0
import Derived.Test.YtfbgpjhnjdhpcaaDoorPspecHexDigits
import Derived.Test.YtfbgpjhnjdhpcaaDoorPspecl1Hex
import Derived.Test.YtfbgpjhnjdhpcaaDoorXA
namespace Go.Proofs.YtfbgpjhnjdhpcaaDoor.P
open Go.RowKit Go.Proofs.YtfbgpjhnjdhpcaaDoorW.PrintWords Go.Proofs.YtfbgpjhnjdhpcaaDoorW.PrintLast Go.Proofs.YtfbgpjhnjdhpcaaDoorW.PrintMore
attribute [local go_sem] max2_int min2_int max_two min_two max_three min_three max_four min_four   -- for this text's walks alone
set_option linter.unusedVariables false
set_option linter.unusedSimpArgs false

/-! ### spec_l5Eat: function 59 -/
mutual
def spec_l5Eat.j0 : Nat → Int → Int → Int → Int → Bool → Int → Int → ByteArray → ByteArray → Int → Int → ByteArray → ByteArray → Option (Int × Int × ByteArray × ByteArray)
 | 0, _, _, _, _, _, _, _, _, _, _, _, _, _ => none
 | k + 1, x1, x6, x7, x14, x15, x102000, x102001, x102002, x102003, x104000, x104001, x104002, x104003 => if x15 = true then (some (x102000, x102001, x102002, x102003)) else (if x14 = 1 then ((spec_l1Hex.f k x1).bind fun t104 => (if t104 ≥ 0 then (spec_l5Eat.j1 k x1 (decide ((x102002.size : Int) < 13)) x102000 x102001 x102002 x102003 x104000 x104001 x104002 x104003) else (spec_l5Eat.j1 k x1 false x102000 x102001 x102002 x102003 x104000 x104001 x104002 x104003))) else (if x14 = 2 then (if x1 = 10 then (if x102001 = 0 then (some (6, x102001, x102002, x102003)) else (some (3, x102001, x102002, x102003))) else (some (x104000, x104001, x104002, x104003))) else (if x14 = 3 then ((some (([x1] : List Int) : List Int)).bind fun y110 => (if x102003.size + (strOfNums y110).size ≤ 9223372036854775807 then (if (wrap64 (x102001 - 1)) = 0 then (some (4, wrap64 (x102001 - 1), x102002, x102003 ++ (strOfNums y110))) else (some (x102000, wrap64 (x102001 - 1), x102002, x102003 ++ (strOfNums y110)))) else (none))) else (if x14 = 4 then (if x1 = x6 then (some (5, x102001, x102002, x102003)) else (some (x104000, x104001, x104002, x104003))) else (if x14 = 5 then (if x1 = 10 then (some (1, x102001, x102002, x102003)) else (some (x104000, x104001, x104002, x104003))) else (if x14 = 6 then (if x1 = x6 then (some (7, x102001, x102002, x102003)) else (some (x104000, x104001, x104002, x104003))) else (if x14 = 7 then (if x1 = 10 then (some (8, x102001, x102002, x102003)) else (some (x104000, x104001, x104002, x104003))) else (if x1 = x6 then (some (x7, x102001, x102002, x102003)) else (some (x104000, x104001, x104002, x104003))))))))))
def spec_l5Eat.j1 : Nat → Int → Bool → Int → Int → ByteArray → ByteArray → Int → Int → ByteArray → ByteArray → Option (Int × Int × ByteArray × ByteArray)
 | 0, _, _, _, _, _, _, _, _, _, _ => none
 | k + 1, x1, x29, x102000, x102001, x102002, x102003, x104000, x104001, x104002, x104003 => if x29 = true then ((some (([x1] : List Int) : List Int)).bind fun y105 => (if x102002.size + (strOfNums y105).size ≤ 9223372036854775807 then (some (x102000, x102001, x102002 ++ (strOfNums y105), x102003)) else (none))) else ((spec_HexDigits.f k x102002).bind fun bt108 => (if x1 = 13 then (if bt108.2 = true then (spec_l5Eat.j2 k bt108.1 (decide (bt108.1 > (wrap64 (4000 - (x102003.size : Int))))) x102000 x102001 x102002 x102003 x104000 x104001 x104002 x104003) else (spec_l5Eat.j2 k bt108.1 true x102000 x102001 x102002 x102003 x104000 x104001 x104002 x104003)) else (spec_l5Eat.j2 k bt108.1 true x102000 x102001 x102002 x102003 x104000 x104001 x104002 x104003)))
def spec_l5Eat.j2 : Nat → Int → Bool → Int → Int → ByteArray → ByteArray → Int → Int → ByteArray → ByteArray → Option (Int × Int × ByteArray × ByteArray)
 | 0, _, _, _, _, _, _, _, _, _, _ => none
 | k + 1, x8, x57, x102000, x102001, x102002, x102003, x104000, x104001, x104002, x104003 => if x57 = true then (some (x104000, x104001, x104002, x104003)) else (some (2, x8, (⟨#[]⟩ : ByteArray), x102003))
end
def spec_l5Eat.f (k : Nat) (a0_0 : Int) (a0_1 : Int) (a0_2 : ByteArray) (a0_3 : ByteArray) (a1 : Int) : Option (Int × Int × ByteArray × ByteArray) := if a0_0 = 8 then (spec_l5Eat.j0 k a1 13 0 a0_0 (a0_0 == 8) a0_0 a0_1 a0_2 a0_3 9 0 (⟨#[]⟩ : ByteArray) a0_3) else (spec_l5Eat.j0 k a1 13 0 a0_0 (a0_0 == 9) a0_0 a0_1 a0_2 a0_3 9 0 (⟨#[]⟩ : ByteArray) a0_3)
theorem spec_l5Eat.mono_l : ∀ k, (∀ y0 y1 y2 y3 y4 y5 y6 y7 y8 y9 y10 y11 y12, LeO (spec_l5Eat.j0 k y0 y1 y2 y3 y4 y5 y6 y7 y8 y9 y10 y11 y12) (spec_l5Eat.j0 (k + 1) y0 y1 y2 y3 y4 y5 y6 y7 y8 y9 y10 y11 y12)) ∧ (∀ y0 y1 y2 y3 y4 y5 y6 y7 y8 y9, LeO (spec_l5Eat.j1 k y0 y1 y2 y3 y4 y5 y6 y7 y8 y9) (spec_l5Eat.j1 (k + 1) y0 y1 y2 y3 y4 y5 y6 y7 y8 y9)) ∧ (∀ y0 y1 y2 y3 y4 y5 y6 y7 y8 y9, LeO (spec_l5Eat.j2 k y0 y1 y2 y3 y4 y5 y6 y7 y8 y9) (spec_l5Eat.j2 (k + 1) y0 y1 y2 y3 y4 y5 y6 y7 y8 y9))
 | 0 => ⟨fun _ _ _ _ _ _ _ _ _ _ _ _ _ r h => by simp [spec_l5Eat.j0] at h, fun _ _ _ _ _ _ _ _ _ _ r h => by simp [spec_l5Eat.j1] at h, fun _ _ _ _ _ _ _ _ _ _ r h => by simp [spec_l5Eat.j2] at h⟩
 | k + 1 => by
  obtain ⟨ih0, ih1, ih2⟩ := spec_l5Eat.mono_l k
  refine ⟨?_, ?_, ?_⟩
  ·
   intro y0 y1 y2 y3 y4 y5 y6 y7 y8 y9 y10 y11 y12
   unfold spec_l5Eat.j0
   repeat' first
   | (with_reducible exact ih0 _ _ _ _ _ _ _ _ _ _ _ _ _)
   | (with_reducible exact ih1 _ _ _ _ _ _ _ _ _ _)
   | (with_reducible exact ih2 _ _ _ _ _ _ _ _ _ _)
   | (with_reducible exact spec_HexDigits.mono _ _)
   | (with_reducible exact spec_l1Hex.mono _ _)
   | (with_reducible exact LeO.refl _)
   | (with_reducible exact LeO.none _)
   | (with_reducible refine LeO.ite ?_ ?_)
   | (with_reducible refine LeO.bind ?_ (fun _ => ?_))
   | exact ih0 _ _ _ _ _ _ _ _ _ _ _ _ _
   | exact ih1 _ _ _ _ _ _ _ _ _ _
   | exact ih2 _ _ _ _ _ _ _ _ _ _
   | exact spec_HexDigits.mono _ _
   | exact spec_l1Hex.mono _ _
   | exact LeO.none _
   | refine LeO.ite ?_ ?_
   | refine LeO.bind ?_ (fun _ => ?_)
  ·
   intro y0 y1 y2 y3 y4 y5 y6 y7 y8 y9
   unfold spec_l5Eat.j1
   repeat' first
   | (with_reducible exact ih0 _ _ _ _ _ _ _ _ _ _ _ _ _)
   | (with_reducible exact ih1 _ _ _ _ _ _ _ _ _ _)
   | (with_reducible exact ih2 _ _ _ _ _ _ _ _ _ _)
   | (with_reducible exact spec_HexDigits.mono _ _)
   | (with_reducible exact spec_l1Hex.mono _ _)
   | (with_reducible exact LeO.refl _)
   | (with_reducible exact LeO.none _)
   | (with_reducible refine LeO.ite ?_ ?_)
   | (with_reducible refine LeO.bind ?_ (fun _ => ?_))
   | exact ih0 _ _ _ _ _ _ _ _ _ _ _ _ _
   | exact ih1 _ _ _ _ _ _ _ _ _ _
   | exact ih2 _ _ _ _ _ _ _ _ _ _
   | exact spec_HexDigits.mono _ _
   | exact spec_l1Hex.mono _ _
   | exact LeO.none _
   | refine LeO.ite ?_ ?_
   | refine LeO.bind ?_ (fun _ => ?_)
  ·
   intro y0 y1 y2 y3 y4 y5 y6 y7 y8 y9
   unfold spec_l5Eat.j2
   repeat' first
   | (with_reducible exact ih0 _ _ _ _ _ _ _ _ _ _ _ _ _)
   | (with_reducible exact ih1 _ _ _ _ _ _ _ _ _ _)
   | (with_reducible exact ih2 _ _ _ _ _ _ _ _ _ _)
   | (with_reducible exact spec_HexDigits.mono _ _)
   | (with_reducible exact spec_l1Hex.mono _ _)
   | (with_reducible exact LeO.refl _)
   | (with_reducible exact LeO.none _)
   | (with_reducible refine LeO.ite ?_ ?_)
   | (with_reducible refine LeO.bind ?_ (fun _ => ?_))
   | exact ih0 _ _ _ _ _ _ _ _ _ _ _ _ _
   | exact ih1 _ _ _ _ _ _ _ _ _ _
   | exact ih2 _ _ _ _ _ _ _ _ _ _
   | exact spec_HexDigits.mono _ _
   | exact spec_l1Hex.mono _ _
   | exact LeO.none _
   | refine LeO.ite ?_ ?_
   | refine LeO.bind ?_ (fun _ => ?_)
theorem spec_l5Eat.mono : ∀ a0 a1 a2 a3 a4 k, LeO (spec_l5Eat.f k a0 a1 a2 a3 a4) (spec_l5Eat.f (k + 1) a0 a1 a2 a3 a4) := by
 intro a0 a1 a2 a3 a4 k
 obtain ⟨ih0, ih1, ih2⟩ := spec_l5Eat.mono_l k
 unfold spec_l5Eat.f
 repeat' first
   | (with_reducible exact ih0 _ _ _ _ _ _ _ _ _ _ _ _ _)
   | (with_reducible exact ih1 _ _ _ _ _ _ _ _ _ _)
   | (with_reducible exact ih2 _ _ _ _ _ _ _ _ _ _)
   | (with_reducible exact spec_HexDigits.mono _ _)
   | (with_reducible exact spec_l1Hex.mono _ _)
   | (with_reducible exact LeO.refl _)
   | (with_reducible exact LeO.none _)
   | (with_reducible refine LeO.ite ?_ ?_)
   | (with_reducible refine LeO.bind ?_ (fun _ => ?_))
   | exact ih0 _ _ _ _ _ _ _ _ _ _ _ _ _
   | exact ih1 _ _ _ _ _ _ _ _ _ _
   | exact ih2 _ _ _ _ _ _ _ _ _ _
   | exact spec_HexDigits.mono _ _
   | exact spec_l1Hex.mono _ _
   | exact LeO.none _
   | refine LeO.ite ?_ ?_
   | refine LeO.bind ?_ (fun _ => ?_)
set_option maxHeartbeats 8000000 in
set_option maxRecDepth 100000 in
theorem spec_l5Eat.calls (k : Nat) (a0_0 : Int) (a0_1 : Int) (a0_2 : ByteArray) (a0_3 : ByteArray) (a1 : Int) (r1 : Int) (r2 : Int) (r3 : ByteArray) (r4 : ByteArray) (w : World) (h : spec_l5Eat.f k a0_0 a0_1 a0_2 a0_3 a1 = some (r1, r2, r3, r4)) :
  Calls Tryd.prog 59 #[.agg #[.int .i64 a0_0, .int .i64 a0_1, .string a0_2, .string a0_3], .int .u8 a1] w fun e w' => e = .returned (.agg #[.int .i64 r1, .int .i64 r2, .string r3, .string r4]) ∧ Below w.heap.size w w' := by
 have hu35 := Tryd.underlying35
 have HB := Aside0.mk (Below.refl w.heap.size w)
 have H : (if a0_0 = 8 then (spec_l5Eat.j0 k a1 13 0 a0_0 (a0_0 == 8) a0_0 a0_1 a0_2 a0_3 9 0 (⟨#[]⟩ : ByteArray) a0_3) else (spec_l5Eat.j0 k a1 13 0 a0_0 (a0_0 == 9) a0_0 a0_1 a0_2 a0_3 9 0 (⟨#[]⟩ : ByteArray) a0_3)) = some (r1, r2, r3, r4) := h
 clear h
 have HC3 := Aside0.mk H
 clear H
 go_enter Tryd.func59, Tryd.ntmps59
 go_upto_if 15 with (first | ((with_reducible refine gate_dst (N := 2) rfl ?_); (try (refine gate_guard (by rfl) ?_; dsimp only)); refine bx 2 #[.int .i64 a0_0, .int .i64 a0_1, .string a0_2, .string a0_3] 35 ?_; intro gb101 hg w4 hbox hb; have BK101 := Aside0.mk (hbox); have GW101 := Aside0.mk (bz hg); have GE101 := Aside0.mk (bz hg); replace HB := Aside0.mk (below_step bh hb); clear hb hbox hg) | ((with_reducible refine gate_dst (N := 4) rfl ?_); (try (refine gate_guard (by rfl) ?_; dsimp only)); refine bx 4 #[.int .i64 0, .int .i64 0, .string (⟨#[]⟩ : ByteArray), .string (⟨#[]⟩ : ByteArray)] 35 ?_; intro gb102 hg w5 hbox hb; have BK102 := Aside0.mk (hbox); have GW102 := Aside0.mk (bz hg); have GE102 := Aside0.mk (bz hg); have NB101_102 := Aside0.mk ((nl (o := .cells #[.int .i64 a0_0, .int .i64 a0_1, .string a0_2, .string a0_3] 35 (0, 0)) hg bk : gb101 ≠ gb102)); have NB102_101 := Aside0.mk ((ng (o := .cells #[.int .i64 a0_0, .int .i64 a0_1, .string a0_2, .string a0_3] 35 (0, 0)) hg bk : gb102 ≠ gb101)); replace BK101 := bkb_ BK101 hb; replace HB := Aside0.mk (below_step bh hb); clear hb hbox hg; have hnb6 := NB101_102.out; have hnc6 := NB102_101.out; obtain ⟨hcz7_0, hcz7_1, hcz7_2, hcz7_3⟩ := zcf4 BK101; obtain ⟨hfz7_0, hfz7_1, hfz7_2, hfz7_3⟩ := zff4 BK101) | ((with_reducible refine gate_dst (N := 5) rfl ?_); (try (refine gate_guard (by rfl) ?_; dsimp only)); refine bx 5 #[.int .i64 0, .int .i64 0, .string (⟨#[]⟩ : ByteArray), .string (⟨#[]⟩ : ByteArray)] 35 ?_; intro gb103 hg w8 hbox hb; have BK103 := Aside0.mk (hbox); have GW103 := Aside0.mk (bz hg); have GE103 := Aside0.mk (bz hg); have NB101_103 := Aside0.mk ((nl (o := .cells #[.int .i64 a0_0, .int .i64 a0_1, .string a0_2, .string a0_3] 35 (0, 0)) hg bk : gb101 ≠ gb103)); have NB103_101 := Aside0.mk ((ng (o := .cells #[.int .i64 a0_0, .int .i64 a0_1, .string a0_2, .string a0_3] 35 (0, 0)) hg bk : gb103 ≠ gb101)); have NB102_103 := Aside0.mk ((nl (o := .cells #[.int .i64 0, .int .i64 0, .string (⟨#[]⟩ : ByteArray), .string (⟨#[]⟩ : ByteArray)] 35 (0, 0)) hg bk : gb102 ≠ gb103)); have NB103_102 := Aside0.mk ((ng (o := .cells #[.int .i64 0, .int .i64 0, .string (⟨#[]⟩ : ByteArray), .string (⟨#[]⟩ : ByteArray)] 35 (0, 0)) hg bk : gb103 ≠ gb102)); replace BK101 := bkb_ BK101 hb; replace BK102 := bkb_ BK102 hb; replace HB := Aside0.mk (below_step bh hb); clear hb hbox hg; have hnb9 := NB103_101.out; have hnc9 := NB101_103.out; have hnb10 := NB103_102.out; have hnc10 := NB102_103.out; obtain ⟨hcz11_0, hcz11_1, hcz11_2, hcz11_3⟩ := zcf4 BK103; obtain ⟨hfz11_0, hfz11_1, hfz11_2, hfz11_3⟩ := zff4 BK103; obtain ⟨hcz12_0, hcz12_1, hcz12_2, hcz12_3⟩ := zcf4 BK101; obtain ⟨hfz12_0, hfz12_1, hfz12_2, hfz12_3⟩ := zff4 BK101))
 (try simp only [Act.put, List.setIfInBounds_toArray, List.set_cons_zero, List.set_cons_succ])
 go_cut [15] (fun v15 wc => ∃ (kq : Nat) (x15_2 : Bool), v15 = .bool x15_2 ∧ Aside0 (spec_l5Eat.j0 kq a1 13 0 a0_0 x15_2 a0_0 a0_1 a0_2 a0_3 9 0 (⟨#[]⟩ : ByteArray) a0_3 = some (r1, r2, r3, r4)) ∧ Aside0 (kq ≤ k) ∧ Aside0 (wc.heap[gb101]? = some (.cells #[.int .i64 a0_0, .int .i64 a0_1, .string a0_2, .string a0_3] 35 (0, 0))) ∧ Aside0 (wc.heap[gb102]? = some (.cells #[.int .i64 0, .int .i64 0, .string (⟨#[]⟩ : ByteArray), .string (⟨#[]⟩ : ByteArray)] 35 (0, 0))) ∧ Aside0 (wc.heap[gb103]? = some (.cells #[.int .i64 9, .int .i64 0, .string (⟨#[]⟩ : ByteArray), .string a0_3] 35 (0, 0))) ∧ Aside0 (Below w.heap.size w wc))
 case first =>
  have H := HC3.out
  clear HC3
  by_cases c13 : a0_0 = 8
  ·
   rw [if_pos c13] at H
   have c13b0 : (a0_0 == 8) = true := beq_iff_eq.mpr c13
   have c13b1 : (a0_0 != 8) = false := bne_eq_false_iff_eq.mpr c13
   clear c13
   (first | rw [c13b0] | (simp only [i64_w, i32_w]; rw [c13b0]) | skip)
   have H' := Aside0.mk H
   clear H
   go_wp2
   go_meet
   case rel => exact ⟨_, ((a0_0 == 8)), (by first | rfl | (simp; done) | (simp [*]; done)), H', ⟨by first | omega | exact Nat.le_refl _⟩, ⟨bkp⟩, ⟨bkp⟩, ⟨bkp⟩, ⟨bh⟩⟩
  ·
   rw [if_neg c13] at H
   have c13b0 : (a0_0 == 8) = false := beq_eq_false_iff_ne.mpr c13
   have c13b1 : (a0_0 != 8) = true := bne_iff_ne.mpr c13
   (first | rw [c13b0] | (simp only [i64_w, i32_w]; rw [c13b0]) | skip)
   have H' := Aside0.mk H
   clear H
   go_wp2
   go_meet
   case rel => exact ⟨_, ((a0_0 == 9)), (by first | rfl | (simp; done) | (simp [*]; done)), H', ⟨by first | omega | exact Nat.le_refl _⟩, ⟨bkp⟩, ⟨bkp⟩, ⟨bkp⟩, ⟨bh⟩⟩
 case rest =>
  clear HC3
  try clear c1
  try clear p2
  try clear c5
  try clear c6
  try clear c9
  try clear c10
  try clear c13
  try clear c13b0
  try clear c13b1
  try clear hcz11_0
  try clear hcz11_1
  try clear hcz11_2
  try clear hcz11_3
  try clear hcz12_0
  try clear hcz12_1
  try clear hcz12_2
  try clear hcz12_3
  try clear hcz7_0
  try clear hcz7_1
  try clear hcz7_2
  try clear hcz7_3
  try clear hfz11_0
  try clear hfz11_1
  try clear hfz11_2
  try clear hfz11_3
  try clear hfz12_0
  try clear hfz12_1
  try clear hfz12_2
  try clear hfz12_3
  try clear hfz7_0
  try clear hfz7_1
  try clear hfz7_2
  try clear hfz7_3
  obtain ⟨kq, x15_2, rfl, HA, HJ2, BK101, BK102, BK103, HB⟩ := hcut
  cases kq with
  | zero => exact absurd HA.out (by simp [spec_l5Eat.j0])
  | succ kj2 =>
   have H := HA.out
   clear HA
   simp only [spec_l5Eat.j0] at H
   by_cases c14 : x15_2 = true
   ·
    subst c14
    have H1 : (some (a0_0, a0_1, a0_2, a0_3)) = some (r1, r2, r3, r4) := by rw [if_pos rfl] at H; exact H
    clear H
    have H := H1
    clear H1
    simp only [Option.some.injEq, Prod.mk.injEq] at H
    obtain ⟨rfl, rfl, rfl, rfl⟩ := H
    have hnb15 := NB101_102.out
    have hnc15 := NB102_101.out
    have hnb16 := NB101_103.out
    have hnc16 := NB103_101.out
    obtain ⟨hcz17_0, hcz17_1, hcz17_2, hcz17_3⟩ := zcf4 BK101
    obtain ⟨hfz17_0, hfz17_1, hfz17_2, hfz17_3⟩ := zff4 BK101
    have hnb18 := NB102_103.out
    have hnc18 := NB103_102.out
    obtain ⟨hcz19_0, hcz19_1, hcz19_2, hcz19_3⟩ := zcf4 BK102
    obtain ⟨hfz19_0, hfz19_1, hfz19_2, hfz19_3⟩ := zff4 BK102
    go_wp2
    refine bodyPost_ret (results_cell_row rfl _ _ gb102 35 #[.int .i64 a0_0, .int .i64 a0_1, .string a0_2, .string a0_3] (0, 0) _ rfl bkp Tryd.underlying35 rfl (by kernel_rfl)) rfl ?_
    exact ⟨er, bh⟩
   ·
    replace c14 := Bool.eq_false_iff.mpr c14
    subst c14
    rw [if_neg (show ¬ (false = true) by decide)] at H
    by_cases c20 : a0_0 = 1
    ·
     rw [if_pos c20] at H
     have c20b0 : (a0_0 == 1) = true := beq_iff_eq.mpr c20
     have c20b1 : (a0_0 != 1) = false := bne_eq_false_iff_eq.mpr c20
     clear c20
     have HC21 := Aside0.mk H
     clear H
     go_upto_region 9 with (fail)
     go_cut [29] (fun v29 wc => ∃ (kq : Nat) (x29_20 : Bool), v29 = .bool x29_20 ∧ Aside0 (spec_l5Eat.j1 kq a1 x29_20 a0_0 a0_1 a0_2 a0_3 9 0 (⟨#[]⟩ : ByteArray) a0_3 = some (r1, r2, r3, r4)) ∧ Aside0 (kq ≤ kj2) ∧ Aside0 (wc.heap[gb101]? = some (.cells #[.int .i64 a0_0, .int .i64 a0_1, .string a0_2, .string a0_3] 35 (0, 0))) ∧ Aside0 (wc.heap[gb102]? = some (.cells #[.int .i64 0, .int .i64 0, .string (⟨#[]⟩ : ByteArray), .string (⟨#[]⟩ : ByteArray)] 35 (0, 0))) ∧ Aside0 (wc.heap[gb103]? = some (.cells #[.int .i64 9, .int .i64 0, .string (⟨#[]⟩ : ByteArray), .string a0_3] 35 (0, 0))) ∧ Aside0 (Below w.heap.size w wc))
     case first =>
      have H := HC21.out
      clear HC21
      obtain ⟨t104, A220, H⟩ := Option.bind_eq_some_iff.mp H
      try dsimp only at H
      have A22 := Aside0.mk A220
      clear A220
      by_cases c23 : t104 ≥ 0
      ·
       rw [if_pos c23] at H
       have c23b0 : decide (0 ≤ t104) = true := decide_eq_true c23
       clear c23
       (first | rw [c23b0] | (simp only [i64_w, i32_w]; rw [c23b0]) | skip)
       have H' := Aside0.mk H
       clear H
       go_wp2_with (first | ((with_reducible refine gate_callee (f := 43) rfl ?_); refine goesL_ (some 22) rfl rfl Tryd.func43 (by kernel_rfl) rfl #[.int .u8 a1] rfl mc ?_; (with_reducible refine (spec_l1Hex.calls kj2 a1 t104 _ A22.out).mono ?_); rintro e w' ⟨rfl, ⟨nd, rfl⟩⟩; refine ⟨_, rfl, ?_⟩; have hnb24 := NB101_102.out; have hnc24 := NB102_101.out; have hnb25 := NB101_103.out; have hnc25 := NB103_101.out; obtain ⟨hcz26_0, hcz26_1, hcz26_2, hcz26_3⟩ := zcf4 BK101; obtain ⟨hfz26_0, hfz26_1, hfz26_2, hfz26_3⟩ := zff4 BK101))
       go_meet
       case rel => exact ⟨_, (decide ((a0_2.size : Int) < 13)), (by first | rfl | (simp; done) | (simp [*]; done)), H', ⟨by have := HJ2.out; first | omega | exact Nat.le_refl _⟩, ⟨bk⟩, ⟨bk⟩, ⟨bk⟩, ⟨bh⟩⟩
      ·
       rw [if_neg c23] at H
       have c23b0 : decide (0 ≤ t104) = false := decide_eq_false c23
       clear c23
       (first | rw [c23b0] | (simp only [i64_w, i32_w]; rw [c23b0]) | skip)
       have H' := Aside0.mk H
       clear H
       go_wp2_with (first | ((with_reducible refine gate_callee (f := 43) rfl ?_); refine goesL_ (some 22) rfl rfl Tryd.func43 (by kernel_rfl) rfl #[.int .u8 a1] rfl mc ?_; (with_reducible refine (spec_l1Hex.calls kj2 a1 t104 _ A22.out).mono ?_); rintro e w' ⟨rfl, ⟨nd, rfl⟩⟩; refine ⟨_, rfl, ?_⟩))
       go_meet
       case rel => exact ⟨_, (false), (by first | rfl | (simp; done) | (simp [*]; done)), H', ⟨by have := HJ2.out; first | omega | exact Nat.le_refl _⟩, ⟨bk⟩, ⟨bk⟩, ⟨bk⟩, ⟨bh⟩⟩
     case rest =>
      clear HC21
      try clear c1
      try clear c2
      try clear p2
      try clear c4
      try clear c5
      try clear c6
      try clear p6
      try clear c9
      try clear c10
      try clear c13
      try clear c13b0
      try clear c13b1
      try clear c14
      try clear c15
      try clear c16
      try clear c18
      try clear c20
      try clear c20b0
      try clear c20b1
      try clear c23
      try clear c23b0
      try clear c24
      try clear c25
      try clear hcz11_0
      try clear hcz11_1
      try clear hcz11_2
      try clear hcz11_3
      try clear hcz12_0
      try clear hcz12_1
      try clear hcz12_2
      try clear hcz12_3
      try clear hcz17_0
      try clear hcz17_1
      try clear hcz17_2
      try clear hcz17_3
      try clear hcz19_0
      try clear hcz19_1
      try clear hcz19_2
      try clear hcz19_3
      try clear hcz26_0
      try clear hcz26_1
      try clear hcz26_2
      try clear hcz26_3
      try clear hcz7_0
      try clear hcz7_1
      try clear hcz7_2
      try clear hcz7_3
      try clear hfz11_0
      try clear hfz11_1
      try clear hfz11_2
      try clear hfz11_3
      try clear hfz12_0
      try clear hfz12_1
      try clear hfz12_2
      try clear hfz12_3
      try clear hfz17_0
      try clear hfz17_1
      try clear hfz17_2
      try clear hfz17_3
      try clear hfz19_0
      try clear hfz19_1
      try clear hfz19_2
      try clear hfz19_3
      try clear hfz26_0
      try clear hfz26_1
      try clear hfz26_2
      try clear hfz26_3
      try clear hfz7_0
      try clear hfz7_1
      try clear hfz7_2
      try clear hfz7_3
      try clear p2
      obtain ⟨kq, x29_20, rfl, HA, HJ20, BK101, BK102, BK103, HB⟩ := hcut
      cases kq with
      | zero => exact absurd HA.out (by simp [spec_l5Eat.j1])
      | succ kj20 =>
       have H := HA.out
       clear HA
       simp only [spec_l5Eat.j1] at H
       by_cases c27 : x29_20 = true
       ·
        subst c27
        rw [if_pos rfl] at H
        obtain ⟨y105, hy105⟩ : ∃ y_ : List Int, y_ = (([a1] : List Int)) := ⟨_, rfl⟩
        replace H : (if a0_2.size + (strOfNums y105).size ≤ 9223372036854775807 then (some (a0_0, a0_1, a0_2 ++ (strOfNums y105), a0_3)) else (none)) = some (r1, r2, r3, r4) := by first | (rw [hy105]; with_reducible exact H) | (have H2_ := (Option.bind_some _ _).symm.trans H; rw [hy105]; with_reducible exact H2_) | (have H2_ := (Option.bind_some _ _).symm.trans H; with_reducible exact H2_) | with_reducible exact H | (rw [hy105]; exact H) | exact H
        have Ny105 := Aside0.mk hy105
        clear hy105
        by_cases c28 : a0_2.size + (strOfNums y105).size ≤ 9223372036854775807
        ·
         rw [if_pos c28] at H
         have c28b0 := eq_true c28
         have c28b1 : decide (a0_2.size + (strOfNums y105).size ≤ 9223372036854775807) = true := decide_eq_true c28
         try have c28b2 : (9223372036854775807 < a0_2.size + (strOfNums y105).size) = False := eq_false (Nat.not_lt.2 c28)
         simp only [Option.some.injEq, Prod.mk.injEq] at H
         obtain ⟨rfl, rfl, rfl, rfl⟩ := H
         have hnb29 := NB101_102.out
         have hnc29 := NB102_101.out
         have hnb30 := NB101_103.out
         have hnc30 := NB103_101.out
         obtain ⟨hcz31_0, hcz31_1, hcz31_2, hcz31_3⟩ := zcf4 BK101
         obtain ⟨hfz31_0, hfz31_1, hfz31_2, hfz31_3⟩ := zff4 BK101
         go_wp2_with (first | ((with_reducible refine gate_dst (N := 33) rfl ?_); (try (refine gate_guard (by rfl) ?_; dsimp only)); refine Kd.R_lit (Kd.int .u8) _ 5 ?hg (N := 33) ?hd (xs := ([a1] : List Int)) (inner := [.int .u8 a1]) (ok := fun _ => True) (okp := fun _ => True) ?hr ?hp (fun _ hk => hk) trivial (Below.refl _ _) (Nat.le_refl _) (by simp) ?_; (case hd => rfl); (case hg => rfl); (case hr => first | (go_simp; done) | (go_simp; rfl)); (case hp => exact (Reps.one (show Kd.M (Kd.int .u8) _ _ _ a1 [.int .u8 a1] from rfl) (Reps.none _ _))); intro v106 w32 ho33 hb hg_ hnew_; clear hg_ hnew_; (first | rw [← Ny105.out] at ho33 | (simp only [Int.reduceToNat] at ho33; rw [← Ny105.out] at ho33)); have HO107 := Aside0.mk (Kd.R_lower ho33 (below_size bh)); replace BK101 := bkb_ BK101 hb; replace BK102 := bkb_ BK102 hb; replace BK103 := bkb_ BK103 hb; replace HB := Aside0.mk (below_step bh hb); clear hb ho33; have hcv34 := own_string (P := Tryd.prog) Tryd.underlying22 Tryd.underlying5 Tryd.underlying9 (Kd.own_of_R HO107.out); obtain ⟨hcz35_0, hcz35_1, hcz35_2, hcz35_3⟩ := zcf4 BK101; obtain ⟨hfz35_0, hfz35_1, hfz35_2, hfz35_3⟩ := zff4 BK101; have hnb36 := NB102_103.out; have hnc36 := NB103_102.out; obtain ⟨hcz37_0, hcz37_1, hcz37_2, hcz37_3⟩ := zcf4 BK102; obtain ⟨hfz37_0, hfz37_1, hfz37_2, hfz37_3⟩ := zff4 BK102))
         refine bodyPost_ret (results_cell_row rfl _ _ gb102 35 #[.int .i64 a0_0, .int .i64 a0_1, .string (a0_2 ++ (strOfNums y105)), .string a0_3] (0, 0) _ rfl bkp Tryd.underlying35 rfl (by kernel_rfl)) rfl ?_
         exact ⟨er, bh⟩
        ·
         rw [if_neg c28] at H
         exact absurd H (by simp)
       ·
        replace c27 := Bool.eq_false_iff.mpr c27
        subst c27
        rw [if_neg (show ¬ (false = true) by decide)] at H
        obtain ⟨⟨t108, t109⟩, A380, H⟩ := Option.bind_eq_some_iff.mp H
        try dsimp only at H
        have A38 := Aside0.mk A380
        clear A380
        have HC39 := Aside0.mk H
        clear H
        have hnb40 := NB101_102.out
        have hnc40 := NB102_101.out
        have hnb41 := NB101_103.out
        have hnc41 := NB103_101.out
        obtain ⟨hcz42_0, hcz42_1, hcz42_2, hcz42_3⟩ := zcf4 BK101
        obtain ⟨hfz42_0, hfz42_1, hfz42_2, hfz42_3⟩ := zff4 BK101
        go_upto_region 13 with (first | ((with_reducible refine gate_callee (f := 77) rfl ?_); refine goesL_ (some 41) rfl rfl Tryd.func77 (by kernel_rfl) rfl #[.string a0_2] rfl mc ?_; (with_reducible refine (spec_HexDigits.calls kj20 a0_2 t108 t109 _ A38.out).mono ?_); rintro e w' ⟨rfl, ⟨nd, rfl⟩⟩; refine ⟨_, rfl, ?_⟩))
        (try simp only [Act.put, List.setIfInBounds_toArray, List.set_cons_zero, List.set_cons_succ])
        go_cut [57] (fun v57 wc => ∃ (kq : Nat) (x57_38 : Bool), v57 = .bool x57_38 ∧ Aside0 (spec_l5Eat.j2 kq t108 x57_38 a0_0 a0_1 a0_2 a0_3 9 0 (⟨#[]⟩ : ByteArray) a0_3 = some (r1, r2, r3, r4)) ∧ Aside0 (kq ≤ kj20) ∧ Aside0 (wc.heap[gb101]? = some (.cells #[.int .i64 a0_0, .int .i64 a0_1, .string a0_2, .string a0_3] 35 (0, 0))) ∧ Aside0 (wc.heap[gb102]? = some (.cells #[.int .i64 0, .int .i64 0, .string (⟨#[]⟩ : ByteArray), .string (⟨#[]⟩ : ByteArray)] 35 (0, 0))) ∧ Aside0 (wc.heap[gb103]? = some (.cells #[.int .i64 9, .int .i64 0, .string (⟨#[]⟩ : ByteArray), .string a0_3] 35 (0, 0))) ∧ Aside0 (Below w.heap.size w wc))
        case first =>
         have H := HC39.out
         clear HC39
         by_cases c43 : a1 = 13
         ·
          rw [if_pos c43] at H
          have c43b0 : (a1 == 13) = true := beq_iff_eq.mpr c43
          have c43b1 : (a1 != 13) = false := bne_eq_false_iff_eq.mpr c43
          clear c43
          (first | rw [c43b0] | (simp only [i64_w, i32_w]; rw [c43b0]) | skip)
          by_cases c44 : t109 = true
          ·
           subst c44
           rw [if_pos rfl] at H
           have H' := Aside0.mk H
           clear H
           have hnb45 := NB101_102.out
           have hnc45 := NB102_101.out
           have hnb46 := NB101_103.out
           have hnc46 := NB103_101.out
           obtain ⟨hcz47_0, hcz47_1, hcz47_2, hcz47_3⟩ := zcf4 BK101
           obtain ⟨hfz47_0, hfz47_1, hfz47_2, hfz47_3⟩ := zff4 BK101
           go_wp2
           go_meet
           case rel => exact ⟨_, (decide (t108 > (wrap64 (4000 - (a0_3.size : Int))))), (by first | rfl | (simp; done) | (simp [*]; done)), H', ⟨by have := HJ2.out; have := HJ20.out; first | omega | exact Nat.le_refl _⟩, ⟨bk⟩, ⟨bk⟩, ⟨bk⟩, ⟨bh⟩⟩
          ·
           replace c44 := Bool.eq_false_iff.mpr c44
           subst c44
           rw [if_neg (show ¬ (false = true) by decide)] at H
           have H' := Aside0.mk H
           clear H
           go_wp2
           go_meet
           case rel => exact ⟨_, (true), (by first | rfl | (simp; done) | (simp [*]; done)), H', ⟨by have := HJ2.out; have := HJ20.out; first | omega | exact Nat.le_refl _⟩, ⟨bk⟩, ⟨bk⟩, ⟨bk⟩, ⟨bh⟩⟩
         ·
          rw [if_neg c43] at H
          have c43b0 : (a1 == 13) = false := beq_eq_false_iff_ne.mpr c43
          have c43b1 : (a1 != 13) = true := bne_iff_ne.mpr c43
          (first | rw [c43b0] | (simp only [i64_w, i32_w]; rw [c43b0]) | skip)
          have H' := Aside0.mk H
          clear H
          go_wp2
          go_meet
          case rel => exact ⟨_, (true), (by first | rfl | (simp; done) | (simp [*]; done)), H', ⟨by have := HJ2.out; have := HJ20.out; first | omega | exact Nat.le_refl _⟩, ⟨bk⟩, ⟨bk⟩, ⟨bk⟩, ⟨bh⟩⟩
        case rest =>
         clear HC39
         try clear c1
         try clear c2
         try clear p2
         try clear c3
         try clear hcv3
         try clear c4
         try clear c5
         try clear c6
         try clear p6
         try clear c7
         try clear c9
         try clear c10
         try clear c13
         try clear c13b0
         try clear c13b1
         try clear c14
         try clear c15
         try clear c16
         try clear c18
         try clear c20
         try clear c20b0
         try clear c20b1
         try clear c23
         try clear c23b0
         try clear c24
         try clear c25
         try clear c27
         try clear c28
         try clear c28b0
         try clear c28b1
         try clear c28b2
         try clear c29
         try clear c30
         try clear hcv34
         try clear c36
         try clear c40
         try clear c41
         try clear c43
         try clear c43b0
         try clear c43b1
         try clear c44
         try clear c45
         try clear c46
         try clear hcz11_0
         try clear hcz11_1
         try clear hcz11_2
         try clear hcz11_3
         try clear hcz12_0
         try clear hcz12_1
         try clear hcz12_2
         try clear hcz12_3
         try clear hcz17_0
         try clear hcz17_1
         try clear hcz17_2
         try clear hcz17_3
         try clear hcz19_0
         try clear hcz19_1
         try clear hcz19_2
         try clear hcz19_3
         try clear hcz26_0
         try clear hcz26_1
         try clear hcz26_2
         try clear hcz26_3
         try clear hcz31_0
         try clear hcz31_1
         try clear hcz31_2
         try clear hcz31_3
         try clear hcz35_0
         try clear hcz35_1
         try clear hcz35_2
         try clear hcz35_3
         try clear hcz37_0
         try clear hcz37_1
         try clear hcz37_2
         try clear hcz37_3
         try clear hcz42_0
         try clear hcz42_1
         try clear hcz42_2
         try clear hcz42_3
         try clear hcz47_0
         try clear hcz47_1
         try clear hcz47_2
         try clear hcz47_3
         try clear hcz7_0
         try clear hcz7_1
         try clear hcz7_2
         try clear hcz7_3
         try clear hfz11_0
         try clear hfz11_1
         try clear hfz11_2
         try clear hfz11_3
         try clear hfz12_0
         try clear hfz12_1
         try clear hfz12_2
         try clear hfz12_3
         try clear hfz17_0
         try clear hfz17_1
         try clear hfz17_2
         try clear hfz17_3
         try clear hfz19_0
         try clear hfz19_1
         try clear hfz19_2
         try clear hfz19_3
         try clear hfz26_0
         try clear hfz26_1
         try clear hfz26_2
         try clear hfz26_3
         try clear hfz31_0
         try clear hfz31_1
         try clear hfz31_2
         try clear hfz31_3
         try clear hfz35_0
         try clear hfz35_1
         try clear hfz35_2
         try clear hfz35_3
         try clear hfz37_0
         try clear hfz37_1
         try clear hfz37_2
         try clear hfz37_3
         try clear hfz42_0
         try clear hfz42_1
         try clear hfz42_2
         try clear hfz42_3
         try clear hfz47_0
         try clear hfz47_1
         try clear hfz47_2
         try clear hfz47_3
         try clear hfz7_0
         try clear hfz7_1
         try clear hfz7_2
         try clear hfz7_3
         try clear p2
         try clear p6
         obtain ⟨kq, x57_38, rfl, HA, HJ38, BK101, BK102, BK103, HB⟩ := hcut
         cases kq with
         | zero => exact absurd HA.out (by simp [spec_l5Eat.j2])
         | succ kj38 =>
          have H := HA.out
          clear HA
          simp only [spec_l5Eat.j2] at H
          by_cases c48 : x57_38 = true
          ·
           subst c48
           rw [if_pos rfl] at H
           simp only [Option.some.injEq, Prod.mk.injEq] at H
           obtain ⟨rfl, rfl, rfl, rfl⟩ := H
           have hnb49 := NB103_101.out
           have hnc49 := NB101_103.out
           have hnb50 := NB103_102.out
           have hnc50 := NB102_103.out
           obtain ⟨hcz51_0, hcz51_1, hcz51_2, hcz51_3⟩ := zcf4 BK103
           obtain ⟨hfz51_0, hfz51_1, hfz51_2, hfz51_3⟩ := zff4 BK103
           have hnb52 := NB102_101.out
           have hnc52 := NB101_102.out
           obtain ⟨hcz53_0, hcz53_1, hcz53_2, hcz53_3⟩ := zcf4 BK102
           obtain ⟨hfz53_0, hfz53_1, hfz53_2, hfz53_3⟩ := zff4 BK102
           go_wp2
           refine bodyPost_ret (results_cell_row rfl _ _ gb102 35 #[.int .i64 9, .int .i64 0, .string (⟨#[]⟩ : ByteArray), .string a0_3] (0, 0) _ rfl bkp Tryd.underlying35 rfl (by kernel_rfl)) rfl ?_
           exact ⟨er, bh⟩
          ·
           replace c48 := Bool.eq_false_iff.mpr c48
           subst c48
           rw [if_neg (show ¬ (false = true) by decide)] at H
           simp only [Option.some.injEq, Prod.mk.injEq] at H
           obtain ⟨rfl, rfl, rfl, rfl⟩ := H
           have hnb54 := NB101_102.out
           have hnc54 := NB102_101.out
           have hnb55 := NB101_103.out
           have hnc55 := NB103_101.out
           obtain ⟨hcz56_0, hcz56_1, hcz56_2, hcz56_3⟩ := zcf4 BK101
           obtain ⟨hfz56_0, hfz56_1, hfz56_2, hfz56_3⟩ := zff4 BK101
           have hnb57 := NB102_103.out
           have hnc57 := NB103_102.out
           obtain ⟨hcz58_0, hcz58_1, hcz58_2, hcz58_3⟩ := zcf4 BK102
           obtain ⟨hfz58_0, hfz58_1, hfz58_2, hfz58_3⟩ := zff4 BK102
           go_wp2
           refine bodyPost_ret (results_cell_row rfl _ _ gb102 35 #[.int .i64 2, .int .i64 t108, .string (⟨#[]⟩ : ByteArray), .string a0_3] (0, 0) _ rfl bkp Tryd.underlying35 rfl (by kernel_rfl)) rfl ?_
           exact ⟨er, bh⟩
    ·
     rw [if_neg c20] at H
     have c20b0 : (a0_0 == 1) = false := beq_eq_false_iff_ne.mpr c20
     have c20b1 : (a0_0 != 1) = true := bne_iff_ne.mpr c20
     by_cases c59 : a0_0 = 2
     ·
      rw [if_pos c59] at H
      have c59b0 : (a0_0 == 2) = true := beq_iff_eq.mpr c59
      have c59b1 : (a0_0 != 2) = false := bne_eq_false_iff_eq.mpr c59
      clear c59
      by_cases c60 : a1 = 10
      ·
       rw [if_pos c60] at H
       have c60b0 : (a1 == 10) = true := beq_iff_eq.mpr c60
       have c60b1 : (a1 != 10) = false := bne_eq_false_iff_eq.mpr c60
       clear c60
       by_cases c61 : a0_1 = 0
       ·
        rw [if_pos c61] at H
        have c61b0 : (a0_1 == 0) = true := beq_iff_eq.mpr c61
        have c61b1 : (a0_1 != 0) = false := bne_eq_false_iff_eq.mpr c61
        clear c61
        simp only [Option.some.injEq, Prod.mk.injEq] at H
        obtain ⟨rfl, rfl, rfl, rfl⟩ := H
        have hnb62 := NB101_102.out
        have hnc62 := NB102_101.out
        have hnb63 := NB101_103.out
        have hnc63 := NB103_101.out
        obtain ⟨hcz64_0, hcz64_1, hcz64_2, hcz64_3⟩ := zcf4 BK101
        obtain ⟨hfz64_0, hfz64_1, hfz64_2, hfz64_3⟩ := zff4 BK101
        have hnb65 := NB102_103.out
        have hnc65 := NB103_102.out
        obtain ⟨hcz66_0, hcz66_1, hcz66_2, hcz66_3⟩ := zcf4 BK102
        obtain ⟨hfz66_0, hfz66_1, hfz66_2, hfz66_3⟩ := zff4 BK102
        go_wp2
        refine bodyPost_ret (results_cell_row rfl _ _ gb102 35 #[.int .i64 6, .int .i64 a0_1, .string a0_2, .string a0_3] (0, 0) _ rfl bkp Tryd.underlying35 rfl (by kernel_rfl)) rfl ?_
        exact ⟨er, bh⟩
       ·
        rw [if_neg c61] at H
        have c61b0 : (a0_1 == 0) = false := beq_eq_false_iff_ne.mpr c61
        have c61b1 : (a0_1 != 0) = true := bne_iff_ne.mpr c61
        simp only [Option.some.injEq, Prod.mk.injEq] at H
        obtain ⟨rfl, rfl, rfl, rfl⟩ := H
        have hnb67 := NB101_102.out
        have hnc67 := NB102_101.out
        have hnb68 := NB101_103.out
        have hnc68 := NB103_101.out
        obtain ⟨hcz69_0, hcz69_1, hcz69_2, hcz69_3⟩ := zcf4 BK101
        obtain ⟨hfz69_0, hfz69_1, hfz69_2, hfz69_3⟩ := zff4 BK101
        have hnb70 := NB102_103.out
        have hnc70 := NB103_102.out
        obtain ⟨hcz71_0, hcz71_1, hcz71_2, hcz71_3⟩ := zcf4 BK102
        obtain ⟨hfz71_0, hfz71_1, hfz71_2, hfz71_3⟩ := zff4 BK102
        go_wp2
        refine bodyPost_ret (results_cell_row rfl _ _ gb102 35 #[.int .i64 3, .int .i64 a0_1, .string a0_2, .string a0_3] (0, 0) _ rfl bkp Tryd.underlying35 rfl (by kernel_rfl)) rfl ?_
        exact ⟨er, bh⟩
      ·
       rw [if_neg c60] at H
       have c60b0 : (a1 == 10) = false := beq_eq_false_iff_ne.mpr c60
       have c60b1 : (a1 != 10) = true := bne_iff_ne.mpr c60
       simp only [Option.some.injEq, Prod.mk.injEq] at H
       obtain ⟨rfl, rfl, rfl, rfl⟩ := H
       have hnb72 := NB103_101.out
       have hnc72 := NB101_103.out
       have hnb73 := NB103_102.out
       have hnc73 := NB102_103.out
       obtain ⟨hcz74_0, hcz74_1, hcz74_2, hcz74_3⟩ := zcf4 BK103
       obtain ⟨hfz74_0, hfz74_1, hfz74_2, hfz74_3⟩ := zff4 BK103
       have hnb75 := NB102_101.out
       have hnc75 := NB101_102.out
       obtain ⟨hcz76_0, hcz76_1, hcz76_2, hcz76_3⟩ := zcf4 BK102
       obtain ⟨hfz76_0, hfz76_1, hfz76_2, hfz76_3⟩ := zff4 BK102
       go_wp2
       refine bodyPost_ret (results_cell_row rfl _ _ gb102 35 #[.int .i64 9, .int .i64 0, .string (⟨#[]⟩ : ByteArray), .string a0_3] (0, 0) _ rfl bkp Tryd.underlying35 rfl (by kernel_rfl)) rfl ?_
       exact ⟨er, bh⟩
     ·
      rw [if_neg c59] at H
      have c59b0 : (a0_0 == 2) = false := beq_eq_false_iff_ne.mpr c59
      have c59b1 : (a0_0 != 2) = true := bne_iff_ne.mpr c59
      by_cases c77 : a0_0 = 3
      ·
       rw [if_pos c77] at H
       have c77b0 : (a0_0 == 3) = true := beq_iff_eq.mpr c77
       have c77b1 : (a0_0 != 3) = false := bne_eq_false_iff_eq.mpr c77
       clear c77
       obtain ⟨y110, hy110⟩ : ∃ y_ : List Int, y_ = (([a1] : List Int)) := ⟨_, rfl⟩
       replace H : (if a0_3.size + (strOfNums y110).size ≤ 9223372036854775807 then (if (wrap64 (a0_1 - 1)) = 0 then (some (4, wrap64 (a0_1 - 1), a0_2, a0_3 ++ (strOfNums y110))) else (some (a0_0, wrap64 (a0_1 - 1), a0_2, a0_3 ++ (strOfNums y110)))) else (none)) = some (r1, r2, r3, r4) := by first | (rw [hy110]; with_reducible exact H) | (have H2_ := (Option.bind_some _ _).symm.trans H; rw [hy110]; with_reducible exact H2_) | (have H2_ := (Option.bind_some _ _).symm.trans H; with_reducible exact H2_) | with_reducible exact H | (rw [hy110]; exact H) | exact H
       have Ny110 := Aside0.mk hy110
       clear hy110
       by_cases c78 : a0_3.size + (strOfNums y110).size ≤ 9223372036854775807
       ·
        rw [if_pos c78] at H
        have c78b0 := eq_true c78
        have c78b1 : decide (a0_3.size + (strOfNums y110).size ≤ 9223372036854775807) = true := decide_eq_true c78
        try have c78b2 : (9223372036854775807 < a0_3.size + (strOfNums y110).size) = False := eq_false (Nat.not_lt.2 c78)
        by_cases c79 : (wrap64 (a0_1 - 1)) = 0
        ·
         rw [if_pos c79] at H
         have c79b0 : ((wrap64 (a0_1 - 1)) == 0) = true := beq_iff_eq.mpr c79
         have c79b1 : ((wrap64 (a0_1 - 1)) != 0) = false := bne_eq_false_iff_eq.mpr c79
         clear c79
         simp only [Option.some.injEq, Prod.mk.injEq] at H
         obtain ⟨rfl, rfl, rfl, rfl⟩ := H
         have hnb80 := NB101_102.out
         have hnc80 := NB102_101.out
         have hnb81 := NB101_103.out
         have hnc81 := NB103_101.out
         obtain ⟨hcz82_0, hcz82_1, hcz82_2, hcz82_3⟩ := zcf4 BK101
         obtain ⟨hfz82_0, hfz82_1, hfz82_2, hfz82_3⟩ := zff4 BK101
         go_wp2_with (first | ((with_reducible refine gate_dst (N := 79) rfl ?_); (try (refine gate_guard (by rfl) ?_; dsimp only)); refine Kd.R_lit (Kd.int .u8) _ 5 ?hg (N := 79) ?hd (xs := ([a1] : List Int)) (inner := [.int .u8 a1]) (ok := fun _ => True) (okp := fun _ => True) ?hr ?hp (fun _ hk => hk) trivial (Below.refl _ _) (Nat.le_refl _) (by simp) ?_; (case hd => rfl); (case hg => rfl); (case hr => first | (go_simp; done) | (go_simp; rfl)); (case hp => exact (Reps.one (show Kd.M (Kd.int .u8) _ _ _ a1 [.int .u8 a1] from rfl) (Reps.none _ _))); intro v111 w83 ho84 hb hg_ hnew_; clear hg_ hnew_; (first | rw [← Ny110.out] at ho84 | (simp only [Int.reduceToNat] at ho84; rw [← Ny110.out] at ho84)); have HO112 := Aside0.mk (Kd.R_lower ho84 (below_size bh)); replace BK101 := bkb_ BK101 hb; replace BK102 := bkb_ BK102 hb; replace BK103 := bkb_ BK103 hb; replace HB := Aside0.mk (below_step bh hb); clear hb ho84; have hcv85 := own_string (P := Tryd.prog) Tryd.underlying22 Tryd.underlying5 Tryd.underlying9 (Kd.own_of_R HO112.out); obtain ⟨hcz86_0, hcz86_1, hcz86_2, hcz86_3⟩ := zcf4 BK101; obtain ⟨hfz86_0, hfz86_1, hfz86_2, hfz86_3⟩ := zff4 BK101; have hnb87 := NB102_103.out; have hnc87 := NB103_102.out; obtain ⟨hcz88_0, hcz88_1, hcz88_2, hcz88_3⟩ := zcf4 BK102; obtain ⟨hfz88_0, hfz88_1, hfz88_2, hfz88_3⟩ := zff4 BK102))
         refine bodyPost_ret (results_cell_row rfl _ _ gb102 35 #[.int .i64 4, .int .i64 (wrap64 (a0_1 - 1)), .string a0_2, .string (a0_3 ++ (strOfNums y110))] (0, 0) _ rfl bkp Tryd.underlying35 rfl (by kernel_rfl)) rfl ?_
         exact ⟨er, bh⟩
        ·
         rw [if_neg c79] at H
         have c79b0 : ((wrap64 (a0_1 - 1)) == 0) = false := beq_eq_false_iff_ne.mpr c79
         have c79b1 : ((wrap64 (a0_1 - 1)) != 0) = true := bne_iff_ne.mpr c79
         simp only [Option.some.injEq, Prod.mk.injEq] at H
         obtain ⟨rfl, rfl, rfl, rfl⟩ := H
         have hnb89 := NB101_102.out
         have hnc89 := NB102_101.out
         have hnb90 := NB101_103.out
         have hnc90 := NB103_101.out
         obtain ⟨hcz91_0, hcz91_1, hcz91_2, hcz91_3⟩ := zcf4 BK101
         obtain ⟨hfz91_0, hfz91_1, hfz91_2, hfz91_3⟩ := zff4 BK101
         go_wp2_with (first | ((with_reducible refine gate_dst (N := 79) rfl ?_); (try (refine gate_guard (by rfl) ?_; dsimp only)); refine Kd.R_lit (Kd.int .u8) _ 5 ?hg (N := 79) ?hd (xs := ([a1] : List Int)) (inner := [.int .u8 a1]) (ok := fun _ => True) (okp := fun _ => True) ?hr ?hp (fun _ hk => hk) trivial (Below.refl _ _) (Nat.le_refl _) (by simp) ?_; (case hd => rfl); (case hg => rfl); (case hr => first | (go_simp; done) | (go_simp; rfl)); (case hp => exact (Reps.one (show Kd.M (Kd.int .u8) _ _ _ a1 [.int .u8 a1] from rfl) (Reps.none _ _))); intro v111 w92 ho93 hb hg_ hnew_; clear hg_ hnew_; (first | rw [← Ny110.out] at ho93 | (simp only [Int.reduceToNat] at ho93; rw [← Ny110.out] at ho93)); have HO112 := Aside0.mk (Kd.R_lower ho93 (below_size bh)); replace BK101 := bkb_ BK101 hb; replace BK102 := bkb_ BK102 hb; replace BK103 := bkb_ BK103 hb; replace HB := Aside0.mk (below_step bh hb); clear hb ho93; have hcv94 := own_string (P := Tryd.prog) Tryd.underlying22 Tryd.underlying5 Tryd.underlying9 (Kd.own_of_R HO112.out); obtain ⟨hcz95_0, hcz95_1, hcz95_2, hcz95_3⟩ := zcf4 BK101; obtain ⟨hfz95_0, hfz95_1, hfz95_2, hfz95_3⟩ := zff4 BK101; have hnb96 := NB102_103.out; have hnc96 := NB103_102.out; obtain ⟨hcz97_0, hcz97_1, hcz97_2, hcz97_3⟩ := zcf4 BK102; obtain ⟨hfz97_0, hfz97_1, hfz97_2, hfz97_3⟩ := zff4 BK102))
         refine bodyPost_ret (results_cell_row rfl _ _ gb102 35 #[.int .i64 a0_0, .int .i64 (wrap64 (a0_1 - 1)), .string a0_2, .string (a0_3 ++ (strOfNums y110))] (0, 0) _ rfl bkp Tryd.underlying35 rfl (by kernel_rfl)) rfl ?_
         exact ⟨er, bh⟩
       ·
        rw [if_neg c78] at H
        exact absurd H (by simp)
      ·
       rw [if_neg c77] at H
       have c77b0 : (a0_0 == 3) = false := beq_eq_false_iff_ne.mpr c77
       have c77b1 : (a0_0 != 3) = true := bne_iff_ne.mpr c77
       by_cases c98 : a0_0 = 4
       ·
        rw [if_pos c98] at H
        have c98b0 : (a0_0 == 4) = true := beq_iff_eq.mpr c98
        have c98b1 : (a0_0 != 4) = false := bne_eq_false_iff_eq.mpr c98
        clear c98
        by_cases c99 : a1 = 13
        ·
         rw [if_pos c99] at H
         have c99b0 : (a1 == 13) = true := beq_iff_eq.mpr c99
         have c99b1 : (a1 != 13) = false := bne_eq_false_iff_eq.mpr c99
         clear c99
         simp only [Option.some.injEq, Prod.mk.injEq] at H
         obtain ⟨rfl, rfl, rfl, rfl⟩ := H
         have hnb100 := NB101_102.out
         have hnc100 := NB102_101.out
         have hnb101 := NB101_103.out
         have hnc101 := NB103_101.out
         obtain ⟨hcz102_0, hcz102_1, hcz102_2, hcz102_3⟩ := zcf4 BK101
         obtain ⟨hfz102_0, hfz102_1, hfz102_2, hfz102_3⟩ := zff4 BK101
         have hnb103 := NB102_103.out
         have hnc103 := NB103_102.out
         obtain ⟨hcz104_0, hcz104_1, hcz104_2, hcz104_3⟩ := zcf4 BK102
         obtain ⟨hfz104_0, hfz104_1, hfz104_2, hfz104_3⟩ := zff4 BK102
         go_wp2
         refine bodyPost_ret (results_cell_row rfl _ _ gb102 35 #[.int .i64 5, .int .i64 a0_1, .string a0_2, .string a0_3] (0, 0) _ rfl bkp Tryd.underlying35 rfl (by kernel_rfl)) rfl ?_
         exact ⟨er, bh⟩
        ·
         rw [if_neg c99] at H
         have c99b0 : (a1 == 13) = false := beq_eq_false_iff_ne.mpr c99
         have c99b1 : (a1 != 13) = true := bne_iff_ne.mpr c99
         simp only [Option.some.injEq, Prod.mk.injEq] at H
         obtain ⟨rfl, rfl, rfl, rfl⟩ := H
         have hnb105 := NB103_101.out
         have hnc105 := NB101_103.out
         have hnb106 := NB103_102.out
         have hnc106 := NB102_103.out
         obtain ⟨hcz107_0, hcz107_1, hcz107_2, hcz107_3⟩ := zcf4 BK103
         obtain ⟨hfz107_0, hfz107_1, hfz107_2, hfz107_3⟩ := zff4 BK103
         have hnb108 := NB102_101.out
         have hnc108 := NB101_102.out
         obtain ⟨hcz109_0, hcz109_1, hcz109_2, hcz109_3⟩ := zcf4 BK102
         obtain ⟨hfz109_0, hfz109_1, hfz109_2, hfz109_3⟩ := zff4 BK102
         go_wp2
         refine bodyPost_ret (results_cell_row rfl _ _ gb102 35 #[.int .i64 9, .int .i64 0, .string (⟨#[]⟩ : ByteArray), .string a0_3] (0, 0) _ rfl bkp Tryd.underlying35 rfl (by kernel_rfl)) rfl ?_
         exact ⟨er, bh⟩
       ·
        rw [if_neg c98] at H
        have c98b0 : (a0_0 == 4) = false := beq_eq_false_iff_ne.mpr c98
        have c98b1 : (a0_0 != 4) = true := bne_iff_ne.mpr c98
        by_cases c110 : a0_0 = 5
        ·
         rw [if_pos c110] at H
         have c110b0 : (a0_0 == 5) = true := beq_iff_eq.mpr c110
         have c110b1 : (a0_0 != 5) = false := bne_eq_false_iff_eq.mpr c110
         clear c110
         by_cases c111 : a1 = 10
         ·
          rw [if_pos c111] at H
          have c111b0 : (a1 == 10) = true := beq_iff_eq.mpr c111
          have c111b1 : (a1 != 10) = false := bne_eq_false_iff_eq.mpr c111
          clear c111
          simp only [Option.some.injEq, Prod.mk.injEq] at H
          obtain ⟨rfl, rfl, rfl, rfl⟩ := H
          have hnb112 := NB101_102.out
          have hnc112 := NB102_101.out
          have hnb113 := NB101_103.out
          have hnc113 := NB103_101.out
          obtain ⟨hcz114_0, hcz114_1, hcz114_2, hcz114_3⟩ := zcf4 BK101
          obtain ⟨hfz114_0, hfz114_1, hfz114_2, hfz114_3⟩ := zff4 BK101
          have hnb115 := NB102_103.out
          have hnc115 := NB103_102.out
          obtain ⟨hcz116_0, hcz116_1, hcz116_2, hcz116_3⟩ := zcf4 BK102
          obtain ⟨hfz116_0, hfz116_1, hfz116_2, hfz116_3⟩ := zff4 BK102
          go_wp2
          refine bodyPost_ret (results_cell_row rfl _ _ gb102 35 #[.int .i64 1, .int .i64 a0_1, .string a0_2, .string a0_3] (0, 0) _ rfl bkp Tryd.underlying35 rfl (by kernel_rfl)) rfl ?_
          exact ⟨er, bh⟩
         ·
          rw [if_neg c111] at H
          have c111b0 : (a1 == 10) = false := beq_eq_false_iff_ne.mpr c111
          have c111b1 : (a1 != 10) = true := bne_iff_ne.mpr c111
          simp only [Option.some.injEq, Prod.mk.injEq] at H
          obtain ⟨rfl, rfl, rfl, rfl⟩ := H
          have hnb117 := NB103_101.out
          have hnc117 := NB101_103.out
          have hnb118 := NB103_102.out
          have hnc118 := NB102_103.out
          obtain ⟨hcz119_0, hcz119_1, hcz119_2, hcz119_3⟩ := zcf4 BK103
          obtain ⟨hfz119_0, hfz119_1, hfz119_2, hfz119_3⟩ := zff4 BK103
          have hnb120 := NB102_101.out
          have hnc120 := NB101_102.out
          obtain ⟨hcz121_0, hcz121_1, hcz121_2, hcz121_3⟩ := zcf4 BK102
          obtain ⟨hfz121_0, hfz121_1, hfz121_2, hfz121_3⟩ := zff4 BK102
          go_wp2
          refine bodyPost_ret (results_cell_row rfl _ _ gb102 35 #[.int .i64 9, .int .i64 0, .string (⟨#[]⟩ : ByteArray), .string a0_3] (0, 0) _ rfl bkp Tryd.underlying35 rfl (by kernel_rfl)) rfl ?_
          exact ⟨er, bh⟩
        ·
         rw [if_neg c110] at H
         have c110b0 : (a0_0 == 5) = false := beq_eq_false_iff_ne.mpr c110
         have c110b1 : (a0_0 != 5) = true := bne_iff_ne.mpr c110
         by_cases c122 : a0_0 = 6
         ·
          rw [if_pos c122] at H
          have c122b0 : (a0_0 == 6) = true := beq_iff_eq.mpr c122
          have c122b1 : (a0_0 != 6) = false := bne_eq_false_iff_eq.mpr c122
          clear c122
          by_cases c123 : a1 = 13
          ·
           rw [if_pos c123] at H
           have c123b0 : (a1 == 13) = true := beq_iff_eq.mpr c123
           have c123b1 : (a1 != 13) = false := bne_eq_false_iff_eq.mpr c123
           clear c123
           simp only [Option.some.injEq, Prod.mk.injEq] at H
           obtain ⟨rfl, rfl, rfl, rfl⟩ := H
           have hnb124 := NB101_102.out
           have hnc124 := NB102_101.out
           have hnb125 := NB101_103.out
           have hnc125 := NB103_101.out
           obtain ⟨hcz126_0, hcz126_1, hcz126_2, hcz126_3⟩ := zcf4 BK101
           obtain ⟨hfz126_0, hfz126_1, hfz126_2, hfz126_3⟩ := zff4 BK101
           have hnb127 := NB102_103.out
           have hnc127 := NB103_102.out
           obtain ⟨hcz128_0, hcz128_1, hcz128_2, hcz128_3⟩ := zcf4 BK102
           obtain ⟨hfz128_0, hfz128_1, hfz128_2, hfz128_3⟩ := zff4 BK102
           go_wp2
           refine bodyPost_ret (results_cell_row rfl _ _ gb102 35 #[.int .i64 7, .int .i64 a0_1, .string a0_2, .string a0_3] (0, 0) _ rfl bkp Tryd.underlying35 rfl (by kernel_rfl)) rfl ?_
           exact ⟨er, bh⟩
          ·
           rw [if_neg c123] at H
           have c123b0 : (a1 == 13) = false := beq_eq_false_iff_ne.mpr c123
           have c123b1 : (a1 != 13) = true := bne_iff_ne.mpr c123
           simp only [Option.some.injEq, Prod.mk.injEq] at H
           obtain ⟨rfl, rfl, rfl, rfl⟩ := H
           have hnb129 := NB103_101.out
           have hnc129 := NB101_103.out
           have hnb130 := NB103_102.out
           have hnc130 := NB102_103.out
           obtain ⟨hcz131_0, hcz131_1, hcz131_2, hcz131_3⟩ := zcf4 BK103
           obtain ⟨hfz131_0, hfz131_1, hfz131_2, hfz131_3⟩ := zff4 BK103
           have hnb132 := NB102_101.out
           have hnc132 := NB101_102.out
           obtain ⟨hcz133_0, hcz133_1, hcz133_2, hcz133_3⟩ := zcf4 BK102
           obtain ⟨hfz133_0, hfz133_1, hfz133_2, hfz133_3⟩ := zff4 BK102
           go_wp2
           refine bodyPost_ret (results_cell_row rfl _ _ gb102 35 #[.int .i64 9, .int .i64 0, .string (⟨#[]⟩ : ByteArray), .string a0_3] (0, 0) _ rfl bkp Tryd.underlying35 rfl (by kernel_rfl)) rfl ?_
           exact ⟨er, bh⟩
         ·
          rw [if_neg c122] at H
          have c122b0 : (a0_0 == 6) = false := beq_eq_false_iff_ne.mpr c122
          have c122b1 : (a0_0 != 6) = true := bne_iff_ne.mpr c122
          by_cases c134 : a0_0 = 7
          ·
           rw [if_pos c134] at H
           have c134b0 : (a0_0 == 7) = true := beq_iff_eq.mpr c134
           have c134b1 : (a0_0 != 7) = false := bne_eq_false_iff_eq.mpr c134
           clear c134
           by_cases c135 : a1 = 10
           ·
            rw [if_pos c135] at H
            have c135b0 : (a1 == 10) = true := beq_iff_eq.mpr c135
            have c135b1 : (a1 != 10) = false := bne_eq_false_iff_eq.mpr c135
            clear c135
            simp only [Option.some.injEq, Prod.mk.injEq] at H
            obtain ⟨rfl, rfl, rfl, rfl⟩ := H
            have hnb136 := NB101_102.out
            have hnc136 := NB102_101.out
            have hnb137 := NB101_103.out
            have hnc137 := NB103_101.out
            obtain ⟨hcz138_0, hcz138_1, hcz138_2, hcz138_3⟩ := zcf4 BK101
            obtain ⟨hfz138_0, hfz138_1, hfz138_2, hfz138_3⟩ := zff4 BK101
            have hnb139 := NB102_103.out
            have hnc139 := NB103_102.out
            obtain ⟨hcz140_0, hcz140_1, hcz140_2, hcz140_3⟩ := zcf4 BK102
            obtain ⟨hfz140_0, hfz140_1, hfz140_2, hfz140_3⟩ := zff4 BK102
            go_wp2
            refine bodyPost_ret (results_cell_row rfl _ _ gb102 35 #[.int .i64 8, .int .i64 a0_1, .string a0_2, .string a0_3] (0, 0) _ rfl bkp Tryd.underlying35 rfl (by kernel_rfl)) rfl ?_
            exact ⟨er, bh⟩
           ·
            rw [if_neg c135] at H
            have c135b0 : (a1 == 10) = false := beq_eq_false_iff_ne.mpr c135
            have c135b1 : (a1 != 10) = true := bne_iff_ne.mpr c135
            simp only [Option.some.injEq, Prod.mk.injEq] at H
            obtain ⟨rfl, rfl, rfl, rfl⟩ := H
            have hnb141 := NB103_101.out
            have hnc141 := NB101_103.out
            have hnb142 := NB103_102.out
            have hnc142 := NB102_103.out
            obtain ⟨hcz143_0, hcz143_1, hcz143_2, hcz143_3⟩ := zcf4 BK103
            obtain ⟨hfz143_0, hfz143_1, hfz143_2, hfz143_3⟩ := zff4 BK103
            have hnb144 := NB102_101.out
            have hnc144 := NB101_102.out
            obtain ⟨hcz145_0, hcz145_1, hcz145_2, hcz145_3⟩ := zcf4 BK102
            obtain ⟨hfz145_0, hfz145_1, hfz145_2, hfz145_3⟩ := zff4 BK102
            go_wp2
            refine bodyPost_ret (results_cell_row rfl _ _ gb102 35 #[.int .i64 9, .int .i64 0, .string (⟨#[]⟩ : ByteArray), .string a0_3] (0, 0) _ rfl bkp Tryd.underlying35 rfl (by kernel_rfl)) rfl ?_
            exact ⟨er, bh⟩
          ·
           rw [if_neg c134] at H
           have c134b0 : (a0_0 == 7) = false := beq_eq_false_iff_ne.mpr c134
           have c134b1 : (a0_0 != 7) = true := bne_iff_ne.mpr c134
           by_cases c146 : a1 = 13
           ·
            rw [if_pos c146] at H
            have c146b0 : (a1 == 13) = true := beq_iff_eq.mpr c146
            have c146b1 : (a1 != 13) = false := bne_eq_false_iff_eq.mpr c146
            clear c146
            simp only [Option.some.injEq, Prod.mk.injEq] at H
            obtain ⟨rfl, rfl, rfl, rfl⟩ := H
            have hnb147 := NB101_102.out
            have hnc147 := NB102_101.out
            have hnb148 := NB101_103.out
            have hnc148 := NB103_101.out
            obtain ⟨hcz149_0, hcz149_1, hcz149_2, hcz149_3⟩ := zcf4 BK101
            obtain ⟨hfz149_0, hfz149_1, hfz149_2, hfz149_3⟩ := zff4 BK101
            have hnb150 := NB102_103.out
            have hnc150 := NB103_102.out
            obtain ⟨hcz151_0, hcz151_1, hcz151_2, hcz151_3⟩ := zcf4 BK102
            obtain ⟨hfz151_0, hfz151_1, hfz151_2, hfz151_3⟩ := zff4 BK102
            go_wp2
            refine bodyPost_ret (results_cell_row rfl _ _ gb102 35 #[.int .i64 0, .int .i64 a0_1, .string a0_2, .string a0_3] (0, 0) _ rfl bkp Tryd.underlying35 rfl (by kernel_rfl)) rfl ?_
            exact ⟨er, bh⟩
           ·
            rw [if_neg c146] at H
            have c146b0 : (a1 == 13) = false := beq_eq_false_iff_ne.mpr c146
            have c146b1 : (a1 != 13) = true := bne_iff_ne.mpr c146
            simp only [Option.some.injEq, Prod.mk.injEq] at H
            obtain ⟨rfl, rfl, rfl, rfl⟩ := H
            have hnb152 := NB103_101.out
            have hnc152 := NB101_103.out
            have hnb153 := NB103_102.out
            have hnc153 := NB102_103.out
            obtain ⟨hcz154_0, hcz154_1, hcz154_2, hcz154_3⟩ := zcf4 BK103
            obtain ⟨hfz154_0, hfz154_1, hfz154_2, hfz154_3⟩ := zff4 BK103
            have hnb155 := NB102_101.out
            have hnc155 := NB101_102.out
            obtain ⟨hcz156_0, hcz156_1, hcz156_2, hcz156_3⟩ := zcf4 BK102
            obtain ⟨hfz156_0, hfz156_1, hfz156_2, hfz156_3⟩ := zff4 BK102
            go_wp2
            refine bodyPost_ret (results_cell_row rfl _ _ gb102 35 #[.int .i64 9, .int .i64 0, .string (⟨#[]⟩ : ByteArray), .string a0_3] (0, 0) _ rfl bkp Tryd.underlying35 rfl (by kernel_rfl)) rfl ?_
            exact ⟨er, bh⟩

end Go.Proofs.YtfbgpjhnjdhpcaaDoor.P
