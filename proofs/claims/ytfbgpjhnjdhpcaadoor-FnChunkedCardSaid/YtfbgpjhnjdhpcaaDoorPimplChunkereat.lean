/- Functions of the Go program as Lean functions, and proofs that each Go function comes to its Lean function's answers; conditions: those that each theorem states. Written by this session's program hprint.py, which drives the kit's printer. -/
import Derived.Test.YtfbgpjhnjdhpcaaDoorP0
import Derived.Test.YtfbgpjhnjdhpcaaDoorPimplChunkerbad
import Derived.Test.YtfbgpjhnjdhpcaaDoorPimplChunkersize
import Derived.Test.YtfbgpjhnjdhpcaaDoorXA
namespace Go.Proofs.YtfbgpjhnjdhpcaaDoor.P
open Go.RowKit Go.Proofs.YtfbgpjhnjdhpcaaDoorW.PrintWords Go.Proofs.YtfbgpjhnjdhpcaaDoorW.PrintLast Go.Proofs.YtfbgpjhnjdhpcaaDoorW.PrintMore
attribute [local go_sem] max2_int min2_int max_two min_two max_three min_three max_four min_four   -- for this text's walks alone
set_option linter.unusedVariables false
set_option linter.unusedSimpArgs false

/-! ### impl_Chunker_eat: function 58 -/
def impl_Chunker_eat.j0 : Nat → Int → Int → Int → Int → Bool → Int → Int → ByteArray → ByteArray → Option (Int × Int × ByteArray × ByteArray)
  | 0, _, _, _, _, _, _, _, _, _ => none
  | k + 1, x1, x5, x6, x8, x9, x102000, x102001, x102002, x102003 => if x9 = true then (some (x102000, x102001, x102002, x102003)) else (if x8 = 1 then ((impl_Chunker_size.f k x102000 x102001 x102002 x102003 x1).bind fun bt103 => (some (bt103.1, bt103.2.1, bt103.2.2.1, bt103.2.2.2))) else (if x8 = 3 then ((some (([x1] : List Int) : List Int)).bind fun y107 => (if x102003.size + (strOfNums y107).size ≤ 9223372036854775807 then (if (wrap64 (x102001 - 1)) = 0 then (some (4, wrap64 (x102001 - 1), x102002, x102003 ++ (strOfNums y107))) else (some (x102000, wrap64 (x102001 - 1), x102002, x102003 ++ (strOfNums y107)))) else (none))) else (if x8 = 2 then (if x102001 = 0 then (if x1 = x5 then (some (6, x102001, x102002, x102003)) else ((impl_Chunker_bad.f x102000 x102001 x102002 x102003).bind fun bt110 => (some (bt110.1, bt110.2.1, bt110.2.2.1, bt110.2.2.2)))) else (if x1 = x5 then (some (3, x102001, x102002, x102003)) else ((impl_Chunker_bad.f x102000 x102001 x102002 x102003).bind fun bt114 => (some (bt114.1, bt114.2.1, bt114.2.2.1, bt114.2.2.2))))) else (if x8 = 4 then (if x1 = 13 then (some (5, x102001, x102002, x102003)) else ((impl_Chunker_bad.f x102000 x102001 x102002 x102003).bind fun bt118 => (some (bt118.1, bt118.2.1, bt118.2.2.1, bt118.2.2.2)))) else (if x8 = 6 then (if x1 = 13 then (some (7, x102001, x102002, x102003)) else ((impl_Chunker_bad.f x102000 x102001 x102002 x102003).bind fun bt122 => (some (bt122.1, bt122.2.1, bt122.2.2.1, bt122.2.2.2)))) else (if x8 = 7 then (if x1 = x5 then (some (8, x102001, x102002, x102003)) else ((impl_Chunker_bad.f x102000 x102001 x102002 x102003).bind fun bt126 => (some (bt126.1, bt126.2.1, bt126.2.2.1, bt126.2.2.2)))) else (if x1 = x5 then (some (x6, x102001, x102002, x102003)) else ((impl_Chunker_bad.f x102000 x102001 x102002 x102003).bind fun bt130 => (some (bt130.1, bt130.2.1, bt130.2.2.1, bt130.2.2.2))))))))))
def impl_Chunker_eat.f (k : Nat) (a0_0 : Int) (a0_1 : Int) (a0_2 : ByteArray) (a0_3 : ByteArray) (a1 : Int) : Option (Int × Int × ByteArray × ByteArray) := if a0_0 = 8 then (impl_Chunker_eat.j0 k a1 10 1 a0_0 (a0_0 == 8) a0_0 a0_1 a0_2 a0_3) else (impl_Chunker_eat.j0 k a1 10 1 a0_0 (a0_0 == 9) a0_0 a0_1 a0_2 a0_3)
theorem impl_Chunker_eat.mono_l : ∀ k, (∀ y0 y1 y2 y3 y4 y5 y6 y7 y8, LeO (impl_Chunker_eat.j0 k y0 y1 y2 y3 y4 y5 y6 y7 y8) (impl_Chunker_eat.j0 (k + 1) y0 y1 y2 y3 y4 y5 y6 y7 y8))
  | 0 => fun _ _ _ _ _ _ _ _ _ r h => by simp [impl_Chunker_eat.j0] at h
  | k + 1 => by
    have ih0 := impl_Chunker_eat.mono_l k
    · intro y0 y1 y2 y3 y4 y5 y6 y7 y8
      unfold impl_Chunker_eat.j0
      repeat' first
      | (with_reducible exact ih0 _ _ _ _ _ _ _ _ _)
      | (with_reducible exact impl_Chunker_size.mono _ _ _ _ _ _)
      | (with_reducible exact LeO.refl _)
      | (with_reducible exact LeO.none _)
      | (with_reducible refine LeO.ite ?_ ?_)
      | (with_reducible refine LeO.bind ?_ (fun _ => ?_))
      | exact ih0 _ _ _ _ _ _ _ _ _
      | exact impl_Chunker_size.mono _ _ _ _ _ _
      | exact LeO.none _
      | refine LeO.ite ?_ ?_
      | refine LeO.bind ?_ (fun _ => ?_)
theorem impl_Chunker_eat.mono : ∀ a0 a1 a2 a3 a4 k, LeO (impl_Chunker_eat.f k a0 a1 a2 a3 a4) (impl_Chunker_eat.f (k + 1) a0 a1 a2 a3 a4) := by
  intro a0 a1 a2 a3 a4 k
  have ih0 := impl_Chunker_eat.mono_l k
  unfold impl_Chunker_eat.f
  repeat' first
      | (with_reducible exact ih0 _ _ _ _ _ _ _ _ _)
      | (with_reducible exact impl_Chunker_size.mono _ _ _ _ _ _)
      | (with_reducible exact LeO.refl _)
      | (with_reducible exact LeO.none _)
      | (with_reducible refine LeO.ite ?_ ?_)
      | (with_reducible refine LeO.bind ?_ (fun _ => ?_))
      | exact ih0 _ _ _ _ _ _ _ _ _
      | exact impl_Chunker_size.mono _ _ _ _ _ _
      | exact LeO.none _
      | refine LeO.ite ?_ ?_
      | refine LeO.bind ?_ (fun _ => ?_)
set_option maxHeartbeats 8000000 in
set_option maxRecDepth 100000 in
theorem impl_Chunker_eat.calls (k : Nat) (a0_0 : Int) (a0_1 : Int) (a0_2 : ByteArray) (a0_3 : ByteArray) (a1 : Int) (r1 : Int) (r2 : Int) (r3 : ByteArray) (r4 : ByteArray) (w : World) (h : impl_Chunker_eat.f k a0_0 a0_1 a0_2 a0_3 a1 = some (r1, r2, r3, r4)) :
    Calls Tryd.prog 58 #[.agg #[.int .i64 a0_0, .int .i64 a0_1, .string a0_2, .string a0_3], .int .u8 a1] w fun e w' => e = .returned (.agg #[.int .i64 r1, .int .i64 r2, .string r3, .string r4]) ∧ Below w.heap.size w w' := by
  have hu35 := Tryd.underlying35
  have HB := Aside0.mk (Below.refl w.heap.size w)
  have H : (if a0_0 = 8 then (impl_Chunker_eat.j0 k a1 10 1 a0_0 (a0_0 == 8) a0_0 a0_1 a0_2 a0_3) else (impl_Chunker_eat.j0 k a1 10 1 a0_0 (a0_0 == 9) a0_0 a0_1 a0_2 a0_3)) = some (r1, r2, r3, r4) := h
  clear h
  have HC3 := Aside0.mk H
  clear H
  go_enter Tryd.func58, Tryd.ntmps58
  go_upto_if 9 with (first | ((with_reducible refine gate_dst (N := 2) rfl ?_); refine bx 2 #[.int .i64 a0_0, .int .i64 a0_1, .string a0_2, .string a0_3] 35 ?_; intro gb101 hg w4 hbox hb; have BK101 := Aside0.mk (hbox); have GW101 := Aside0.mk (bz hg); have GE101 := Aside0.mk (bz hg); replace HB := Aside0.mk (below_step bh hb); clear hb hbox hg) | ((with_reducible refine gate_dst (N := 4) rfl ?_); refine bx 4 #[.int .i64 0, .int .i64 0, .string (⟨#[]⟩ : ByteArray), .string (⟨#[]⟩ : ByteArray)] 35 ?_; intro gb102 hg w5 hbox hb; have BK102 := Aside0.mk (hbox); have GW102 := Aside0.mk (bz hg); have GE102 := Aside0.mk (bz hg); have NB101_102 := Aside0.mk ((nl (o := .cells #[.int .i64 a0_0, .int .i64 a0_1, .string a0_2, .string a0_3] 35 (0, 0)) hg bk : gb101 ≠ gb102)); have NB102_101 := Aside0.mk ((ng (o := .cells #[.int .i64 a0_0, .int .i64 a0_1, .string a0_2, .string a0_3] 35 (0, 0)) hg bk : gb102 ≠ gb101)); replace BK101 := Aside0.mk (blk_below (g := gb101) (o := .cells #[.int .i64 a0_0, .int .i64 a0_1, .string a0_2, .string a0_3] 35 (0, 0)) bk hb); replace HB := Aside0.mk (below_step bh hb); clear hb hbox hg; have hnb6 := NB101_102.out; have hnc6 := NB102_101.out; have hcz7_0 : w5.cell? ⟨gb101, 0, none⟩ = some (.int .i64 a0_0) := bc BK101 0; have hcz7_1 : w5.cell? ⟨gb101, 1, none⟩ = some (.int .i64 a0_1) := bc BK101 1; have hcz7_2 : w5.cell? ⟨gb101, 2, none⟩ = some (.string a0_2) := bc BK101 2; have hcz7_3 : w5.cell? ⟨gb101, 3, none⟩ = some (.string a0_3) := bc BK101 3; have hfz7_0 := blk_frozen BK101.out 0; have hfz7_1 := blk_frozen BK101.out 1; have hfz7_2 := blk_frozen BK101.out 2; have hfz7_3 := blk_frozen BK101.out 3))
  (try simp only [Act.put, List.setIfInBounds_toArray, List.set_cons_zero, List.set_cons_succ])
  go_cut [9] (fun v9 wc => ∃ (kq : Nat) (x9_2 : Bool), v9 = .bool x9_2 ∧ Aside0 (impl_Chunker_eat.j0 kq a1 10 1 a0_0 x9_2 a0_0 a0_1 a0_2 a0_3 = some (r1, r2, r3, r4)) ∧ Aside0 (kq ≤ k) ∧ Aside0 (wc.heap[gb101]? = some (.cells #[.int .i64 a0_0, .int .i64 a0_1, .string a0_2, .string a0_3] 35 (0, 0))) ∧ Aside0 (wc.heap[gb102]? = some (.cells #[.int .i64 0, .int .i64 0, .string (⟨#[]⟩ : ByteArray), .string (⟨#[]⟩ : ByteArray)] 35 (0, 0))) ∧ Aside0 (Below w.heap.size w wc))
  case first =>
    have H := HC3.out
    clear HC3
    by_cases c8 : a0_0 = 8
    · rw [if_pos c8] at H
      have c8b0 : (a0_0 == 8) = true := beq_iff_eq.mpr c8
      have c8b1 : (a0_0 != 8) = false := bne_eq_false_iff_eq.mpr c8
      clear c8
      (first | rw [c8b0] | (simp only [i64_w, i32_w]; rw [c8b0]) | skip)
      have H' := Aside0.mk H
      clear H
      go_wp2
      go_meet
      case rel => exact ⟨_, ((a0_0 == 8)), (by first | rfl | (simp; done) | (simp [*]; done)), H', ⟨by first | omega | exact Nat.le_refl _⟩, ⟨by (with_reducible repeat (first | refine blk_drewN ?_ _ | refine blk_drew ?_ | refine blk_alloc ?_ _)); exact BK101.out⟩, ⟨by (with_reducible repeat (first | refine blk_drewN ?_ _ | refine blk_drew ?_ | refine blk_alloc ?_ _)); exact BK102.out⟩, ⟨bh⟩⟩
    · rw [if_neg c8] at H
      have c8b0 : (a0_0 == 8) = false := beq_eq_false_iff_ne.mpr c8
      have c8b1 : (a0_0 != 8) = true := bne_iff_ne.mpr c8
      (first | rw [c8b0] | (simp only [i64_w, i32_w]; rw [c8b0]) | skip)
      have H' := Aside0.mk H
      clear H
      go_wp2
      go_meet
      case rel => exact ⟨_, ((a0_0 == 9)), (by first | rfl | (simp; done) | (simp [*]; done)), H', ⟨by first | omega | exact Nat.le_refl _⟩, ⟨by (with_reducible repeat (first | refine blk_drewN ?_ _ | refine blk_drew ?_ | refine blk_alloc ?_ _)); exact BK101.out⟩, ⟨by (with_reducible repeat (first | refine blk_drewN ?_ _ | refine blk_drew ?_ | refine blk_alloc ?_ _)); exact BK102.out⟩, ⟨bh⟩⟩
  case rest =>
    clear HC3
    try clear p2
    try clear c5
    try clear c6
    try clear c8
    try clear c8b0
    try clear c8b1
    try clear hcz7_0
    try clear hcz7_1
    try clear hcz7_2
    try clear hcz7_3
    try clear hfz7_0
    try clear hfz7_1
    try clear hfz7_2
    try clear hfz7_3
    obtain ⟨kq, x9_2, rfl, HA, HJ2, BK101, BK102, HB⟩ := hcut
    cases kq with
    | zero => exact absurd HA.out (by simp [impl_Chunker_eat.j0])
    | succ kj2 =>
      have H := HA.out
      clear HA
      simp only [impl_Chunker_eat.j0] at H
      by_cases c9 : x9_2 = true
      · subst c9
        have H1 : (some (a0_0, a0_1, a0_2, a0_3)) = some (r1, r2, r3, r4) := by rw [if_pos rfl] at H; exact H
        clear H
        have H := H1
        clear H1
        simp only [Option.some.injEq, Prod.mk.injEq] at H
        obtain ⟨rfl, rfl, rfl, rfl⟩ := H
        have hnb10 := NB101_102.out
        have hnc10 := NB102_101.out
        have hcz11_0 : wc.cell? ⟨gb101, 0, none⟩ = some (.int .i64 a0_0) := bc BK101 0
        have hcz11_1 : wc.cell? ⟨gb101, 1, none⟩ = some (.int .i64 a0_1) := bc BK101 1
        have hcz11_2 : wc.cell? ⟨gb101, 2, none⟩ = some (.string a0_2) := bc BK101 2
        have hcz11_3 : wc.cell? ⟨gb101, 3, none⟩ = some (.string a0_3) := bc BK101 3
        have hfz11_0 := blk_frozen BK101.out 0
        have hfz11_1 := blk_frozen BK101.out 1
        have hfz11_2 := blk_frozen BK101.out 2
        have hfz11_3 := blk_frozen BK101.out 3
        have hcz12_0 : wc.cell? ⟨gb102, 0, none⟩ = some (.int .i64 0) := bc BK102 0
        have hcz12_1 : wc.cell? ⟨gb102, 1, none⟩ = some (.int .i64 0) := bc BK102 1
        have hcz12_2 : wc.cell? ⟨gb102, 2, none⟩ = some (.string (⟨#[]⟩ : ByteArray)) := bc BK102 2
        have hcz12_3 : wc.cell? ⟨gb102, 3, none⟩ = some (.string (⟨#[]⟩ : ByteArray)) := bc BK102 3
        have hfz12_0 := blk_frozen BK102.out 0
        have hfz12_1 := blk_frozen BK102.out 1
        have hfz12_2 := blk_frozen BK102.out 2
        have hfz12_3 := blk_frozen BK102.out 3
        go_wp2
        refine bodyPost_ret (results_cell_row rfl _ _ gb102 35 #[.int .i64 a0_0, .int .i64 a0_1, .string a0_2, .string a0_3] (0, 0) _ rfl bkp Tryd.underlying35 rfl (by kernel_rfl)) rfl ?_
        exact ⟨er, bh⟩
      · replace c9 := Bool.eq_false_iff.mpr c9
        subst c9
        rw [if_neg (show ¬ (false = true) by decide)] at H
        by_cases c13 : a0_0 = 1
        · rw [if_pos c13] at H
          have c13b0 : (a0_0 == 1) = true := beq_iff_eq.mpr c13
          have c13b1 : (a0_0 != 1) = false := bne_eq_false_iff_eq.mpr c13
          clear c13
          replace H := Option.bind_eq_some_iff.mp H
          obtain ⟨⟨t103, t104, t105, t106⟩, A140, H⟩ := H
          replace H : (some (t103, t104, t105, t106)) = some (r1, r2, r3, r4) := H
          have A14 := Aside0.mk A140
          clear A140
          simp only [Option.some.injEq, Prod.mk.injEq] at H
          obtain ⟨rfl, rfl, rfl, rfl⟩ := H
          have hnb15 := NB101_102.out
          have hnc15 := NB102_101.out
          have hcz16_0 : wc.cell? ⟨gb101, 0, none⟩ = some (.int .i64 a0_0) := bc BK101 0
          have hcz16_1 : wc.cell? ⟨gb101, 1, none⟩ = some (.int .i64 a0_1) := bc BK101 1
          have hcz16_2 : wc.cell? ⟨gb101, 2, none⟩ = some (.string a0_2) := bc BK101 2
          have hcz16_3 : wc.cell? ⟨gb101, 3, none⟩ = some (.string a0_3) := bc BK101 3
          have hfz16_0 := blk_frozen BK101.out 0
          have hfz16_1 := blk_frozen BK101.out 1
          have hfz16_2 := blk_frozen BK101.out 2
          have hfz16_3 := blk_frozen BK101.out 3
          go_wp2_with (first | ((with_reducible refine gate_callee (f := 75) rfl ?_); refine goesL_ (some 17) rfl rfl Tryd.func75 (by kernel_rfl) rfl #[.agg #[.int .i64 a0_0, .int .i64 a0_1, .string a0_2, .string a0_3], .int .u8 a1] rfl mc ?_; (with_reducible refine (impl_Chunker_size.calls kj2 a0_0 a0_1 a0_2 a0_3 a1 t103 t104 t105 t106 _ A14.out).mono ?_); rintro e w17 ⟨rfl, hb⟩; refine ⟨_, rfl, ?_⟩; replace BK101 := Aside0.mk (blk_below (g := gb101) (o := .cells #[.int .i64 a0_0, .int .i64 a0_1, .string a0_2, .string a0_3] 35 (0, 0)) bk hb); replace BK102 := Aside0.mk (blk_below (g := gb102) (o := .cells #[.int .i64 0, .int .i64 0, .string (⟨#[]⟩ : ByteArray), .string (⟨#[]⟩ : ByteArray)] 35 (0, 0)) bk hb); replace HB := Aside0.mk (below_step bh hb); (try clear hb); (try clear hb2); (try clear hk); (try clear hi); have hcz18_0 : w17.cell? ⟨gb102, 0, none⟩ = some (.int .i64 0) := bc BK102 0; have hcz18_1 : w17.cell? ⟨gb102, 1, none⟩ = some (.int .i64 0) := bc BK102 1; have hcz18_2 : w17.cell? ⟨gb102, 2, none⟩ = some (.string (⟨#[]⟩ : ByteArray)) := bc BK102 2; have hcz18_3 : w17.cell? ⟨gb102, 3, none⟩ = some (.string (⟨#[]⟩ : ByteArray)) := bc BK102 3; have hfz18_0 := blk_frozen BK102.out 0; have hfz18_1 := blk_frozen BK102.out 1; have hfz18_2 := blk_frozen BK102.out 2; have hfz18_3 := blk_frozen BK102.out 3))
          refine bodyPost_ret (results_cell_row rfl _ _ gb102 35 #[.int .i64 t103, .int .i64 t104, .string t105, .string t106] (0, 0) _ rfl bkp Tryd.underlying35 rfl (by kernel_rfl)) rfl ?_
          exact ⟨er, bh⟩
        · rw [if_neg c13] at H
          have c13b0 : (a0_0 == 1) = false := beq_eq_false_iff_ne.mpr c13
          have c13b1 : (a0_0 != 1) = true := bne_iff_ne.mpr c13
          by_cases c19 : a0_0 = 3
          · rw [if_pos c19] at H
            have c19b0 : (a0_0 == 3) = true := beq_iff_eq.mpr c19
            have c19b1 : (a0_0 != 3) = false := bne_eq_false_iff_eq.mpr c19
            clear c19
            obtain ⟨y107, hy107⟩ : ∃ y_ : List Int, y_ = (([a1] : List Int)) := ⟨_, rfl⟩
            replace H : (if a0_3.size + (strOfNums y107).size ≤ 9223372036854775807 then (if (wrap64 (a0_1 - 1)) = 0 then (some (4, wrap64 (a0_1 - 1), a0_2, a0_3 ++ (strOfNums y107))) else (some (a0_0, wrap64 (a0_1 - 1), a0_2, a0_3 ++ (strOfNums y107)))) else (none)) = some (r1, r2, r3, r4) := by first | (rw [hy107]; with_reducible exact H) | (have H2_ := (Option.bind_some _ _).symm.trans H; rw [hy107]; with_reducible exact H2_) | (have H2_ := (Option.bind_some _ _).symm.trans H; with_reducible exact H2_) | with_reducible exact H | (rw [hy107]; exact H) | exact H
            have Ny107 := Aside0.mk hy107
            clear hy107
            by_cases c20 : a0_3.size + (strOfNums y107).size ≤ 9223372036854775807
            · rw [if_pos c20] at H
              have c20b0 := eq_true c20
              have c20b1 : decide (a0_3.size + (strOfNums y107).size ≤ 9223372036854775807) = true := decide_eq_true c20
              try have c20b2 : (9223372036854775807 < a0_3.size + (strOfNums y107).size) = False := eq_false (Nat.not_lt.2 c20)
              by_cases c21 : (wrap64 (a0_1 - 1)) = 0
              · rw [if_pos c21] at H
                have c21b0 : ((wrap64 (a0_1 - 1)) == 0) = true := beq_iff_eq.mpr c21
                have c21b1 : ((wrap64 (a0_1 - 1)) != 0) = false := bne_eq_false_iff_eq.mpr c21
                clear c21
                simp only [Option.some.injEq, Prod.mk.injEq] at H
                obtain ⟨rfl, rfl, rfl, rfl⟩ := H
                have hnb22 := NB101_102.out
                have hnc22 := NB102_101.out
                have hcz23_0 : wc.cell? ⟨gb101, 0, none⟩ = some (.int .i64 a0_0) := bc BK101 0
                have hcz23_1 : wc.cell? ⟨gb101, 1, none⟩ = some (.int .i64 a0_1) := bc BK101 1
                have hcz23_2 : wc.cell? ⟨gb101, 2, none⟩ = some (.string a0_2) := bc BK101 2
                have hcz23_3 : wc.cell? ⟨gb101, 3, none⟩ = some (.string a0_3) := bc BK101 3
                have hfz23_0 := blk_frozen BK101.out 0
                have hfz23_1 := blk_frozen BK101.out 1
                have hfz23_2 := blk_frozen BK101.out 2
                have hfz23_3 := blk_frozen BK101.out 3
                go_wp2_with (first | ((with_reducible refine gate_dst (N := 23) rfl ?_); refine Kd.R_lit (Kd.int .u8) _ 5 ?hg (N := 23) ?hd (xs := ([a1] : List Int)) (inner := [.int .u8 a1]) (ok := fun _ => True) (okp := fun _ => True) ?hr ?hp (fun _ hk => hk) trivial (Below.refl _ _) (Nat.le_refl _) (by simp) ?_; (case hd => rfl); (case hg => rfl); (case hr => first | (go_simp; done) | (go_simp; rfl)); (case hp => exact (Reps.one (show Kd.M (Kd.int .u8) _ _ _ a1 [.int .u8 a1] from rfl) (Reps.none _ _))); intro v108 w24 ho25 hb hg_ hnew_; clear hg_ hnew_; (first | rw [← Ny107.out] at ho25 | (simp only [Int.reduceToNat] at ho25; rw [← Ny107.out] at ho25)); have HO109 := Aside0.mk (Kd.R_lower ho25 (below_size bh)); replace BK101 := Aside0.mk (blk_below (g := gb101) (o := .cells #[.int .i64 a0_0, .int .i64 a0_1, .string a0_2, .string a0_3] 35 (0, 0)) bk hb); replace BK102 := Aside0.mk (blk_below (g := gb102) (o := .cells #[.int .i64 0, .int .i64 0, .string (⟨#[]⟩ : ByteArray), .string (⟨#[]⟩ : ByteArray)] 35 (0, 0)) bk hb); replace HB := Aside0.mk (below_step bh hb); clear hb ho25; have hcv26 := own_string (P := Tryd.prog) Tryd.underlying22 Tryd.underlying5 Tryd.underlying9 (Kd.own_of_R HO109.out); have hcz27_0 : w24.cell? ⟨gb101, 0, none⟩ = some (.int .i64 a0_0) := bc BK101 0; have hcz27_1 : w24.cell? ⟨gb101, 1, none⟩ = some (.int .i64 a0_1) := bc BK101 1; have hcz27_2 : w24.cell? ⟨gb101, 2, none⟩ = some (.string a0_2) := bc BK101 2; have hcz27_3 : w24.cell? ⟨gb101, 3, none⟩ = some (.string a0_3) := bc BK101 3; have hfz27_0 := blk_frozen BK101.out 0; have hfz27_1 := blk_frozen BK101.out 1; have hfz27_2 := blk_frozen BK101.out 2; have hfz27_3 := blk_frozen BK101.out 3; have hcz28_0 : w24.cell? ⟨gb102, 0, none⟩ = some (.int .i64 0) := bc BK102 0; have hcz28_1 : w24.cell? ⟨gb102, 1, none⟩ = some (.int .i64 0) := bc BK102 1; have hcz28_2 : w24.cell? ⟨gb102, 2, none⟩ = some (.string (⟨#[]⟩ : ByteArray)) := bc BK102 2; have hcz28_3 : w24.cell? ⟨gb102, 3, none⟩ = some (.string (⟨#[]⟩ : ByteArray)) := bc BK102 3; have hfz28_0 := blk_frozen BK102.out 0; have hfz28_1 := blk_frozen BK102.out 1; have hfz28_2 := blk_frozen BK102.out 2; have hfz28_3 := blk_frozen BK102.out 3))
                refine bodyPost_ret (results_cell_row rfl _ _ gb102 35 #[.int .i64 4, .int .i64 (wrap64 (a0_1 - 1)), .string a0_2, .string (a0_3 ++ (strOfNums y107))] (0, 0) _ rfl bkp Tryd.underlying35 rfl (by kernel_rfl)) rfl ?_
                exact ⟨er, bh⟩
              · rw [if_neg c21] at H
                have c21b0 : ((wrap64 (a0_1 - 1)) == 0) = false := beq_eq_false_iff_ne.mpr c21
                have c21b1 : ((wrap64 (a0_1 - 1)) != 0) = true := bne_iff_ne.mpr c21
                simp only [Option.some.injEq, Prod.mk.injEq] at H
                obtain ⟨rfl, rfl, rfl, rfl⟩ := H
                have hnb29 := NB101_102.out
                have hnc29 := NB102_101.out
                have hcz30_0 : wc.cell? ⟨gb101, 0, none⟩ = some (.int .i64 a0_0) := bc BK101 0
                have hcz30_1 : wc.cell? ⟨gb101, 1, none⟩ = some (.int .i64 a0_1) := bc BK101 1
                have hcz30_2 : wc.cell? ⟨gb101, 2, none⟩ = some (.string a0_2) := bc BK101 2
                have hcz30_3 : wc.cell? ⟨gb101, 3, none⟩ = some (.string a0_3) := bc BK101 3
                have hfz30_0 := blk_frozen BK101.out 0
                have hfz30_1 := blk_frozen BK101.out 1
                have hfz30_2 := blk_frozen BK101.out 2
                have hfz30_3 := blk_frozen BK101.out 3
                go_wp2_with (first | ((with_reducible refine gate_dst (N := 23) rfl ?_); refine Kd.R_lit (Kd.int .u8) _ 5 ?hg (N := 23) ?hd (xs := ([a1] : List Int)) (inner := [.int .u8 a1]) (ok := fun _ => True) (okp := fun _ => True) ?hr ?hp (fun _ hk => hk) trivial (Below.refl _ _) (Nat.le_refl _) (by simp) ?_; (case hd => rfl); (case hg => rfl); (case hr => first | (go_simp; done) | (go_simp; rfl)); (case hp => exact (Reps.one (show Kd.M (Kd.int .u8) _ _ _ a1 [.int .u8 a1] from rfl) (Reps.none _ _))); intro v108 w31 ho32 hb hg_ hnew_; clear hg_ hnew_; (first | rw [← Ny107.out] at ho32 | (simp only [Int.reduceToNat] at ho32; rw [← Ny107.out] at ho32)); have HO109 := Aside0.mk (Kd.R_lower ho32 (below_size bh)); replace BK101 := Aside0.mk (blk_below (g := gb101) (o := .cells #[.int .i64 a0_0, .int .i64 a0_1, .string a0_2, .string a0_3] 35 (0, 0)) bk hb); replace BK102 := Aside0.mk (blk_below (g := gb102) (o := .cells #[.int .i64 0, .int .i64 0, .string (⟨#[]⟩ : ByteArray), .string (⟨#[]⟩ : ByteArray)] 35 (0, 0)) bk hb); replace HB := Aside0.mk (below_step bh hb); clear hb ho32; have hcv33 := own_string (P := Tryd.prog) Tryd.underlying22 Tryd.underlying5 Tryd.underlying9 (Kd.own_of_R HO109.out); have hcz34_0 : w31.cell? ⟨gb101, 0, none⟩ = some (.int .i64 a0_0) := bc BK101 0; have hcz34_1 : w31.cell? ⟨gb101, 1, none⟩ = some (.int .i64 a0_1) := bc BK101 1; have hcz34_2 : w31.cell? ⟨gb101, 2, none⟩ = some (.string a0_2) := bc BK101 2; have hcz34_3 : w31.cell? ⟨gb101, 3, none⟩ = some (.string a0_3) := bc BK101 3; have hfz34_0 := blk_frozen BK101.out 0; have hfz34_1 := blk_frozen BK101.out 1; have hfz34_2 := blk_frozen BK101.out 2; have hfz34_3 := blk_frozen BK101.out 3; have hcz35_0 : w31.cell? ⟨gb102, 0, none⟩ = some (.int .i64 0) := bc BK102 0; have hcz35_1 : w31.cell? ⟨gb102, 1, none⟩ = some (.int .i64 0) := bc BK102 1; have hcz35_2 : w31.cell? ⟨gb102, 2, none⟩ = some (.string (⟨#[]⟩ : ByteArray)) := bc BK102 2; have hcz35_3 : w31.cell? ⟨gb102, 3, none⟩ = some (.string (⟨#[]⟩ : ByteArray)) := bc BK102 3; have hfz35_0 := blk_frozen BK102.out 0; have hfz35_1 := blk_frozen BK102.out 1; have hfz35_2 := blk_frozen BK102.out 2; have hfz35_3 := blk_frozen BK102.out 3))
                refine bodyPost_ret (results_cell_row rfl _ _ gb102 35 #[.int .i64 a0_0, .int .i64 (wrap64 (a0_1 - 1)), .string a0_2, .string (a0_3 ++ (strOfNums y107))] (0, 0) _ rfl bkp Tryd.underlying35 rfl (by kernel_rfl)) rfl ?_
                exact ⟨er, bh⟩
            · rw [if_neg c20] at H
              exact absurd H (by simp)
          · rw [if_neg c19] at H
            have c19b0 : (a0_0 == 3) = false := beq_eq_false_iff_ne.mpr c19
            have c19b1 : (a0_0 != 3) = true := bne_iff_ne.mpr c19
            by_cases c36 : a0_0 = 2
            · rw [if_pos c36] at H
              have c36b0 : (a0_0 == 2) = true := beq_iff_eq.mpr c36
              have c36b1 : (a0_0 != 2) = false := bne_eq_false_iff_eq.mpr c36
              clear c36
              by_cases c37 : a0_1 = 0
              · rw [if_pos c37] at H
                have c37b0 : (a0_1 == 0) = true := beq_iff_eq.mpr c37
                have c37b1 : (a0_1 != 0) = false := bne_eq_false_iff_eq.mpr c37
                clear c37
                by_cases c38 : a1 = 10
                · rw [if_pos c38] at H
                  have c38b0 : (a1 == 10) = true := beq_iff_eq.mpr c38
                  have c38b1 : (a1 != 10) = false := bne_eq_false_iff_eq.mpr c38
                  clear c38
                  simp only [Option.some.injEq, Prod.mk.injEq] at H
                  obtain ⟨rfl, rfl, rfl, rfl⟩ := H
                  have hnb39 := NB101_102.out
                  have hnc39 := NB102_101.out
                  have hcz40_0 : wc.cell? ⟨gb101, 0, none⟩ = some (.int .i64 a0_0) := bc BK101 0
                  have hcz40_1 : wc.cell? ⟨gb101, 1, none⟩ = some (.int .i64 a0_1) := bc BK101 1
                  have hcz40_2 : wc.cell? ⟨gb101, 2, none⟩ = some (.string a0_2) := bc BK101 2
                  have hcz40_3 : wc.cell? ⟨gb101, 3, none⟩ = some (.string a0_3) := bc BK101 3
                  have hfz40_0 := blk_frozen BK101.out 0
                  have hfz40_1 := blk_frozen BK101.out 1
                  have hfz40_2 := blk_frozen BK101.out 2
                  have hfz40_3 := blk_frozen BK101.out 3
                  have hcz41_0 : wc.cell? ⟨gb102, 0, none⟩ = some (.int .i64 0) := bc BK102 0
                  have hcz41_1 : wc.cell? ⟨gb102, 1, none⟩ = some (.int .i64 0) := bc BK102 1
                  have hcz41_2 : wc.cell? ⟨gb102, 2, none⟩ = some (.string (⟨#[]⟩ : ByteArray)) := bc BK102 2
                  have hcz41_3 : wc.cell? ⟨gb102, 3, none⟩ = some (.string (⟨#[]⟩ : ByteArray)) := bc BK102 3
                  have hfz41_0 := blk_frozen BK102.out 0
                  have hfz41_1 := blk_frozen BK102.out 1
                  have hfz41_2 := blk_frozen BK102.out 2
                  have hfz41_3 := blk_frozen BK102.out 3
                  go_wp2
                  refine bodyPost_ret (results_cell_row rfl _ _ gb102 35 #[.int .i64 6, .int .i64 a0_1, .string a0_2, .string a0_3] (0, 0) _ rfl bkp Tryd.underlying35 rfl (by kernel_rfl)) rfl ?_
                  exact ⟨er, bh⟩
                · rw [if_neg c38] at H
                  have c38b0 : (a1 == 10) = false := beq_eq_false_iff_ne.mpr c38
                  have c38b1 : (a1 != 10) = true := bne_iff_ne.mpr c38
                  replace H := Option.bind_eq_some_iff.mp H
                  obtain ⟨⟨t110, t111, t112, t113⟩, A420, H⟩ := H
                  replace H : (some (t110, t111, t112, t113)) = some (r1, r2, r3, r4) := H
                  have A42 := Aside0.mk A420
                  clear A420
                  simp only [Option.some.injEq, Prod.mk.injEq] at H
                  obtain ⟨rfl, rfl, rfl, rfl⟩ := H
                  have hnb43 := NB101_102.out
                  have hnc43 := NB102_101.out
                  have hcz44_0 : wc.cell? ⟨gb101, 0, none⟩ = some (.int .i64 a0_0) := bc BK101 0
                  have hcz44_1 : wc.cell? ⟨gb101, 1, none⟩ = some (.int .i64 a0_1) := bc BK101 1
                  have hcz44_2 : wc.cell? ⟨gb101, 2, none⟩ = some (.string a0_2) := bc BK101 2
                  have hcz44_3 : wc.cell? ⟨gb101, 3, none⟩ = some (.string a0_3) := bc BK101 3
                  have hfz44_0 := blk_frozen BK101.out 0
                  have hfz44_1 := blk_frozen BK101.out 1
                  have hfz44_2 := blk_frozen BK101.out 2
                  have hfz44_3 := blk_frozen BK101.out 3
                  go_wp2_with (first | ((with_reducible refine gate_callee (f := 76) rfl ?_); refine goesL_ (some 51) rfl rfl Tryd.func76 (by kernel_rfl) rfl #[.agg #[.int .i64 a0_0, .int .i64 a0_1, .string a0_2, .string a0_3]] rfl mc ?_; (with_reducible refine (impl_Chunker_bad.calls a0_0 a0_1 a0_2 a0_3 t110 t111 t112 t113 _ A42.out).mono ?_); rintro e w45 ⟨rfl, hb⟩; refine ⟨_, rfl, ?_⟩; replace BK101 := Aside0.mk (blk_below (g := gb101) (o := .cells #[.int .i64 a0_0, .int .i64 a0_1, .string a0_2, .string a0_3] 35 (0, 0)) bk hb); replace BK102 := Aside0.mk (blk_below (g := gb102) (o := .cells #[.int .i64 0, .int .i64 0, .string (⟨#[]⟩ : ByteArray), .string (⟨#[]⟩ : ByteArray)] 35 (0, 0)) bk hb); replace HB := Aside0.mk (below_step bh hb); (try clear hb); (try clear hb2); (try clear hk); (try clear hi); have hcz46_0 : w45.cell? ⟨gb102, 0, none⟩ = some (.int .i64 0) := bc BK102 0; have hcz46_1 : w45.cell? ⟨gb102, 1, none⟩ = some (.int .i64 0) := bc BK102 1; have hcz46_2 : w45.cell? ⟨gb102, 2, none⟩ = some (.string (⟨#[]⟩ : ByteArray)) := bc BK102 2; have hcz46_3 : w45.cell? ⟨gb102, 3, none⟩ = some (.string (⟨#[]⟩ : ByteArray)) := bc BK102 3; have hfz46_0 := blk_frozen BK102.out 0; have hfz46_1 := blk_frozen BK102.out 1; have hfz46_2 := blk_frozen BK102.out 2; have hfz46_3 := blk_frozen BK102.out 3))
                  refine bodyPost_ret (results_cell_row rfl _ _ gb102 35 #[.int .i64 t110, .int .i64 t111, .string t112, .string t113] (0, 0) _ rfl bkp Tryd.underlying35 rfl (by kernel_rfl)) rfl ?_
                  exact ⟨er, bh⟩
              · rw [if_neg c37] at H
                have c37b0 : (a0_1 == 0) = false := beq_eq_false_iff_ne.mpr c37
                have c37b1 : (a0_1 != 0) = true := bne_iff_ne.mpr c37
                by_cases c47 : a1 = 10
                · rw [if_pos c47] at H
                  have c47b0 : (a1 == 10) = true := beq_iff_eq.mpr c47
                  have c47b1 : (a1 != 10) = false := bne_eq_false_iff_eq.mpr c47
                  clear c47
                  simp only [Option.some.injEq, Prod.mk.injEq] at H
                  obtain ⟨rfl, rfl, rfl, rfl⟩ := H
                  have hnb48 := NB101_102.out
                  have hnc48 := NB102_101.out
                  have hcz49_0 : wc.cell? ⟨gb101, 0, none⟩ = some (.int .i64 a0_0) := bc BK101 0
                  have hcz49_1 : wc.cell? ⟨gb101, 1, none⟩ = some (.int .i64 a0_1) := bc BK101 1
                  have hcz49_2 : wc.cell? ⟨gb101, 2, none⟩ = some (.string a0_2) := bc BK101 2
                  have hcz49_3 : wc.cell? ⟨gb101, 3, none⟩ = some (.string a0_3) := bc BK101 3
                  have hfz49_0 := blk_frozen BK101.out 0
                  have hfz49_1 := blk_frozen BK101.out 1
                  have hfz49_2 := blk_frozen BK101.out 2
                  have hfz49_3 := blk_frozen BK101.out 3
                  have hcz50_0 : wc.cell? ⟨gb102, 0, none⟩ = some (.int .i64 0) := bc BK102 0
                  have hcz50_1 : wc.cell? ⟨gb102, 1, none⟩ = some (.int .i64 0) := bc BK102 1
                  have hcz50_2 : wc.cell? ⟨gb102, 2, none⟩ = some (.string (⟨#[]⟩ : ByteArray)) := bc BK102 2
                  have hcz50_3 : wc.cell? ⟨gb102, 3, none⟩ = some (.string (⟨#[]⟩ : ByteArray)) := bc BK102 3
                  have hfz50_0 := blk_frozen BK102.out 0
                  have hfz50_1 := blk_frozen BK102.out 1
                  have hfz50_2 := blk_frozen BK102.out 2
                  have hfz50_3 := blk_frozen BK102.out 3
                  go_wp2
                  refine bodyPost_ret (results_cell_row rfl _ _ gb102 35 #[.int .i64 3, .int .i64 a0_1, .string a0_2, .string a0_3] (0, 0) _ rfl bkp Tryd.underlying35 rfl (by kernel_rfl)) rfl ?_
                  exact ⟨er, bh⟩
                · rw [if_neg c47] at H
                  have c47b0 : (a1 == 10) = false := beq_eq_false_iff_ne.mpr c47
                  have c47b1 : (a1 != 10) = true := bne_iff_ne.mpr c47
                  replace H := Option.bind_eq_some_iff.mp H
                  obtain ⟨⟨t114, t115, t116, t117⟩, A510, H⟩ := H
                  replace H : (some (t114, t115, t116, t117)) = some (r1, r2, r3, r4) := H
                  have A51 := Aside0.mk A510
                  clear A510
                  simp only [Option.some.injEq, Prod.mk.injEq] at H
                  obtain ⟨rfl, rfl, rfl, rfl⟩ := H
                  have hnb52 := NB101_102.out
                  have hnc52 := NB102_101.out
                  have hcz53_0 : wc.cell? ⟨gb101, 0, none⟩ = some (.int .i64 a0_0) := bc BK101 0
                  have hcz53_1 : wc.cell? ⟨gb101, 1, none⟩ = some (.int .i64 a0_1) := bc BK101 1
                  have hcz53_2 : wc.cell? ⟨gb101, 2, none⟩ = some (.string a0_2) := bc BK101 2
                  have hcz53_3 : wc.cell? ⟨gb101, 3, none⟩ = some (.string a0_3) := bc BK101 3
                  have hfz53_0 := blk_frozen BK101.out 0
                  have hfz53_1 := blk_frozen BK101.out 1
                  have hfz53_2 := blk_frozen BK101.out 2
                  have hfz53_3 := blk_frozen BK101.out 3
                  go_wp2_with (first | ((with_reducible refine gate_callee (f := 76) rfl ?_); refine goesL_ (some 51) rfl rfl Tryd.func76 (by kernel_rfl) rfl #[.agg #[.int .i64 a0_0, .int .i64 a0_1, .string a0_2, .string a0_3]] rfl mc ?_; (with_reducible refine (impl_Chunker_bad.calls a0_0 a0_1 a0_2 a0_3 t114 t115 t116 t117 _ A51.out).mono ?_); rintro e w54 ⟨rfl, hb⟩; refine ⟨_, rfl, ?_⟩; replace BK101 := Aside0.mk (blk_below (g := gb101) (o := .cells #[.int .i64 a0_0, .int .i64 a0_1, .string a0_2, .string a0_3] 35 (0, 0)) bk hb); replace BK102 := Aside0.mk (blk_below (g := gb102) (o := .cells #[.int .i64 0, .int .i64 0, .string (⟨#[]⟩ : ByteArray), .string (⟨#[]⟩ : ByteArray)] 35 (0, 0)) bk hb); replace HB := Aside0.mk (below_step bh hb); (try clear hb); (try clear hb2); (try clear hk); (try clear hi); have hcz55_0 : w54.cell? ⟨gb102, 0, none⟩ = some (.int .i64 0) := bc BK102 0; have hcz55_1 : w54.cell? ⟨gb102, 1, none⟩ = some (.int .i64 0) := bc BK102 1; have hcz55_2 : w54.cell? ⟨gb102, 2, none⟩ = some (.string (⟨#[]⟩ : ByteArray)) := bc BK102 2; have hcz55_3 : w54.cell? ⟨gb102, 3, none⟩ = some (.string (⟨#[]⟩ : ByteArray)) := bc BK102 3; have hfz55_0 := blk_frozen BK102.out 0; have hfz55_1 := blk_frozen BK102.out 1; have hfz55_2 := blk_frozen BK102.out 2; have hfz55_3 := blk_frozen BK102.out 3))
                  refine bodyPost_ret (results_cell_row rfl _ _ gb102 35 #[.int .i64 t114, .int .i64 t115, .string t116, .string t117] (0, 0) _ rfl bkp Tryd.underlying35 rfl (by kernel_rfl)) rfl ?_
                  exact ⟨er, bh⟩
            · rw [if_neg c36] at H
              have c36b0 : (a0_0 == 2) = false := beq_eq_false_iff_ne.mpr c36
              have c36b1 : (a0_0 != 2) = true := bne_iff_ne.mpr c36
              by_cases c56 : a0_0 = 4
              · rw [if_pos c56] at H
                have c56b0 : (a0_0 == 4) = true := beq_iff_eq.mpr c56
                have c56b1 : (a0_0 != 4) = false := bne_eq_false_iff_eq.mpr c56
                clear c56
                by_cases c57 : a1 = 13
                · rw [if_pos c57] at H
                  have c57b0 : (a1 == 13) = true := beq_iff_eq.mpr c57
                  have c57b1 : (a1 != 13) = false := bne_eq_false_iff_eq.mpr c57
                  clear c57
                  simp only [Option.some.injEq, Prod.mk.injEq] at H
                  obtain ⟨rfl, rfl, rfl, rfl⟩ := H
                  have hnb58 := NB101_102.out
                  have hnc58 := NB102_101.out
                  have hcz59_0 : wc.cell? ⟨gb101, 0, none⟩ = some (.int .i64 a0_0) := bc BK101 0
                  have hcz59_1 : wc.cell? ⟨gb101, 1, none⟩ = some (.int .i64 a0_1) := bc BK101 1
                  have hcz59_2 : wc.cell? ⟨gb101, 2, none⟩ = some (.string a0_2) := bc BK101 2
                  have hcz59_3 : wc.cell? ⟨gb101, 3, none⟩ = some (.string a0_3) := bc BK101 3
                  have hfz59_0 := blk_frozen BK101.out 0
                  have hfz59_1 := blk_frozen BK101.out 1
                  have hfz59_2 := blk_frozen BK101.out 2
                  have hfz59_3 := blk_frozen BK101.out 3
                  have hcz60_0 : wc.cell? ⟨gb102, 0, none⟩ = some (.int .i64 0) := bc BK102 0
                  have hcz60_1 : wc.cell? ⟨gb102, 1, none⟩ = some (.int .i64 0) := bc BK102 1
                  have hcz60_2 : wc.cell? ⟨gb102, 2, none⟩ = some (.string (⟨#[]⟩ : ByteArray)) := bc BK102 2
                  have hcz60_3 : wc.cell? ⟨gb102, 3, none⟩ = some (.string (⟨#[]⟩ : ByteArray)) := bc BK102 3
                  have hfz60_0 := blk_frozen BK102.out 0
                  have hfz60_1 := blk_frozen BK102.out 1
                  have hfz60_2 := blk_frozen BK102.out 2
                  have hfz60_3 := blk_frozen BK102.out 3
                  go_wp2
                  refine bodyPost_ret (results_cell_row rfl _ _ gb102 35 #[.int .i64 5, .int .i64 a0_1, .string a0_2, .string a0_3] (0, 0) _ rfl bkp Tryd.underlying35 rfl (by kernel_rfl)) rfl ?_
                  exact ⟨er, bh⟩
                · rw [if_neg c57] at H
                  have c57b0 : (a1 == 13) = false := beq_eq_false_iff_ne.mpr c57
                  have c57b1 : (a1 != 13) = true := bne_iff_ne.mpr c57
                  replace H := Option.bind_eq_some_iff.mp H
                  obtain ⟨⟨t118, t119, t120, t121⟩, A610, H⟩ := H
                  replace H : (some (t118, t119, t120, t121)) = some (r1, r2, r3, r4) := H
                  have A61 := Aside0.mk A610
                  clear A610
                  simp only [Option.some.injEq, Prod.mk.injEq] at H
                  obtain ⟨rfl, rfl, rfl, rfl⟩ := H
                  have hnb62 := NB101_102.out
                  have hnc62 := NB102_101.out
                  have hcz63_0 : wc.cell? ⟨gb101, 0, none⟩ = some (.int .i64 a0_0) := bc BK101 0
                  have hcz63_1 : wc.cell? ⟨gb101, 1, none⟩ = some (.int .i64 a0_1) := bc BK101 1
                  have hcz63_2 : wc.cell? ⟨gb101, 2, none⟩ = some (.string a0_2) := bc BK101 2
                  have hcz63_3 : wc.cell? ⟨gb101, 3, none⟩ = some (.string a0_3) := bc BK101 3
                  have hfz63_0 := blk_frozen BK101.out 0
                  have hfz63_1 := blk_frozen BK101.out 1
                  have hfz63_2 := blk_frozen BK101.out 2
                  have hfz63_3 := blk_frozen BK101.out 3
                  go_wp2_with (first | ((with_reducible refine gate_callee (f := 76) rfl ?_); refine goesL_ (some 51) rfl rfl Tryd.func76 (by kernel_rfl) rfl #[.agg #[.int .i64 a0_0, .int .i64 a0_1, .string a0_2, .string a0_3]] rfl mc ?_; (with_reducible refine (impl_Chunker_bad.calls a0_0 a0_1 a0_2 a0_3 t118 t119 t120 t121 _ A61.out).mono ?_); rintro e w64 ⟨rfl, hb⟩; refine ⟨_, rfl, ?_⟩; replace BK101 := Aside0.mk (blk_below (g := gb101) (o := .cells #[.int .i64 a0_0, .int .i64 a0_1, .string a0_2, .string a0_3] 35 (0, 0)) bk hb); replace BK102 := Aside0.mk (blk_below (g := gb102) (o := .cells #[.int .i64 0, .int .i64 0, .string (⟨#[]⟩ : ByteArray), .string (⟨#[]⟩ : ByteArray)] 35 (0, 0)) bk hb); replace HB := Aside0.mk (below_step bh hb); (try clear hb); (try clear hb2); (try clear hk); (try clear hi); have hcz65_0 : w64.cell? ⟨gb102, 0, none⟩ = some (.int .i64 0) := bc BK102 0; have hcz65_1 : w64.cell? ⟨gb102, 1, none⟩ = some (.int .i64 0) := bc BK102 1; have hcz65_2 : w64.cell? ⟨gb102, 2, none⟩ = some (.string (⟨#[]⟩ : ByteArray)) := bc BK102 2; have hcz65_3 : w64.cell? ⟨gb102, 3, none⟩ = some (.string (⟨#[]⟩ : ByteArray)) := bc BK102 3; have hfz65_0 := blk_frozen BK102.out 0; have hfz65_1 := blk_frozen BK102.out 1; have hfz65_2 := blk_frozen BK102.out 2; have hfz65_3 := blk_frozen BK102.out 3))
                  refine bodyPost_ret (results_cell_row rfl _ _ gb102 35 #[.int .i64 t118, .int .i64 t119, .string t120, .string t121] (0, 0) _ rfl bkp Tryd.underlying35 rfl (by kernel_rfl)) rfl ?_
                  exact ⟨er, bh⟩
              · rw [if_neg c56] at H
                have c56b0 : (a0_0 == 4) = false := beq_eq_false_iff_ne.mpr c56
                have c56b1 : (a0_0 != 4) = true := bne_iff_ne.mpr c56
                by_cases c66 : a0_0 = 6
                · rw [if_pos c66] at H
                  have c66b0 : (a0_0 == 6) = true := beq_iff_eq.mpr c66
                  have c66b1 : (a0_0 != 6) = false := bne_eq_false_iff_eq.mpr c66
                  clear c66
                  by_cases c67 : a1 = 13
                  · rw [if_pos c67] at H
                    have c67b0 : (a1 == 13) = true := beq_iff_eq.mpr c67
                    have c67b1 : (a1 != 13) = false := bne_eq_false_iff_eq.mpr c67
                    clear c67
                    simp only [Option.some.injEq, Prod.mk.injEq] at H
                    obtain ⟨rfl, rfl, rfl, rfl⟩ := H
                    have hnb68 := NB101_102.out
                    have hnc68 := NB102_101.out
                    have hcz69_0 : wc.cell? ⟨gb101, 0, none⟩ = some (.int .i64 a0_0) := bc BK101 0
                    have hcz69_1 : wc.cell? ⟨gb101, 1, none⟩ = some (.int .i64 a0_1) := bc BK101 1
                    have hcz69_2 : wc.cell? ⟨gb101, 2, none⟩ = some (.string a0_2) := bc BK101 2
                    have hcz69_3 : wc.cell? ⟨gb101, 3, none⟩ = some (.string a0_3) := bc BK101 3
                    have hfz69_0 := blk_frozen BK101.out 0
                    have hfz69_1 := blk_frozen BK101.out 1
                    have hfz69_2 := blk_frozen BK101.out 2
                    have hfz69_3 := blk_frozen BK101.out 3
                    have hcz70_0 : wc.cell? ⟨gb102, 0, none⟩ = some (.int .i64 0) := bc BK102 0
                    have hcz70_1 : wc.cell? ⟨gb102, 1, none⟩ = some (.int .i64 0) := bc BK102 1
                    have hcz70_2 : wc.cell? ⟨gb102, 2, none⟩ = some (.string (⟨#[]⟩ : ByteArray)) := bc BK102 2
                    have hcz70_3 : wc.cell? ⟨gb102, 3, none⟩ = some (.string (⟨#[]⟩ : ByteArray)) := bc BK102 3
                    have hfz70_0 := blk_frozen BK102.out 0
                    have hfz70_1 := blk_frozen BK102.out 1
                    have hfz70_2 := blk_frozen BK102.out 2
                    have hfz70_3 := blk_frozen BK102.out 3
                    go_wp2
                    refine bodyPost_ret (results_cell_row rfl _ _ gb102 35 #[.int .i64 7, .int .i64 a0_1, .string a0_2, .string a0_3] (0, 0) _ rfl bkp Tryd.underlying35 rfl (by kernel_rfl)) rfl ?_
                    exact ⟨er, bh⟩
                  · rw [if_neg c67] at H
                    have c67b0 : (a1 == 13) = false := beq_eq_false_iff_ne.mpr c67
                    have c67b1 : (a1 != 13) = true := bne_iff_ne.mpr c67
                    replace H := Option.bind_eq_some_iff.mp H
                    obtain ⟨⟨t122, t123, t124, t125⟩, A710, H⟩ := H
                    replace H : (some (t122, t123, t124, t125)) = some (r1, r2, r3, r4) := H
                    have A71 := Aside0.mk A710
                    clear A710
                    simp only [Option.some.injEq, Prod.mk.injEq] at H
                    obtain ⟨rfl, rfl, rfl, rfl⟩ := H
                    have hnb72 := NB101_102.out
                    have hnc72 := NB102_101.out
                    have hcz73_0 : wc.cell? ⟨gb101, 0, none⟩ = some (.int .i64 a0_0) := bc BK101 0
                    have hcz73_1 : wc.cell? ⟨gb101, 1, none⟩ = some (.int .i64 a0_1) := bc BK101 1
                    have hcz73_2 : wc.cell? ⟨gb101, 2, none⟩ = some (.string a0_2) := bc BK101 2
                    have hcz73_3 : wc.cell? ⟨gb101, 3, none⟩ = some (.string a0_3) := bc BK101 3
                    have hfz73_0 := blk_frozen BK101.out 0
                    have hfz73_1 := blk_frozen BK101.out 1
                    have hfz73_2 := blk_frozen BK101.out 2
                    have hfz73_3 := blk_frozen BK101.out 3
                    go_wp2_with (first | ((with_reducible refine gate_callee (f := 76) rfl ?_); refine goesL_ (some 51) rfl rfl Tryd.func76 (by kernel_rfl) rfl #[.agg #[.int .i64 a0_0, .int .i64 a0_1, .string a0_2, .string a0_3]] rfl mc ?_; (with_reducible refine (impl_Chunker_bad.calls a0_0 a0_1 a0_2 a0_3 t122 t123 t124 t125 _ A71.out).mono ?_); rintro e w74 ⟨rfl, hb⟩; refine ⟨_, rfl, ?_⟩; replace BK101 := Aside0.mk (blk_below (g := gb101) (o := .cells #[.int .i64 a0_0, .int .i64 a0_1, .string a0_2, .string a0_3] 35 (0, 0)) bk hb); replace BK102 := Aside0.mk (blk_below (g := gb102) (o := .cells #[.int .i64 0, .int .i64 0, .string (⟨#[]⟩ : ByteArray), .string (⟨#[]⟩ : ByteArray)] 35 (0, 0)) bk hb); replace HB := Aside0.mk (below_step bh hb); (try clear hb); (try clear hb2); (try clear hk); (try clear hi); have hcz75_0 : w74.cell? ⟨gb102, 0, none⟩ = some (.int .i64 0) := bc BK102 0; have hcz75_1 : w74.cell? ⟨gb102, 1, none⟩ = some (.int .i64 0) := bc BK102 1; have hcz75_2 : w74.cell? ⟨gb102, 2, none⟩ = some (.string (⟨#[]⟩ : ByteArray)) := bc BK102 2; have hcz75_3 : w74.cell? ⟨gb102, 3, none⟩ = some (.string (⟨#[]⟩ : ByteArray)) := bc BK102 3; have hfz75_0 := blk_frozen BK102.out 0; have hfz75_1 := blk_frozen BK102.out 1; have hfz75_2 := blk_frozen BK102.out 2; have hfz75_3 := blk_frozen BK102.out 3))
                    refine bodyPost_ret (results_cell_row rfl _ _ gb102 35 #[.int .i64 t122, .int .i64 t123, .string t124, .string t125] (0, 0) _ rfl bkp Tryd.underlying35 rfl (by kernel_rfl)) rfl ?_
                    exact ⟨er, bh⟩
                · rw [if_neg c66] at H
                  have c66b0 : (a0_0 == 6) = false := beq_eq_false_iff_ne.mpr c66
                  have c66b1 : (a0_0 != 6) = true := bne_iff_ne.mpr c66
                  by_cases c76 : a0_0 = 7
                  · rw [if_pos c76] at H
                    have c76b0 : (a0_0 == 7) = true := beq_iff_eq.mpr c76
                    have c76b1 : (a0_0 != 7) = false := bne_eq_false_iff_eq.mpr c76
                    clear c76
                    by_cases c77 : a1 = 10
                    · rw [if_pos c77] at H
                      have c77b0 : (a1 == 10) = true := beq_iff_eq.mpr c77
                      have c77b1 : (a1 != 10) = false := bne_eq_false_iff_eq.mpr c77
                      clear c77
                      simp only [Option.some.injEq, Prod.mk.injEq] at H
                      obtain ⟨rfl, rfl, rfl, rfl⟩ := H
                      have hnb78 := NB101_102.out
                      have hnc78 := NB102_101.out
                      have hcz79_0 : wc.cell? ⟨gb101, 0, none⟩ = some (.int .i64 a0_0) := bc BK101 0
                      have hcz79_1 : wc.cell? ⟨gb101, 1, none⟩ = some (.int .i64 a0_1) := bc BK101 1
                      have hcz79_2 : wc.cell? ⟨gb101, 2, none⟩ = some (.string a0_2) := bc BK101 2
                      have hcz79_3 : wc.cell? ⟨gb101, 3, none⟩ = some (.string a0_3) := bc BK101 3
                      have hfz79_0 := blk_frozen BK101.out 0
                      have hfz79_1 := blk_frozen BK101.out 1
                      have hfz79_2 := blk_frozen BK101.out 2
                      have hfz79_3 := blk_frozen BK101.out 3
                      have hcz80_0 : wc.cell? ⟨gb102, 0, none⟩ = some (.int .i64 0) := bc BK102 0
                      have hcz80_1 : wc.cell? ⟨gb102, 1, none⟩ = some (.int .i64 0) := bc BK102 1
                      have hcz80_2 : wc.cell? ⟨gb102, 2, none⟩ = some (.string (⟨#[]⟩ : ByteArray)) := bc BK102 2
                      have hcz80_3 : wc.cell? ⟨gb102, 3, none⟩ = some (.string (⟨#[]⟩ : ByteArray)) := bc BK102 3
                      have hfz80_0 := blk_frozen BK102.out 0
                      have hfz80_1 := blk_frozen BK102.out 1
                      have hfz80_2 := blk_frozen BK102.out 2
                      have hfz80_3 := blk_frozen BK102.out 3
                      go_wp2
                      refine bodyPost_ret (results_cell_row rfl _ _ gb102 35 #[.int .i64 8, .int .i64 a0_1, .string a0_2, .string a0_3] (0, 0) _ rfl bkp Tryd.underlying35 rfl (by kernel_rfl)) rfl ?_
                      exact ⟨er, bh⟩
                    · rw [if_neg c77] at H
                      have c77b0 : (a1 == 10) = false := beq_eq_false_iff_ne.mpr c77
                      have c77b1 : (a1 != 10) = true := bne_iff_ne.mpr c77
                      replace H := Option.bind_eq_some_iff.mp H
                      obtain ⟨⟨t126, t127, t128, t129⟩, A810, H⟩ := H
                      replace H : (some (t126, t127, t128, t129)) = some (r1, r2, r3, r4) := H
                      have A81 := Aside0.mk A810
                      clear A810
                      simp only [Option.some.injEq, Prod.mk.injEq] at H
                      obtain ⟨rfl, rfl, rfl, rfl⟩ := H
                      have hnb82 := NB101_102.out
                      have hnc82 := NB102_101.out
                      have hcz83_0 : wc.cell? ⟨gb101, 0, none⟩ = some (.int .i64 a0_0) := bc BK101 0
                      have hcz83_1 : wc.cell? ⟨gb101, 1, none⟩ = some (.int .i64 a0_1) := bc BK101 1
                      have hcz83_2 : wc.cell? ⟨gb101, 2, none⟩ = some (.string a0_2) := bc BK101 2
                      have hcz83_3 : wc.cell? ⟨gb101, 3, none⟩ = some (.string a0_3) := bc BK101 3
                      have hfz83_0 := blk_frozen BK101.out 0
                      have hfz83_1 := blk_frozen BK101.out 1
                      have hfz83_2 := blk_frozen BK101.out 2
                      have hfz83_3 := blk_frozen BK101.out 3
                      go_wp2_with (first | ((with_reducible refine gate_callee (f := 76) rfl ?_); refine goesL_ (some 51) rfl rfl Tryd.func76 (by kernel_rfl) rfl #[.agg #[.int .i64 a0_0, .int .i64 a0_1, .string a0_2, .string a0_3]] rfl mc ?_; (with_reducible refine (impl_Chunker_bad.calls a0_0 a0_1 a0_2 a0_3 t126 t127 t128 t129 _ A81.out).mono ?_); rintro e w84 ⟨rfl, hb⟩; refine ⟨_, rfl, ?_⟩; replace BK101 := Aside0.mk (blk_below (g := gb101) (o := .cells #[.int .i64 a0_0, .int .i64 a0_1, .string a0_2, .string a0_3] 35 (0, 0)) bk hb); replace BK102 := Aside0.mk (blk_below (g := gb102) (o := .cells #[.int .i64 0, .int .i64 0, .string (⟨#[]⟩ : ByteArray), .string (⟨#[]⟩ : ByteArray)] 35 (0, 0)) bk hb); replace HB := Aside0.mk (below_step bh hb); (try clear hb); (try clear hb2); (try clear hk); (try clear hi); have hcz85_0 : w84.cell? ⟨gb102, 0, none⟩ = some (.int .i64 0) := bc BK102 0; have hcz85_1 : w84.cell? ⟨gb102, 1, none⟩ = some (.int .i64 0) := bc BK102 1; have hcz85_2 : w84.cell? ⟨gb102, 2, none⟩ = some (.string (⟨#[]⟩ : ByteArray)) := bc BK102 2; have hcz85_3 : w84.cell? ⟨gb102, 3, none⟩ = some (.string (⟨#[]⟩ : ByteArray)) := bc BK102 3; have hfz85_0 := blk_frozen BK102.out 0; have hfz85_1 := blk_frozen BK102.out 1; have hfz85_2 := blk_frozen BK102.out 2; have hfz85_3 := blk_frozen BK102.out 3))
                      refine bodyPost_ret (results_cell_row rfl _ _ gb102 35 #[.int .i64 t126, .int .i64 t127, .string t128, .string t129] (0, 0) _ rfl bkp Tryd.underlying35 rfl (by kernel_rfl)) rfl ?_
                      exact ⟨er, bh⟩
                  · rw [if_neg c76] at H
                    have c76b0 : (a0_0 == 7) = false := beq_eq_false_iff_ne.mpr c76
                    have c76b1 : (a0_0 != 7) = true := bne_iff_ne.mpr c76
                    by_cases c86 : a1 = 10
                    · rw [if_pos c86] at H
                      have c86b0 : (a1 == 10) = true := beq_iff_eq.mpr c86
                      have c86b1 : (a1 != 10) = false := bne_eq_false_iff_eq.mpr c86
                      clear c86
                      simp only [Option.some.injEq, Prod.mk.injEq] at H
                      obtain ⟨rfl, rfl, rfl, rfl⟩ := H
                      have hnb87 := NB101_102.out
                      have hnc87 := NB102_101.out
                      have hcz88_0 : wc.cell? ⟨gb101, 0, none⟩ = some (.int .i64 a0_0) := bc BK101 0
                      have hcz88_1 : wc.cell? ⟨gb101, 1, none⟩ = some (.int .i64 a0_1) := bc BK101 1
                      have hcz88_2 : wc.cell? ⟨gb101, 2, none⟩ = some (.string a0_2) := bc BK101 2
                      have hcz88_3 : wc.cell? ⟨gb101, 3, none⟩ = some (.string a0_3) := bc BK101 3
                      have hfz88_0 := blk_frozen BK101.out 0
                      have hfz88_1 := blk_frozen BK101.out 1
                      have hfz88_2 := blk_frozen BK101.out 2
                      have hfz88_3 := blk_frozen BK101.out 3
                      have hcz89_0 : wc.cell? ⟨gb102, 0, none⟩ = some (.int .i64 0) := bc BK102 0
                      have hcz89_1 : wc.cell? ⟨gb102, 1, none⟩ = some (.int .i64 0) := bc BK102 1
                      have hcz89_2 : wc.cell? ⟨gb102, 2, none⟩ = some (.string (⟨#[]⟩ : ByteArray)) := bc BK102 2
                      have hcz89_3 : wc.cell? ⟨gb102, 3, none⟩ = some (.string (⟨#[]⟩ : ByteArray)) := bc BK102 3
                      have hfz89_0 := blk_frozen BK102.out 0
                      have hfz89_1 := blk_frozen BK102.out 1
                      have hfz89_2 := blk_frozen BK102.out 2
                      have hfz89_3 := blk_frozen BK102.out 3
                      go_wp2
                      refine bodyPost_ret (results_cell_row rfl _ _ gb102 35 #[.int .i64 1, .int .i64 a0_1, .string a0_2, .string a0_3] (0, 0) _ rfl bkp Tryd.underlying35 rfl (by kernel_rfl)) rfl ?_
                      exact ⟨er, bh⟩
                    · rw [if_neg c86] at H
                      have c86b0 : (a1 == 10) = false := beq_eq_false_iff_ne.mpr c86
                      have c86b1 : (a1 != 10) = true := bne_iff_ne.mpr c86
                      replace H := Option.bind_eq_some_iff.mp H
                      obtain ⟨⟨t130, t131, t132, t133⟩, A900, H⟩ := H
                      replace H : (some (t130, t131, t132, t133)) = some (r1, r2, r3, r4) := H
                      have A90 := Aside0.mk A900
                      clear A900
                      simp only [Option.some.injEq, Prod.mk.injEq] at H
                      obtain ⟨rfl, rfl, rfl, rfl⟩ := H
                      have hnb91 := NB101_102.out
                      have hnc91 := NB102_101.out
                      have hcz92_0 : wc.cell? ⟨gb101, 0, none⟩ = some (.int .i64 a0_0) := bc BK101 0
                      have hcz92_1 : wc.cell? ⟨gb101, 1, none⟩ = some (.int .i64 a0_1) := bc BK101 1
                      have hcz92_2 : wc.cell? ⟨gb101, 2, none⟩ = some (.string a0_2) := bc BK101 2
                      have hcz92_3 : wc.cell? ⟨gb101, 3, none⟩ = some (.string a0_3) := bc BK101 3
                      have hfz92_0 := blk_frozen BK101.out 0
                      have hfz92_1 := blk_frozen BK101.out 1
                      have hfz92_2 := blk_frozen BK101.out 2
                      have hfz92_3 := blk_frozen BK101.out 3
                      go_wp2_with (first | ((with_reducible refine gate_callee (f := 76) rfl ?_); refine goesL_ (some 51) rfl rfl Tryd.func76 (by kernel_rfl) rfl #[.agg #[.int .i64 a0_0, .int .i64 a0_1, .string a0_2, .string a0_3]] rfl mc ?_; (with_reducible refine (impl_Chunker_bad.calls a0_0 a0_1 a0_2 a0_3 t130 t131 t132 t133 _ A90.out).mono ?_); rintro e w93 ⟨rfl, hb⟩; refine ⟨_, rfl, ?_⟩; replace BK101 := Aside0.mk (blk_below (g := gb101) (o := .cells #[.int .i64 a0_0, .int .i64 a0_1, .string a0_2, .string a0_3] 35 (0, 0)) bk hb); replace BK102 := Aside0.mk (blk_below (g := gb102) (o := .cells #[.int .i64 0, .int .i64 0, .string (⟨#[]⟩ : ByteArray), .string (⟨#[]⟩ : ByteArray)] 35 (0, 0)) bk hb); replace HB := Aside0.mk (below_step bh hb); (try clear hb); (try clear hb2); (try clear hk); (try clear hi); have hcz94_0 : w93.cell? ⟨gb102, 0, none⟩ = some (.int .i64 0) := bc BK102 0; have hcz94_1 : w93.cell? ⟨gb102, 1, none⟩ = some (.int .i64 0) := bc BK102 1; have hcz94_2 : w93.cell? ⟨gb102, 2, none⟩ = some (.string (⟨#[]⟩ : ByteArray)) := bc BK102 2; have hcz94_3 : w93.cell? ⟨gb102, 3, none⟩ = some (.string (⟨#[]⟩ : ByteArray)) := bc BK102 3; have hfz94_0 := blk_frozen BK102.out 0; have hfz94_1 := blk_frozen BK102.out 1; have hfz94_2 := blk_frozen BK102.out 2; have hfz94_3 := blk_frozen BK102.out 3))
                      refine bodyPost_ret (results_cell_row rfl _ _ gb102 35 #[.int .i64 t130, .int .i64 t131, .string t132, .string t133] (0, 0) _ rfl bkp Tryd.underlying35 rfl (by kernel_rfl)) rfl ?_
                      exact ⟨er, bh⟩

end Go.Proofs.YtfbgpjhnjdhpcaaDoor.P
