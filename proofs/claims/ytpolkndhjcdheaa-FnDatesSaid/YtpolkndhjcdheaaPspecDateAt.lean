/- Functions of the Go program as Lean functions, and proofs that each Go function comes to its Lean function's answers; conditions: those that each theorem states. Written by this session's program hprint.py, which drives the kit's printer. -/
import Derived.Test.YtpolkndhjcdheaaP0
import Derived.Test.YtpolkndhjcdheaaPspecl1In
import Derived.Test.YtpolkndhjcdheaaPspecl2Month
import Derived.Test.YtpolkndhjcdheaaPspecl2Year
import Derived.Test.YtpolkndhjcdheaaXA
namespace Go.Proofs.Ytpolkndhjcdheaa.P
open Go.RowKit Go.Proofs.YtpolkndhjcdheaaW.PrintWords Go.Proofs.YtpolkndhjcdheaaW.PrintLast Go.Proofs.YtpolkndhjcdheaaW.PrintMore
attribute [local go_sem] max2_int min2_int max_two min_two max_three min_three max_four min_four   -- for this text's walks alone
set_option linter.unusedVariables false
set_option linter.unusedSimpArgs false

/-! ### spec_DateAt: function 10 -/
mutual
def spec_DateAt.l0 : Nat → Int → Int → Int → Option (Int × Int × Int × Int × Int × Int)
  | 0, _, _, _ => none
  | k + 1, x3, x4, x5 => (spec_l2Year.f (wrap64 (x5 + 1))).bind fun t103 => (if t103 ≤ x3 then (spec_DateAt.l0 k x3 x4 (wrap64 (x5 + 1))) else ((spec_l2Year.f x5).bind fun t104 => (spec_DateAt.l1 k (wrap64 (x3 - t104)) x4 x5 1)))
def spec_DateAt.l1 : Nat → Int → Int → Int → Int → Option (Int × Int × Int × Int × Int × Int)
  | 0, _, _, _, _ => none
  | k + 1, x3, x4, x5, x6 => (spec_l2Month.f x5 x6).bind fun t105 => (if x3 ≥ t105 then ((spec_l2Month.f x5 x6).bind fun t106 => (spec_DateAt.l1 k (wrap64 (x3 - t106)) x4 x5 (wrap64 (x6 + 1)))) else (some (x5, x6, wrap64 (x3 + 1), wrap64 (Int.tdiv x4 3600), Int.tmod (wrap64 (Int.tdiv x4 60)) 60, Int.tmod x4 60)))
end
def spec_DateAt.f (k : Nat) (a0 : Int) : Option (Int × Int × Int × Int × Int × Int) := (spec_l1In.f a0 0 253402300799).bind fun t102 => (if t102 = true then (spec_DateAt.l0 k (wrap64 (Int.tdiv a0 86400)) (Int.tmod a0 86400) (wrap64 (1970 + (wrap64 (Int.tdiv (wrap64 (Int.tdiv a0 86400)) 366))))) else (some (0, 0, 0, 0, 0, 0)))
theorem spec_DateAt.mono_l : ∀ k, (∀ y0 y1 y2, LeO (spec_DateAt.l0 k y0 y1 y2) (spec_DateAt.l0 (k + 1) y0 y1 y2)) ∧ (∀ y0 y1 y2 y3, LeO (spec_DateAt.l1 k y0 y1 y2 y3) (spec_DateAt.l1 (k + 1) y0 y1 y2 y3))
  | 0 => ⟨fun _ _ _ r h => by simp [spec_DateAt.l0] at h, fun _ _ _ _ r h => by simp [spec_DateAt.l1] at h⟩
  | k + 1 => by
    obtain ⟨ih0, ih1⟩ := spec_DateAt.mono_l k
    refine ⟨?_, ?_⟩
    · intro y0 y1 y2
      unfold spec_DateAt.l0
      repeat' first
      | (with_reducible exact ih0 _ _ _)
      | (with_reducible exact ih1 _ _ _ _)
      | (with_reducible exact LeO.refl _)
      | (with_reducible exact LeO.none _)
      | (with_reducible refine LeO.ite ?_ ?_)
      | (with_reducible refine LeO.bind ?_ (fun _ => ?_))
      | exact ih0 _ _ _
      | exact ih1 _ _ _ _
      | exact LeO.none _
      | refine LeO.ite ?_ ?_
      | refine LeO.bind ?_ (fun _ => ?_)
    · intro y0 y1 y2 y3
      unfold spec_DateAt.l1
      repeat' first
      | (with_reducible exact ih0 _ _ _)
      | (with_reducible exact ih1 _ _ _ _)
      | (with_reducible exact LeO.refl _)
      | (with_reducible exact LeO.none _)
      | (with_reducible refine LeO.ite ?_ ?_)
      | (with_reducible refine LeO.bind ?_ (fun _ => ?_))
      | exact ih0 _ _ _
      | exact ih1 _ _ _ _
      | exact LeO.none _
      | refine LeO.ite ?_ ?_
      | refine LeO.bind ?_ (fun _ => ?_)
theorem spec_DateAt.mono : ∀ a0 k, LeO (spec_DateAt.f k a0) (spec_DateAt.f (k + 1) a0) := by
  intro a0 k
  obtain ⟨ih0, ih1⟩ := spec_DateAt.mono_l k
  unfold spec_DateAt.f
  repeat' first
      | (with_reducible exact ih0 _ _ _)
      | (with_reducible exact ih1 _ _ _ _)
      | (with_reducible exact LeO.refl _)
      | (with_reducible exact LeO.none _)
      | (with_reducible refine LeO.ite ?_ ?_)
      | (with_reducible refine LeO.bind ?_ (fun _ => ?_))
      | exact ih0 _ _ _
      | exact ih1 _ _ _ _
      | exact LeO.none _
      | refine LeO.ite ?_ ?_
      | refine LeO.bind ?_ (fun _ => ?_)
set_option maxHeartbeats 8000000 in
set_option maxRecDepth 100000 in
theorem spec_DateAt.calls (k : Nat) (a0 : Int) (r1 : Int) (r2 : Int) (r3 : Int) (r4 : Int) (r5 : Int) (r6 : Int) (w : World) (h : spec_DateAt.f k a0 = some (r1, r2, r3, r4, r5, r6)) :
    Calls Try.prog 10 #[.int .i64 a0] w fun e w' => e = .returned (.agg #[.int .i64 r1, .int .i64 r2, .int .i64 r3, .int .i64 r4, .int .i64 r5, .int .i64 r6]) ∧ Below w.heap.size w w' := by
  have hu25 := Try.underlying25
  have HB := Aside0.mk (Below.refl w.heap.size w)
  have H : ((spec_l1In.f a0 0 253402300799).bind fun t102 => (if t102 = true then (spec_DateAt.l0 k (wrap64 (Int.tdiv a0 86400)) (Int.tmod a0 86400) (wrap64 (1970 + (wrap64 (Int.tdiv (wrap64 (Int.tdiv a0 86400)) 366))))) else (some (0, 0, 0, 0, 0, 0)))) = some (r1, r2, r3, r4, r5, r6) := h
  clear h
  obtain ⟨q_, hq_⟩ : ∃ q_ : Int, Int.tmod a0 86400 = q_ := ⟨_, rfl⟩
  rw [hq_] at H
  obtain ⟨t102, A20, H⟩ := Option.bind_eq_some_iff.mp H
  try dsimp only at H
  have A2 := Aside0.mk A20
  clear A20
  by_cases c3 : t102 = true
  · subst c3
    rw [if_pos rfl] at H
    have H' := Aside0.mk H
    clear H
    go_enter Try.func10, Try.ntmps10
    go_wp2_with (first | ((with_reducible refine gate_dst (N := 2) rfl ?_); refine bx 2 #[.int .i64 0, .int .i64 0, .int .i64 0, .int .i64 0, .int .i64 0, .int .i64 0] 25 ?_; intro gb101 hg w4 hbox hb; have BK101 := Aside0.mk (hbox); have GW101 := Aside0.mk (bz hg); have GE101 := Aside0.mk (bz hg); replace HB := Aside0.mk (below_step bh hb); clear hb hbox hg) | ((with_reducible refine gate_callee (f := 28) rfl ?_); refine goesL_ (some 8) rfl rfl Try.func28 (by kernel_rfl) rfl #[.int .i64 a0, .int .i64 0, .int .i64 253402300799] rfl mc ?_; (with_reducible refine (spec_l1In.calls a0 0 253402300799 true _ A2.out).mono ?_); rintro e w' ⟨rfl, ⟨nd, rfl⟩⟩; refine ⟨_, rfl, ?_⟩))
    go_loopg [5] k (fun kq v5 w' => ∃ (x5_1 : Int), v5 = .int .i64 x5_1 ∧ Aside0 (spec_DateAt.l0 kq (wrap64 (Int.tdiv a0 86400)) (q_) x5_1 = some (r1, r2, r3, r4, r5, r6)) ∧ Aside0 (kq ≤ k) ∧ Aside0 (w'.heap[gb101]? = some (.cells #[.int .i64 0, .int .i64 0, .int .i64 0, .int .i64 0, .int .i64 0, .int .i64 0] 25 (0, 0))) ∧ Aside0 (Below w.heap.size w w'))
    case atStart => exact ⟨(wrap64 (1970 + (wrap64 (Int.tdiv (wrap64 (Int.tdiv a0 86400)) 366)))), (by first | rfl | (simp; done) | (simp [*]; done)), H', ⟨Nat.le_refl _⟩, ⟨by (with_reducible repeat (first | refine blk_drewN ?_ _ | refine blk_drew ?_ | refine blk_alloc ?_ _)); exact BK101.out⟩, ⟨bh⟩⟩
    case round =>
      clear H'
      try clear c1
      try clear c2
      try clear p2
      try clear c3
      obtain ⟨x5_1, rfl, HA, HK1, BK101, HB⟩ := hrel
      cases gk with
      | zero => exact absurd HA.out (by simp [spec_DateAt.l0])
      | succ k1 =>
        have H := HA.out
        clear HA
        simp only [spec_DateAt.l0] at H
        obtain ⟨t103, A50, H⟩ := Option.bind_eq_some_iff.mp H
        try dsimp only at H
        have A5 := Aside0.mk A50
        clear A50
        by_cases c6 : t103 ≤ (wrap64 (Int.tdiv a0 86400))
        · rw [if_pos c6] at H
          have c6b0 : decide (t103 ≤ (wrap64 (Int.tdiv a0 86400))) = true := decide_eq_true c6
          clear c6
          have H' := Aside0.mk H
          clear H
          go_wp2_with (first | ((with_reducible refine gate_callee (f := 29) rfl ?_); refine goesL_ (some 20) rfl rfl Try.func29 (by kernel_rfl) rfl #[.int .i64 (wrap64 (x5_1 + 1))] rfl mc ?_; (with_reducible refine (spec_l2Year.calls (wrap64 (x5_1 + 1)) t103 _ A5.out).mono ?_); rintro e w' ⟨rfl, ⟨nd, rfl⟩⟩; refine ⟨_, rfl, ?_⟩))
          go_roundg k1
          case measure => have := HK1.out; omega
          case rel => exact ⟨(wrap64 (x5_1 + 1)), (by first | rfl | (simp; done) | (simp [*]; done)), H', ⟨by have := HK1.out; omega⟩, ⟨by (with_reducible repeat (first | refine blk_drewN ?_ _ | refine blk_drew ?_ | refine blk_alloc ?_ _)); exact BK101.out⟩, ⟨bh⟩⟩
        · rw [if_neg c6] at H
          have c6b0 : decide (t103 ≤ (wrap64 (Int.tdiv a0 86400))) = false := decide_eq_false c6
          clear c6
          obtain ⟨t104, A70, H⟩ := Option.bind_eq_some_iff.mp H
          try dsimp only at H
          have A7 := Aside0.mk A70
          clear A70
          have H' := Aside0.mk H
          clear H
          go_wp2_with (first | ((with_reducible refine gate_callee (f := 29) rfl ?_); refine goesL_ (some 20) rfl rfl Try.func29 (by kernel_rfl) rfl #[.int .i64 (wrap64 (x5_1 + 1))] rfl mc ?_; (with_reducible refine (spec_l2Year.calls (wrap64 (x5_1 + 1)) t103 _ A5.out).mono ?_); rintro e w' ⟨rfl, ⟨nd, rfl⟩⟩; refine ⟨_, rfl, ?_⟩) | ((with_reducible refine gate_callee (f := 29) rfl ?_); refine goesL_ (some 27) rfl rfl Try.func29 (by kernel_rfl) rfl #[.int .i64 x5_1] rfl mc ?_; (with_reducible refine (spec_l2Year.calls x5_1 t104 _ A7.out).mono ?_); rintro e w' ⟨rfl, ⟨nd, rfl⟩⟩; refine ⟨_, rfl, ?_⟩))
          go_loopg [3, 6] k1 (fun kq v3 v6 w' => ∃ (x3_2 : Int) (x6_2 : Int), v3 = .int .i64 x3_2 ∧ v6 = .int .i64 x6_2 ∧ Aside0 (spec_DateAt.l1 kq x3_2 (q_) x5_1 x6_2 = some (r1, r2, r3, r4, r5, r6)) ∧ Aside0 (kq ≤ k1) ∧ Aside0 (w'.heap[gb101]? = some (.cells #[.int .i64 0, .int .i64 0, .int .i64 0, .int .i64 0, .int .i64 0, .int .i64 0] 25 (0, 0))) ∧ Aside0 (Below w.heap.size w w'))
          case atStart => exact ⟨(wrap64 ((wrap64 (Int.tdiv a0 86400)) - t104)), (1), (by first | rfl | (simp; done) | (simp [*]; done)), (by first | rfl | (simp; done) | (simp [*]; done)), H', ⟨Nat.le_refl _⟩, ⟨by (with_reducible repeat (first | refine blk_drewN ?_ _ | refine blk_drew ?_ | refine blk_alloc ?_ _)); exact BK101.out⟩, ⟨bh⟩⟩
          case round =>
            clear H'
            try clear c1
            try clear c2
            try clear p2
            try clear c3
            try clear c6
            try clear c6b0
            try clear p6
            try clear p2
            obtain ⟨x3_2, x6_2, rfl, rfl, HA, HK2, BK101, HB⟩ := hrel
            cases gk with
            | zero => exact absurd HA.out (by simp [spec_DateAt.l1])
            | succ k2 =>
              have H := HA.out
              clear HA
              simp only [spec_DateAt.l1] at H
              obtain ⟨t105, A80, H⟩ := Option.bind_eq_some_iff.mp H
              try dsimp only at H
              have A8 := Aside0.mk A80
              clear A80
              by_cases c9 : x3_2 ≥ t105
              · rw [if_pos c9] at H
                have c9b0 : decide (t105 ≤ x3_2) = true := decide_eq_true c9
                clear c9
                obtain ⟨t106, A100, H⟩ := Option.bind_eq_some_iff.mp H
                try dsimp only at H
                have A10 := Aside0.mk A100
                clear A100
                have H' := Aside0.mk H
                clear H
                go_wp2_with (first | ((with_reducible refine gate_callee (f := 30) rfl ?_); refine goesL_ (some 32) rfl rfl Try.func30 (by kernel_rfl) rfl #[.int .i64 x5_1, .int .i64 x6_2] rfl mc ?_; (with_reducible refine (spec_l2Month.calls x5_1 x6_2 t105 _ A8.out).mono ?_); rintro e w11 ⟨rfl, hb⟩; refine ⟨_, rfl, ?_⟩; replace BK101 := Aside0.mk (blk_below (g := gb101) (o := .cells #[.int .i64 0, .int .i64 0, .int .i64 0, .int .i64 0, .int .i64 0, .int .i64 0] 25 (0, 0)) bk hb); replace HB := Aside0.mk (below_step bh hb); (try clear hb); (try clear hb2); (try clear hk); (try clear hi)) | ((with_reducible refine gate_callee (f := 30) rfl ?_); refine goesL_ (some 37) rfl rfl Try.func30 (by kernel_rfl) rfl #[.int .i64 x5_1, .int .i64 x6_2] rfl mc ?_; (with_reducible refine (spec_l2Month.calls x5_1 x6_2 t106 _ A10.out).mono ?_); rintro e w12 ⟨rfl, hb⟩; refine ⟨_, rfl, ?_⟩; replace BK101 := Aside0.mk (blk_below (g := gb101) (o := .cells #[.int .i64 0, .int .i64 0, .int .i64 0, .int .i64 0, .int .i64 0, .int .i64 0] 25 (0, 0)) bk hb); replace HB := Aside0.mk (below_step bh hb); (try clear hb); (try clear hb2); (try clear hk); (try clear hi)))
                go_roundg k2
                case measure => have := HK1.out; have := HK2.out; omega
                case rel => exact ⟨(wrap64 (x3_2 - t106)), (wrap64 (x6_2 + 1)), (by first | rfl | (simp; done) | (simp [*]; done)), (by first | rfl | (simp; done) | (simp [*]; done)), H', ⟨by have := HK1.out; have := HK2.out; omega⟩, ⟨by (with_reducible repeat (first | refine blk_drewN ?_ _ | refine blk_drew ?_ | refine blk_alloc ?_ _)); exact BK101.out⟩, ⟨bh⟩⟩
              · rw [if_neg c9] at H
                have c9b0 : decide (t105 ≤ x3_2) = false := decide_eq_false c9
                clear c9
                simp only [Option.some.injEq, Prod.mk.injEq] at H
                obtain ⟨rfl, rfl, rfl, rfl, rfl, rfl⟩ := H
                go_wp2_with (first | ((with_reducible refine gate_callee (f := 30) rfl ?_); refine goesL_ (some 32) rfl rfl Try.func30 (by kernel_rfl) rfl #[.int .i64 x5_1, .int .i64 x6_2] rfl mc ?_; (with_reducible refine (spec_l2Month.calls x5_1 x6_2 t105 _ A8.out).mono ?_); rintro e w13 ⟨rfl, hb⟩; refine ⟨_, rfl, ?_⟩; replace BK101 := Aside0.mk (blk_below (g := gb101) (o := .cells #[.int .i64 0, .int .i64 0, .int .i64 0, .int .i64 0, .int .i64 0, .int .i64 0] 25 (0, 0)) bk hb); replace HB := Aside0.mk (below_step bh hb); (try clear hb); (try clear hb2); (try clear hk); (try clear hi); have hcz14_0 : w13.cell? ⟨gb101, 0, none⟩ = some (.int .i64 0) := bc BK101 0; have hcz14_1 : w13.cell? ⟨gb101, 1, none⟩ = some (.int .i64 0) := bc BK101 1; have hcz14_2 : w13.cell? ⟨gb101, 2, none⟩ = some (.int .i64 0) := bc BK101 2; have hcz14_3 : w13.cell? ⟨gb101, 3, none⟩ = some (.int .i64 0) := bc BK101 3; have hcz14_4 : w13.cell? ⟨gb101, 4, none⟩ = some (.int .i64 0) := bc BK101 4; have hcz14_5 : w13.cell? ⟨gb101, 5, none⟩ = some (.int .i64 0) := bc BK101 5; have hfz14_0 := blk_frozen BK101.out 0; have hfz14_1 := blk_frozen BK101.out 1; have hfz14_2 := blk_frozen BK101.out 2; have hfz14_3 := blk_frozen BK101.out 3; have hfz14_4 := blk_frozen BK101.out 4; have hfz14_5 := blk_frozen BK101.out 5))
                refine bodyPost_ret (results_cell_row rfl _ _ gb101 25 #[.int .i64 x5_1, .int .i64 x6_2, .int .i64 (wrap64 (x3_2 + 1)), .int .i64 (wrap64 (Int.tdiv (q_) 3600)), .int .i64 (Int.tmod (wrap64 (Int.tdiv (q_) 60)) 60), .int .i64 (Int.tmod (q_) 60)] (0, 0) _ rfl bkp Try.underlying25 rfl (by kernel_rfl)) rfl ?_
                exact ⟨er, bh⟩
  · replace c3 := Bool.eq_false_iff.mpr c3
    subst c3
    have H1 : (some (0, 0, 0, 0, 0, 0)) = some (r1, r2, r3, r4, r5, r6) := by rw [if_neg (show ¬ (false = true) by decide)] at H; exact H
    clear H
    have H := H1
    clear H1
    simp only [Option.some.injEq, Prod.mk.injEq] at H
    obtain ⟨rfl, rfl, rfl, rfl, rfl, rfl⟩ := H
    go_enter Try.func10, Try.ntmps10
    go_wp2_with (first | ((with_reducible refine gate_dst (N := 2) rfl ?_); refine bx 2 #[.int .i64 0, .int .i64 0, .int .i64 0, .int .i64 0, .int .i64 0, .int .i64 0] 25 ?_; intro gb101 hg w15 hbox hb; have BK101 := Aside0.mk (hbox); have GW101 := Aside0.mk (bz hg); have GE101 := Aside0.mk (bz hg); replace HB := Aside0.mk (below_step bh hb); clear hb hbox hg) | ((with_reducible refine gate_callee (f := 28) rfl ?_); refine goesL_ (some 8) rfl rfl Try.func28 (by kernel_rfl) rfl #[.int .i64 a0, .int .i64 0, .int .i64 253402300799] rfl mc ?_; (with_reducible refine (spec_l1In.calls a0 0 253402300799 false _ A2.out).mono ?_); rintro e w' ⟨rfl, ⟨nd, rfl⟩⟩; refine ⟨_, rfl, ?_⟩; (try (rw [drewN_self w15]; generalize hq_ : World.drewN w15 _ = w15; have n0_ : Aside0 (w15.heap[gb101]? = some (.cells #[.int .i64 0, .int .i64 0, .int .i64 0, .int .i64 0, .int .i64 0, .int .i64 0] 25 (0, 0))) := ⟨by rw [← hq_]; exact bk⟩; have n1_ : Aside0 (Below w.heap.size w w15) := ⟨by rw [← hq_]; exact bh⟩; clear BK101 HB hq_; have BK101 := n0_; have HB := n1_; clear n0_ n1_)); have hcz16_0 : w15.cell? ⟨gb101, 0, none⟩ = some (.int .i64 0) := bc BK101 0; have hcz16_1 : w15.cell? ⟨gb101, 1, none⟩ = some (.int .i64 0) := bc BK101 1; have hcz16_2 : w15.cell? ⟨gb101, 2, none⟩ = some (.int .i64 0) := bc BK101 2; have hcz16_3 : w15.cell? ⟨gb101, 3, none⟩ = some (.int .i64 0) := bc BK101 3; have hcz16_4 : w15.cell? ⟨gb101, 4, none⟩ = some (.int .i64 0) := bc BK101 4; have hcz16_5 : w15.cell? ⟨gb101, 5, none⟩ = some (.int .i64 0) := bc BK101 5; have hfz16_0 := blk_frozen BK101.out 0; have hfz16_1 := blk_frozen BK101.out 1; have hfz16_2 := blk_frozen BK101.out 2; have hfz16_3 := blk_frozen BK101.out 3; have hfz16_4 := blk_frozen BK101.out 4; have hfz16_5 := blk_frozen BK101.out 5))
    refine bodyPost_ret (results_cell_row rfl _ _ gb101 25 #[.int .i64 0, .int .i64 0, .int .i64 0, .int .i64 0, .int .i64 0, .int .i64 0] (0, 0) _ rfl bkp Try.underlying25 rfl (by kernel_rfl)) rfl ?_
    exact ⟨er, bh⟩

end Go.Proofs.Ytpolkndhjcdheaa.P
