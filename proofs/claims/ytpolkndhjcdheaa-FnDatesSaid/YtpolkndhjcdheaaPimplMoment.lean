/- Functions of the Go program as Lean functions, and proofs that each Go function comes to its Lean function's answers; conditions: those that each theorem states. Written by this session's program hprint.py, which drives the kit's printer. -/
import Derived.Test.YtpolkndhjcdheaaP0
import Derived.Test.YtpolkndhjcdheaaPimplDateOk
import Derived.Test.YtpolkndhjcdheaaPimpldays
import Derived.Test.YtpolkndhjcdheaaXA
namespace Go.Proofs.Ytpolkndhjcdheaa.P
open Go.RowKit Go.Proofs.YtpolkndhjcdheaaW.PrintWords Go.Proofs.YtpolkndhjcdheaaW.PrintLast Go.Proofs.YtpolkndhjcdheaaW.PrintMore
attribute [local go_sem] max2_int min2_int max_two min_two max_three min_three max_four min_four   -- for this text's walks alone
set_option linter.unusedVariables false
set_option linter.unusedSimpArgs false

/-! ### impl_Moment: function 6 -/
def impl_Moment.f (k : Nat) (a0_0 : Int) (a0_1 : Int) (a0_2 : Int) (a0_3 : Int) (a0_4 : Int) (a0_5 : Int) : Option (Int) := (impl_DateOk.f k a0_0 a0_1 a0_2 a0_3 a0_4 a0_5).bind fun t102 => (if t102 = true then ((impl_days.f k a0_0 a0_1 a0_2 a0_3 a0_4 a0_5).bind fun t103 => (some (wrap64 ((wrap64 ((wrap64 ((wrap64 (t103 * 86400)) + (wrap64 (a0_3 * 3600)))) + (wrap64 (a0_4 * 60)))) + a0_5)))) else (some (-1)))
theorem impl_Moment.mono : ∀ a0 a1 a2 a3 a4 a5 k, LeO (impl_Moment.f k a0 a1 a2 a3 a4 a5) (impl_Moment.f (k + 1) a0 a1 a2 a3 a4 a5) := by
  intro a0 a1 a2 a3 a4 a5 k
  unfold impl_Moment.f
  repeat' first
      | (with_reducible exact impl_DateOk.mono _ _ _ _ _ _ _)
      | (with_reducible exact impl_days.mono _ _ _ _ _ _ _)
      | (with_reducible exact LeO.refl _)
      | (with_reducible exact LeO.none _)
      | (with_reducible refine LeO.ite ?_ ?_)
      | (with_reducible refine LeO.bind ?_ (fun _ => ?_))
      | exact impl_DateOk.mono _ _ _ _ _ _ _
      | exact impl_days.mono _ _ _ _ _ _ _
      | exact LeO.none _
      | refine LeO.ite ?_ ?_
      | refine LeO.bind ?_ (fun _ => ?_)
def impl_Moment.T3 : Bool × List (List Nat × List Nat) := (true, [([], []), ([0], [0]), ([1], [1]), ([], []), ([3], [3]), ([4], [4]), ([2, 5], [2, 5]), ([], []), ([7], [7]), ([8], [8]), ([6, 9], [6, 9]), ([], []), ([11], [11]), ([10, 12], [10, 12]), ([13, 1, 0, 1, 2, 3, 4, 5, 6, 7, 8, 9, 10, 11, 12, 13], [13])])
def impl_Moment.B3 : List Nat := [0, 1, 3, 0, 8, 24, 63, 0, 128, 384, 1023, 0, 2048, 8191, 16383]
theorem impl_Moment.tab3 : rtab .any (opsOf Try.f6 3) = impl_Moment.T3 := by kernel_rfl
theorem impl_Moment.bits3 : waitsOk impl_Moment.T3.2 impl_Moment.B3 = true := by kernel_rfl
set_option maxHeartbeats 8000000 in
set_option maxRecDepth 100000 in
theorem impl_Moment.calls (k : Nat) (a0_0 : Int) (a0_1 : Int) (a0_2 : Int) (a0_3 : Int) (a0_4 : Int) (a0_5 : Int) (r : Int) (w : World) (h : impl_Moment.f k a0_0 a0_1 a0_2 a0_3 a0_4 a0_5 = some r) :
    Calls Try.prog 6 #[.agg #[.int .i64 a0_0, .int .i64 a0_1, .int .i64 a0_2, .int .i64 a0_3, .int .i64 a0_4, .int .i64 a0_5]] w fun e w' => e = .returned (.int .i64 r) ∧ Below w.heap.size w w' := by
  have hu25 := Try.underlying25
  have HB := Aside0.mk (Below.refl w.heap.size w)
  have H : ((impl_DateOk.f k a0_0 a0_1 a0_2 a0_3 a0_4 a0_5).bind fun t102 => (if t102 = true then ((impl_days.f k a0_0 a0_1 a0_2 a0_3 a0_4 a0_5).bind fun t103 => (some (wrap64 ((wrap64 ((wrap64 ((wrap64 (t103 * 86400)) + (wrap64 (a0_3 * 3600)))) + (wrap64 (a0_4 * 60)))) + a0_5)))) else (some (-1)))) = some r := h
  clear h
  obtain ⟨t102, A20, H⟩ := Option.bind_eq_some_iff.mp H
  try dsimp only at H
  have A2 := Aside0.mk A20
  clear A20
  by_cases c3 : t102 = true
  · subst c3
    rw [if_pos rfl] at H
    obtain ⟨t103, A40, H⟩ := Option.bind_eq_some_iff.mp H
    try dsimp only at H
    have A4 := Aside0.mk A40
    clear A40
    obtain rfl := Option.some.inj H
    go_enter Try.func6, Try.ntmps6
    try go_wp2_with (first | ((with_reducible refine gate_dst (N := 1) rfl ?_); refine bx 1 #[.int .i64 a0_0, .int .i64 a0_1, .int .i64 a0_2, .int .i64 a0_3, .int .i64 a0_4, .int .i64 a0_5] 25 ?_; intro gb101 hg w5 hbox hb; have BK101 := Aside0.mk (hbox); have GW101 := Aside0.mk (bz hg); have GE101 := Aside0.mk (bz hg); replace HB := Aside0.mk (below_step bh hb); clear hb hbox hg; have hcz6_0 : w5.cell? ⟨gb101, 0, none⟩ = some (.int .i64 a0_0) := bc BK101 0; have hcz6_1 : w5.cell? ⟨gb101, 1, none⟩ = some (.int .i64 a0_1) := bc BK101 1; have hcz6_2 : w5.cell? ⟨gb101, 2, none⟩ = some (.int .i64 a0_2) := bc BK101 2; have hcz6_3 : w5.cell? ⟨gb101, 3, none⟩ = some (.int .i64 a0_3) := bc BK101 3; have hcz6_4 : w5.cell? ⟨gb101, 4, none⟩ = some (.int .i64 a0_4) := bc BK101 4; have hcz6_5 : w5.cell? ⟨gb101, 5, none⟩ = some (.int .i64 a0_5) := bc BK101 5; have hfz6_0 := blk_frozen BK101.out 0; have hfz6_1 := blk_frozen BK101.out 1; have hfz6_2 := blk_frozen BK101.out 2; have hfz6_3 := blk_frozen BK101.out 3; have hfz6_4 := blk_frozen BK101.out 4; have hfz6_5 := blk_frozen BK101.out 5) | ((with_reducible refine gate_callee (f := 15) rfl ?_); refine goesL_ (some 4) rfl rfl Try.func15 (by kernel_rfl) rfl #[.agg #[.int .i64 a0_0, .int .i64 a0_1, .int .i64 a0_2, .int .i64 a0_3, .int .i64 a0_4, .int .i64 a0_5]] rfl mc ?_; (with_reducible refine (impl_DateOk.calls k a0_0 a0_1 a0_2 a0_3 a0_4 a0_5 true _ A2.out).mono ?_); rintro e w7 ⟨rfl, hb⟩; refine ⟨_, rfl, ?_⟩; replace BK101 := Aside0.mk (blk_below (g := gb101) (o := .cells #[.int .i64 a0_0, .int .i64 a0_1, .int .i64 a0_2, .int .i64 a0_3, .int .i64 a0_4, .int .i64 a0_5] 25 (0, 0)) bk hb); replace HB := Aside0.mk (below_step bh hb); (try clear hb); (try clear hb2); (try clear hk); (try clear hi)))
    replace BK101 := Aside0.mk (blk_drew BK101.out)
    replace HB := Aside0.mk (below_drew1 HB.out)
    refine start_ (n := 15) (S := fun w' => w'.cell? ⟨gb101, 0, none⟩ = some (.int .i64 a0_0) ∧ w'.cell? ⟨gb101, 1, none⟩ = some (.int .i64 a0_1) ∧ w'.cell? ⟨gb101, 2, none⟩ = some (.int .i64 a0_2) ∧ w'.cell? ⟨gb101, 3, none⟩ = some (.int .i64 a0_3) ∧ w'.cell? ⟨gb101, 4, none⟩ = some (.int .i64 a0_4) ∧ w'.cell? ⟨gb101, 5, none⟩ = some (.int .i64 a0_5)) (ds := []) #[false, false, false, false, false, false, false, false, false, false, false, false, false, false, false] (by kernel_rfl) rfl rfl ⟨bc BK101 0, bc BK101 1, bc BK101 2, bc BK101 3, bc BK101 4, bc BK101 5⟩ (fun hHeld => ?_); refine with_tabW impl_Moment.tab3 impl_Moment.bits3 (fun HT_ HW_ => ?_)
    generalize w7.drew = w8 at BK101 HB hHeld ⊢
    refine pu 3 9 #[false, false, false, true, false, false, false, false, false, false, false, false, false, false, false] HT_ ?_
    refine pu 7 13 #[false, false, false, true, false, false, false, true, false, false, false, false, false, false, false] HT_ ?_
    refine pu 11 17 #[false, false, false, true, false, false, false, true, false, false, false, true, false, false, false] HT_ ?_
    refine tk 0 6 #[true, false, false, true, false, false, false, true, false, false, false, true, false, false, false] HT_ HW_ hHeld ?_
    refine tk 4 10 #[true, false, false, true, true, false, false, true, false, false, false, true, false, false, false] HT_ HW_ hHeld ?_
    refine pu 5 11 #[true, false, false, true, true, true, false, true, false, false, false, true, false, false, false] HT_ ?_
    refine tk 8 14 #[true, false, false, true, true, true, false, true, true, false, false, true, false, false, false] HT_ HW_ hHeld ?_
    refine pu 9 15 #[true, false, false, true, true, true, false, true, true, true, false, true, false, false, false] HT_ ?_
    refine tk 12 18 #[true, false, false, true, true, true, false, true, true, true, false, true, true, false, false] HT_ HW_ hHeld ?_
    refine onx 1 7 #[true, true, false, true, true, true, false, true, true, true, false, true, true, false, false] HT_ (fun K hK => ?_)
    refine gs Try.func20 #[.agg #[.int .i64 a0_0, .int .i64 a0_1, .int .i64 a0_2, .int .i64 a0_3, .int .i64 a0_4, .int .i64 a0_5]] ?_
    with_reducible refine (impl_days.calls k a0_0 a0_1 a0_2 a0_3 a0_4 a0_5 t103 _ A4.out).mono ?_
    rintro e w9 ⟨rfl, hb⟩
    refine ⟨_, rfl, ?_⟩
    replace BK101 := Aside0.mk (blk_below (g := gb101) (o := .cells #[.int .i64 a0_0, .int .i64 a0_1, .int .i64 a0_2, .int .i64 a0_3, .int .i64 a0_4, .int .i64 a0_5] 25 (0, 0)) bk hb)
    replace HB := Aside0.mk (below_step bh hb)
    (try clear hb)
    (try clear hb2)
    (try clear hk)
    (try clear hi)
    refine hK.out _ _ ⟨bc BK101 0, bc BK101 1, bc BK101 2, bc BK101 3, bc BK101 4, bc BK101 5⟩ (fun hHeld => ?_)
    clear hK K
    refine nm 7 ?_
    refine pu 2 8 #[true, true, true, true, true, true, false, true, true, true, false, true, true, false, false] HT_ ?_
    refine pu 6 12 #[true, true, true, true, true, true, true, true, true, true, false, true, true, false, false] HT_ ?_
    refine pu 10 16 #[true, true, true, true, true, true, true, true, true, true, true, true, true, false, false] HT_ ?_
    refine pu 13 19 #[true, true, true, true, true, true, true, true, true, true, true, true, true, true, false] HT_ ?_
    refine pu 14 2 #[true, true, true, true, true, true, true, true, true, true, true, true, true, true, true] HT_ ?_
    refine dn HT_ ?_
    try go_wp2
    go_ret
    exact ⟨er, bh⟩
  · replace c3 := Bool.eq_false_iff.mpr c3
    subst c3
    have H1 : (some (-1)) = some r := by rw [if_neg (show ¬ (false = true) by decide)] at H; exact H
    clear H
    have H := H1
    clear H1
    obtain rfl := Option.some.inj H
    go_enter Try.func6, Try.ntmps6
    go_wp2_with (first | ((with_reducible refine gate_dst (N := 1) rfl ?_); refine bx 1 #[.int .i64 a0_0, .int .i64 a0_1, .int .i64 a0_2, .int .i64 a0_3, .int .i64 a0_4, .int .i64 a0_5] 25 ?_; intro gb101 hg w10 hbox hb; have BK101 := Aside0.mk (hbox); have GW101 := Aside0.mk (bz hg); have GE101 := Aside0.mk (bz hg); replace HB := Aside0.mk (below_step bh hb); clear hb hbox hg; have hcz11_0 : w10.cell? ⟨gb101, 0, none⟩ = some (.int .i64 a0_0) := bc BK101 0; have hcz11_1 : w10.cell? ⟨gb101, 1, none⟩ = some (.int .i64 a0_1) := bc BK101 1; have hcz11_2 : w10.cell? ⟨gb101, 2, none⟩ = some (.int .i64 a0_2) := bc BK101 2; have hcz11_3 : w10.cell? ⟨gb101, 3, none⟩ = some (.int .i64 a0_3) := bc BK101 3; have hcz11_4 : w10.cell? ⟨gb101, 4, none⟩ = some (.int .i64 a0_4) := bc BK101 4; have hcz11_5 : w10.cell? ⟨gb101, 5, none⟩ = some (.int .i64 a0_5) := bc BK101 5; have hfz11_0 := blk_frozen BK101.out 0; have hfz11_1 := blk_frozen BK101.out 1; have hfz11_2 := blk_frozen BK101.out 2; have hfz11_3 := blk_frozen BK101.out 3; have hfz11_4 := blk_frozen BK101.out 4; have hfz11_5 := blk_frozen BK101.out 5) | ((with_reducible refine gate_callee (f := 15) rfl ?_); refine goesL_ (some 4) rfl rfl Try.func15 (by kernel_rfl) rfl #[.agg #[.int .i64 a0_0, .int .i64 a0_1, .int .i64 a0_2, .int .i64 a0_3, .int .i64 a0_4, .int .i64 a0_5]] rfl mc ?_; (with_reducible refine (impl_DateOk.calls k a0_0 a0_1 a0_2 a0_3 a0_4 a0_5 false _ A2.out).mono ?_); rintro e w12 ⟨rfl, hb⟩; refine ⟨_, rfl, ?_⟩; replace BK101 := Aside0.mk (blk_below (g := gb101) (o := .cells #[.int .i64 a0_0, .int .i64 a0_1, .int .i64 a0_2, .int .i64 a0_3, .int .i64 a0_4, .int .i64 a0_5] 25 (0, 0)) bk hb); replace HB := Aside0.mk (below_step bh hb); (try clear hb); (try clear hb2); (try clear hk); (try clear hi)))
    go_ret
    exact ⟨er, bh⟩

end Go.Proofs.Ytpolkndhjcdheaa.P
