/- Functions of the Go program as Lean functions, and proofs that each Go function comes to its Lean function's answers; conditions: those that each theorem states. Written by this session's program hprint.py, which drives the kit's printer. -/
import Derived.Test.YtfbgpjhnjdhpcaaDoorP0
import Derived.Test.YtfbgpjhnjdhpcaaDoorPspecChunkerOk
import Derived.Test.YtfbgpjhnjdhpcaaDoorPspecl5Eat
import Derived.Test.YtfbgpjhnjdhpcaaDoorXA
namespace Go.Proofs.YtfbgpjhnjdhpcaaDoor.P
open Go.RowKit Go.Proofs.YtfbgpjhnjdhpcaaDoorW.PrintWords Go.Proofs.YtfbgpjhnjdhpcaaDoorW.PrintLast Go.Proofs.YtfbgpjhnjdhpcaaDoorW.PrintMore
attribute [local go_sem] max2_int min2_int max_two min_two max_three min_three max_four min_four   -- for this text's walks alone
set_option linter.unusedVariables false
set_option linter.unusedSimpArgs false

/-! ### spec_EatAll: function 33 -/
def spec_EatAll.l0 : Nat → ByteArray → Int → Int → Int → ByteArray → ByteArray → Option (Int × Int × ByteArray × ByteArray × Int)
 | 0, _, _, _, _, _, _ => none
 | k + 1, x1, x6, x102000, x102001, x102002, x102003 => if x6 < (x1.size : Int) then (if x102000 < 8 then (if 0 ≤ x6 then ((spec_l5Eat.f k x102000 x102001 x102002 x102003 (bt x1 x6)).bind fun bt104 => (spec_EatAll.l0 k x1 (wrap64 (x6 + 1)) bt104.1 bt104.2.1 bt104.2.2.1 bt104.2.2.2)) else (none)) else (some (x102000, x102001, x102002, x102003, x6))) else (some (x102000, x102001, x102002, x102003, x6))
def spec_EatAll.f (k : Nat) (a0_0 : Int) (a0_1 : Int) (a0_2 : ByteArray) (a0_3 : ByteArray) (a1 : ByteArray) : Option (Int × Int × ByteArray × ByteArray × Int) := (spec_ChunkerOk.f k a0_0 a0_1 a0_2 a0_3).bind fun t103 => (if t103 = true then (spec_EatAll.l0 k a1 0 a0_0 a0_1 a0_2 a0_3) else (some (0, 0, (⟨#[]⟩ : ByteArray), (⟨#[]⟩ : ByteArray), 0)))
theorem spec_EatAll.mono_l : ∀ k, (∀ y0 y1 y2 y3 y4 y5, LeO (spec_EatAll.l0 k y0 y1 y2 y3 y4 y5) (spec_EatAll.l0 (k + 1) y0 y1 y2 y3 y4 y5))
 | 0 => fun _ _ _ _ _ _ r h => by simp [spec_EatAll.l0] at h
 | k + 1 => by
  have ih0 := spec_EatAll.mono_l k
  ·
   intro y0 y1 y2 y3 y4 y5
   unfold spec_EatAll.l0
   repeat' first
   | (with_reducible exact ih0 _ _ _ _ _ _)
   | (with_reducible exact spec_ChunkerOk.mono _ _ _ _ _)
   | (with_reducible exact spec_l5Eat.mono _ _ _ _ _ _)
   | (with_reducible exact LeO.refl _)
   | (with_reducible exact LeO.none _)
   | (with_reducible refine LeO.ite ?_ ?_)
   | (with_reducible refine LeO.bind ?_ (fun _ => ?_))
   | exact ih0 _ _ _ _ _ _
   | exact spec_ChunkerOk.mono _ _ _ _ _
   | exact spec_l5Eat.mono _ _ _ _ _ _
   | exact LeO.none _
   | refine LeO.ite ?_ ?_
   | refine LeO.bind ?_ (fun _ => ?_)
theorem spec_EatAll.mono : ∀ a0 a1 a2 a3 a4 k, LeO (spec_EatAll.f k a0 a1 a2 a3 a4) (spec_EatAll.f (k + 1) a0 a1 a2 a3 a4) := by
 intro a0 a1 a2 a3 a4 k
 have ih0 := spec_EatAll.mono_l k
 unfold spec_EatAll.f
 repeat' first
   | (with_reducible exact ih0 _ _ _ _ _ _)
   | (with_reducible exact spec_ChunkerOk.mono _ _ _ _ _)
   | (with_reducible exact spec_l5Eat.mono _ _ _ _ _ _)
   | (with_reducible exact LeO.refl _)
   | (with_reducible exact LeO.none _)
   | (with_reducible refine LeO.ite ?_ ?_)
   | (with_reducible refine LeO.bind ?_ (fun _ => ?_))
   | exact ih0 _ _ _ _ _ _
   | exact spec_ChunkerOk.mono _ _ _ _ _
   | exact spec_l5Eat.mono _ _ _ _ _ _
   | exact LeO.none _
   | refine LeO.ite ?_ ?_
   | refine LeO.bind ?_ (fun _ => ?_)
set_option maxHeartbeats 8000000 in
set_option maxRecDepth 100000 in
theorem spec_EatAll.calls (k : Nat) (a0_0 : Int) (a0_1 : Int) (a0_2 : ByteArray) (a0_3 : ByteArray) (a1 : ByteArray) (r1 : Int) (r2 : Int) (r3 : ByteArray) (r4 : ByteArray) (r5 : Int) (w : World) (h : spec_EatAll.f k a0_0 a0_1 a0_2 a0_3 a1 = some (r1, r2, r3, r4, r5)) :
  Calls Tryd.prog 33 #[.agg #[.int .i64 a0_0, .int .i64 a0_1, .string a0_2, .string a0_3], .string a1] w fun e w' => e = .returned (.tuple #[.agg #[.int .i64 r1, .int .i64 r2, .string r3, .string r4], .int .i64 r5]) ∧ Below w.heap.size w w' := by
 have hu35 := Tryd.underlying35
 have HB := Aside0.mk (Below.refl w.heap.size w)
 have H : ((spec_ChunkerOk.f k a0_0 a0_1 a0_2 a0_3).bind fun t103 => (if t103 = true then (spec_EatAll.l0 k a1 0 a0_0 a0_1 a0_2 a0_3) else (some (0, 0, (⟨#[]⟩ : ByteArray), (⟨#[]⟩ : ByteArray), 0)))) = some (r1, r2, r3, r4, r5) := h
 clear h
 obtain ⟨t103, A30, H⟩ := Option.bind_eq_some_iff.mp H
 try dsimp only at H
 have A3 := Aside0.mk A30
 clear A30
 by_cases c4 : t103 = true
 ·
  subst c4
  rw [if_pos rfl] at H
  have H' := Aside0.mk H
  clear H
  go_enter Tryd.func33, Tryd.ntmps33
  go_wp2_with (first | ((with_reducible refine gate_dst (N := 2) rfl ?_); refine bx 2 #[.int .i64 a0_0, .int .i64 a0_1, .string a0_2, .string a0_3] 35 ?_; intro gb101 hg w5 hbox hb; have BK101 := Aside0.mk (hbox); have GW101 := Aside0.mk (bz hg); have GE101 := Aside0.mk (bz hg); replace HB := Aside0.mk (below_step bh hb); clear hb hbox hg) | ((with_reducible refine gate_dst (N := 4) rfl ?_); refine bx 4 #[.int .i64 0, .int .i64 0, .string (⟨#[]⟩ : ByteArray), .string (⟨#[]⟩ : ByteArray)] 35 ?_; intro gb102 hg w6 hbox hb; have BK102 := Aside0.mk (hbox); have GW102 := Aside0.mk (bz hg); have GE102 := Aside0.mk (bz hg); have NB101_102 := Aside0.mk ((nl (o := .cells #[.int .i64 a0_0, .int .i64 a0_1, .string a0_2, .string a0_3] 35 (0, 0)) hg bk : gb101 ≠ gb102)); have NB102_101 := Aside0.mk ((ng (o := .cells #[.int .i64 a0_0, .int .i64 a0_1, .string a0_2, .string a0_3] 35 (0, 0)) hg bk : gb102 ≠ gb101)); replace BK101 := bkb_ BK101 hb; replace HB := Aside0.mk (below_step bh hb); clear hb hbox hg; have hnb7 := NB101_102.out; have hnc7 := NB102_101.out; obtain ⟨hcz8_0, hcz8_1, hcz8_2, hcz8_3⟩ := zcf4 BK101; obtain ⟨hfz8_0, hfz8_1, hfz8_2, hfz8_3⟩ := zff4 BK101) | ((with_reducible refine gate_callee (f := 30) rfl ?_); refine goesL_ (some 8) rfl rfl Tryd.func30 (by kernel_rfl) rfl #[.agg #[.int .i64 a0_0, .int .i64 a0_1, .string a0_2, .string a0_3]] rfl mc ?_; (with_reducible refine (spec_ChunkerOk.calls k a0_0 a0_1 a0_2 a0_3 true _ A3.out).mono ?_); rintro e w9 ⟨rfl, hb⟩; refine ⟨_, rfl, ?_⟩; replace BK101 := bkb_ BK101 hb; replace BK102 := bkb_ BK102 hb; replace HB := Aside0.mk (below_step bh hb); (try clear hb); (try clear hb2); (try clear hk); (try clear hi)))
  go_loopg [6] k (fun kq v6 w' => ∃ (x6_1 : Int) (x102000_1 : Int) (x102001_1 : Int) (x102002_1 : ByteArray) (x102003_1 : ByteArray), v6 = .int .i64 x6_1 ∧ Aside0 (spec_EatAll.l0 kq a1 x6_1 x102000_1 x102001_1 x102002_1 x102003_1 = some (r1, r2, r3, r4, r5)) ∧ Aside0 (kq ≤ k) ∧ Aside0 (w'.heap[gb101]? = some (.cells #[.int .i64 x102000_1, .int .i64 x102001_1, .string x102002_1, .string x102003_1] 35 (0, 0))) ∧ Aside0 (w'.heap[gb102]? = some (.cells #[.int .i64 0, .int .i64 0, .string (⟨#[]⟩ : ByteArray), .string (⟨#[]⟩ : ByteArray)] 35 (0, 0))) ∧ Aside0 (Below w.heap.size w w'))
  case atStart => exact ⟨(0), (a0_0), (a0_1), (a0_2), (a0_3), (by first | rfl | (simp; done) | (simp [*]; done)), H', ⟨Nat.le_refl _⟩, ⟨bk⟩, ⟨bk⟩, ⟨bh⟩⟩
  case round =>
   clear H'
   try clear p2
   try clear c3
   try clear c4
   try clear c7
   try clear hcz8_0
   try clear hcz8_1
   try clear hcz8_2
   try clear hcz8_3
   try clear hfz8_0
   try clear hfz8_1
   try clear hfz8_2
   try clear hfz8_3
   obtain ⟨x6_1, x102000_1, x102001_1, x102002_1, x102003_1, rfl, HA, HK1, BK101, BK102, HB⟩ := hrel
   cases gk with
   | zero => exact absurd HA.out (by simp [spec_EatAll.l0])
   | succ k1 =>
    have H := HA.out
    clear HA
    simp only [spec_EatAll.l0] at H
    by_cases c10 : x6_1 < (a1.size : Int)
    ·
     rw [if_pos c10] at H
     have c10b0 : decide (x6_1 < (a1.size : Int)) = true := decide_eq_true c10
     clear c10
     by_cases c11 : x102000_1 < 8
     ·
      rw [if_pos c11] at H
      have c11b0 : decide (x102000_1 < 8) = true := decide_eq_true c11
      clear c11
      by_cases c12 : 0 ≤ x6_1
      ·
       rw [if_pos c12] at H
       have c12b0 : decide (0 ≤ x6_1) = true := decide_eq_true c12
       clear c12
       obtain ⟨⟨t104, t105, t106, t107⟩, A140, H⟩ := Option.bind_eq_some_iff.mp H
       try dsimp only at H
       have A14 := Aside0.mk A140
       clear A140
       have H' := Aside0.mk H
       clear H
       have hnb15 := NB101_102.out
       have hnc15 := NB102_101.out
       obtain ⟨hcz16_0, hcz16_1, hcz16_2, hcz16_3⟩ := zcf4 BK101
       obtain ⟨hfz16_0, hfz16_1, hfz16_2, hfz16_3⟩ := zff4 BK101
       try go_wp2
       replace BK101 := Aside0.mk (blk_drew BK101.out)
       replace BK102 := Aside0.mk (blk_drew BK102.out)
       replace HB := Aside0.mk (below_drew1 HB.out)
       have p13 : 0 ≤ (x6_1 : Int) := of_decide_eq_true (by first | (with_reducible assumption) | assumption)
       have q13 : x6_1 < (a1.size : Int) := of_decide_eq_true (by first | (with_reducible assumption) | assumption)
       have hx13 := bt_at a1 x6_1
       replace p13 := eq_true p13
       replace q13 := eq_true q13
       refine start_ (n := 6) (S := fun w' => w'.cell? ⟨gb101, 0, none⟩ = some (.int .i64 x102000_1) ∧ w'.cell? ⟨gb101, 1, none⟩ = some (.int .i64 x102001_1) ∧ w'.cell? ⟨gb101, 2, none⟩ = some (.string x102002_1) ∧ w'.cell? ⟨gb101, 3, none⟩ = some (.string x102003_1)) (ds := [5]) #[false, false, false, false, false, false] (by kernel_rfl) rfl rfl ⟨bc BK101 0, bc BK101 1, bc BK101 2, bc BK101 3⟩ (fun hHeld => ?_)
       generalize wr.drew = w17 at BK101 BK102 HB hHeld ⊢
       refine pure_ (i := 1) (N := some 21) (v := ?_) (a' := ?_) #[false, true, false, false, false, false] rfl rfl (by kernel_rfl) (fun _ _ _ h => h) (Or.inl ⟨by rfl, ?_⟩) ?_ ?_
       rotate_left
       ·
        intro w'
        go_simp
        with_reducible rfl
       rotate_left
       ·
        simp only [Act.put, List.setIfInBounds_toArray, List.set_cons_zero, List.set_cons_succ, i64_w, i32_w]
        rfl
       refine pure_ (i := 2) (N := some 22) (v := ?_) (a' := ?_) #[false, true, true, false, false, false] rfl rfl (by kernel_rfl) (fun _ _ _ h => h) (Or.inl ⟨by rfl, ?_⟩) ?_ ?_
       rotate_left
       ·
        intro w'
        go_simp
        with_reducible rfl
       rotate_left
       ·
        simp only [Act.put, List.setIfInBounds_toArray, List.set_cons_zero, List.set_cons_succ, i64_w, i32_w]
        rfl
       refine take_ (i := 0) (N := some 20) (v := ?_) (a' := ?_) #[true, true, true, false, false, false] rfl rfl (by kernel_rfl) (fun _ _ _ h => h) (Or.inl ⟨by rfl, ?_⟩) hHeld ?_ ?_
       rotate_left
       ·
        rintro w' ⟨s0, s1, s2, s3⟩
        go_simp
        with_reducible rfl
       rotate_left
       ·
        simp only [Act.put, List.setIfInBounds_toArray, List.set_cons_zero, List.set_cons_succ, i64_w, i32_w]
        rfl
       refine take_ (i := 3) (N := some 23) (v := ?_) (a' := ?_) #[true, true, true, true, false, false] rfl rfl (by kernel_rfl) (fun _ _ _ h => h) (Or.inl ⟨by rfl, ?_⟩) hHeld ?_ ?_
       rotate_left
       ·
        rintro w' ⟨s0, s1, s2, s3⟩
        go_simp
        with_reducible rfl
       rotate_left
       ·
        simp only [Act.put, List.setIfInBounds_toArray, List.set_cons_zero, List.set_cons_succ, i64_w, i32_w]
        rfl
       refine one_ (i := 4) (N := some 24) #[true, true, true, true, true, false] rfl rfl (by kernel_rfl) (by decide) (fun K hK => ?_)
       refine gs Tryd.func59 #[.agg #[.int .i64 x102000_1, .int .i64 x102001_1, .string x102002_1, .string x102003_1], .int .u8 (bt a1 x6_1)] ?_
       with_reducible refine (spec_l5Eat.calls k1 x102000_1 x102001_1 x102002_1 x102003_1 (bt a1 x6_1) t104 t105 t106 t107 _ A14.out).mono ?_
       rintro e w18 ⟨rfl, hb⟩
       refine ⟨_, rfl, ?_⟩
       replace BK101 := bkb_ BK101 hb
       replace BK102 := bkb_ BK102 hb
       replace HB := Aside0.mk (below_step bh hb)
       (try clear hb)
       (try clear hb2)
       (try clear hk)
       (try clear hi)
       refine hK.out _ _ ⟨bc BK101 0, bc BK101 1, bc BK101 2, bc BK101 3⟩ (fun hHeld => ?_)
       clear hK K
       refine nm 24 ?_
       refine last_ (i := 5) (N := none) #[true, true, true, true, true, true] rfl rfl (by kernel_rfl) (by decide) (fun K hK => ?_)
       have hs19 : w18.cell? ⟨gb101, 0, none⟩ = some (.int .i64 x102000_1) := bc BK101 0
       have hfs19 := blk_frozen BK101.out 0
       have hns19_1 := NB102_101.out
       have hms19_1 := NB101_102.out
       have hs20 : w18.cell? ⟨gb101, 1, none⟩ = some (.int .i64 x102001_1) := bc BK101 1
       have hfs20 := blk_frozen BK101.out 1
       have hns20_1 := NB102_101.out
       have hms20_1 := NB101_102.out
       have hs21 : w18.cell? ⟨gb101, 2, none⟩ = some (.string x102002_1) := bc BK101 2
       have hfs21 := blk_frozen BK101.out 2
       have hns21_1 := NB102_101.out
       have hms21_1 := NB101_102.out
       have hs22 : w18.cell? ⟨gb101, 3, none⟩ = some (.string x102003_1) := bc BK101 3
       have hfs22 := blk_frozen BK101.out 3
       have hns22_1 := NB102_101.out
       have hms22_1 := NB101_102.out
       refine skip_ (w1 := ?_) (by rfl) rfl ?_ ?_
       rotate_left
       ·
        go_simp
        rfl
       refine hK.out _ _ ?_
       clear hK K
       refine done_ (by kernel_rfl) ?_
       try go_wp2
       go_roundg k1
       case measure => have := HK1.out; omega
       case rel => exact ⟨(wrap64 (x6_1 + 1)), (t104), (t105), (t106), (t107), (by first | rfl | (simp; done) | (simp [*]; done)), H', ⟨by have := HK1.out; omega⟩, ⟨bkp⟩, ⟨bkp⟩, ⟨bh⟩⟩
      ·
       rw [if_neg c12] at H
       exact absurd H (by simp)
     ·
      rw [if_neg c11] at H
      have c11b0 : decide (x102000_1 < 8) = false := decide_eq_false c11
      clear c11
      simp only [Option.some.injEq, Prod.mk.injEq] at H
      obtain ⟨rfl, rfl, rfl, rfl, rfl⟩ := H
      have hnb23 := NB101_102.out
      have hnc23 := NB102_101.out
      obtain ⟨hcz24_0, hcz24_1, hcz24_2, hcz24_3⟩ := zcf4 BK101
      obtain ⟨hfz24_0, hfz24_1, hfz24_2, hfz24_3⟩ := zff4 BK101
      obtain ⟨hcz25_0, hcz25_1, hcz25_2, hcz25_3⟩ := zcf4 BK102
      obtain ⟨hfz25_0, hfz25_1, hfz25_2, hfz25_3⟩ := zff4 BK102
      go_wp2
      refine bodyPost_ret (results_ct rfl _ _ gb102 35 #[.int .i64 x102000_1, .int .i64 x102001_1, .string x102002_1, .string x102003_1] (0, 0) _ rfl bkp Tryd.underlying35 rfl (by kernel_rfl)) rfl ?_
      exact ⟨er, bh⟩
    ·
     rw [if_neg c10] at H
     have c10b0 : decide (x6_1 < (a1.size : Int)) = false := decide_eq_false c10
     clear c10
     simp only [Option.some.injEq, Prod.mk.injEq] at H
     obtain ⟨rfl, rfl, rfl, rfl, rfl⟩ := H
     have hnb26 := NB101_102.out
     have hnc26 := NB102_101.out
     obtain ⟨hcz27_0, hcz27_1, hcz27_2, hcz27_3⟩ := zcf4 BK101
     obtain ⟨hfz27_0, hfz27_1, hfz27_2, hfz27_3⟩ := zff4 BK101
     obtain ⟨hcz28_0, hcz28_1, hcz28_2, hcz28_3⟩ := zcf4 BK102
     obtain ⟨hfz28_0, hfz28_1, hfz28_2, hfz28_3⟩ := zff4 BK102
     go_wp2
     refine bodyPost_ret (results_ct rfl _ _ gb102 35 #[.int .i64 x102000_1, .int .i64 x102001_1, .string x102002_1, .string x102003_1] (0, 0) _ rfl bkp Tryd.underlying35 rfl (by kernel_rfl)) rfl ?_
     exact ⟨er, bh⟩
 ·
  replace c4 := Bool.eq_false_iff.mpr c4
  subst c4
  rw [if_neg (show ¬ (false = true) by decide)] at H
  simp only [Option.some.injEq, Prod.mk.injEq] at H
  obtain ⟨rfl, rfl, rfl, rfl, rfl⟩ := H
  go_enter Tryd.func33, Tryd.ntmps33
  go_wp2_with (first | ((with_reducible refine gate_dst (N := 2) rfl ?_); refine bx 2 #[.int .i64 a0_0, .int .i64 a0_1, .string a0_2, .string a0_3] 35 ?_; intro gb101 hg w29 hbox hb; have BK101 := Aside0.mk (hbox); have GW101 := Aside0.mk (bz hg); have GE101 := Aside0.mk (bz hg); replace HB := Aside0.mk (below_step bh hb); clear hb hbox hg) | ((with_reducible refine gate_dst (N := 4) rfl ?_); refine bx 4 #[.int .i64 0, .int .i64 0, .string (⟨#[]⟩ : ByteArray), .string (⟨#[]⟩ : ByteArray)] 35 ?_; intro gb102 hg w30 hbox hb; have BK102 := Aside0.mk (hbox); have GW102 := Aside0.mk (bz hg); have GE102 := Aside0.mk (bz hg); have NB101_102 := Aside0.mk ((nl (o := .cells #[.int .i64 a0_0, .int .i64 a0_1, .string a0_2, .string a0_3] 35 (0, 0)) hg bk : gb101 ≠ gb102)); have NB102_101 := Aside0.mk ((ng (o := .cells #[.int .i64 a0_0, .int .i64 a0_1, .string a0_2, .string a0_3] 35 (0, 0)) hg bk : gb102 ≠ gb101)); replace BK101 := bkb_ BK101 hb; replace HB := Aside0.mk (below_step bh hb); clear hb hbox hg; have hnb31 := NB101_102.out; have hnc31 := NB102_101.out; obtain ⟨hcz32_0, hcz32_1, hcz32_2, hcz32_3⟩ := zcf4 BK101; obtain ⟨hfz32_0, hfz32_1, hfz32_2, hfz32_3⟩ := zff4 BK101) | ((with_reducible refine gate_callee (f := 30) rfl ?_); refine goesL_ (some 8) rfl rfl Tryd.func30 (by kernel_rfl) rfl #[.agg #[.int .i64 a0_0, .int .i64 a0_1, .string a0_2, .string a0_3]] rfl mc ?_; (with_reducible refine (spec_ChunkerOk.calls k a0_0 a0_1 a0_2 a0_3 false _ A3.out).mono ?_); rintro e w33 ⟨rfl, hb⟩; refine ⟨_, rfl, ?_⟩; replace BK101 := bkb_ BK101 hb; replace BK102 := bkb_ BK102 hb; replace HB := Aside0.mk (below_step bh hb); (try clear hb); (try clear hb2); (try clear hk); (try clear hi); obtain ⟨hcz34_0, hcz34_1, hcz34_2, hcz34_3⟩ := zcf4 BK102; obtain ⟨hfz34_0, hfz34_1, hfz34_2, hfz34_3⟩ := zff4 BK102))
  refine bodyPost_ret (results_ct rfl _ _ gb102 35 #[.int .i64 0, .int .i64 0, .string (⟨#[]⟩ : ByteArray), .string (⟨#[]⟩ : ByteArray)] (0, 0) _ rfl bkp Tryd.underlying35 rfl (by kernel_rfl)) rfl ?_
  exact ⟨er, bh⟩

end Go.Proofs.YtfbgpjhnjdhpcaaDoor.P
