/- Functions of the Go program as Lean functions, and proofs that each Go function comes to its Lean function's answers; conditions: those that each theorem states. Written by this session's program hprint.py, which drives the kit's printer. -/
import Derived.Test.YtfbgpjhnjdhpcaaDoorP0
import Derived.Test.YtfbgpjhnjdhpcaaDoorPspecl1Below
import Derived.Test.YtfbgpjhnjdhpcaaDoorPspecl1Byte
import Derived.Test.YtfbgpjhnjdhpcaaDoorPspecl1New
import Derived.Test.YtfbgpjhnjdhpcaaDoorPspecl5DrawAny
import Derived.Test.YtfbgpjhnjdhpcaaDoorXA
import Derived.Test.YtfbgpjhnjdhpcaaDoorXB
namespace Go.Proofs.YtfbgpjhnjdhpcaaDoor.P
open Go.RowKit Go.Proofs.YtfbgpjhnjdhpcaaDoorW.PrintWords Go.Proofs.YtfbgpjhnjdhpcaaDoorW.PrintLast Go.Proofs.YtfbgpjhnjdhpcaaDoorW.PrintMore
attribute [local go_sem] max2_int min2_int max_two min_two max_three min_three max_four min_four   -- for this text's walks alone
set_option linter.unusedVariables false
set_option linter.unusedSimpArgs false

/-! ### spec_DrawEat: function 26 -/
def spec_DrawEat.f (k : Nat) (l0 : List Int) : Option (Int × Int × ByteArray × ByteArray × Int) := (spec_l1New.f k l0).bind fun bt102 => ((spec_l5DrawAny.f k bt102.1 bt102.2.1 bt102.2.2).bind fun bt106 => ((spec_l1Byte.f bt102.1 bt106.2.2.2.2.1 bt106.2.2.2.2.2).bind fun bt113 => ((some (([13, 10, 48, 97, 70, 120, (bt113.1) % 256] : List Int) : List Int)).bind fun y116 => ((spec_l1Below.f bt102.1 bt113.2.1 bt113.2.2 7).bind fun bt119 => (if 0 ≤ bt119.1 then (if bt119.1 < (y116.length : Int) then (some (bt106.1, bt106.2.1, bt106.2.2.1, bt106.2.2.2.1, rd y116 bt119.1)) else (none)) else (none))))))
theorem spec_DrawEat.mono : ∀ a0 k, LeO (spec_DrawEat.f k a0) (spec_DrawEat.f (k + 1) a0) := by
 intro a0 k
 unfold spec_DrawEat.f
 repeat' first
   | (with_reducible exact spec_l1New.mono _ _)
   | (with_reducible exact spec_l5DrawAny.mono _ _ _ _)
   | (with_reducible exact LeO.refl _)
   | (with_reducible exact LeO.none _)
   | (with_reducible refine LeO.ite ?_ ?_)
   | (with_reducible refine LeO.bind ?_ (fun _ => ?_))
   | exact spec_l1New.mono _ _
   | exact spec_l5DrawAny.mono _ _ _ _
   | exact LeO.none _
   | refine LeO.ite ?_ ?_
   | refine LeO.bind ?_ (fun _ => ?_)
def spec_DrawEat.T3 : Bool × List (List Nat × List Nat) := (true, [([], []), ([], []), ([1], [1]), ([2], [2]), ([3], [3]), ([], []), ([5, 2], [5]), ([4, 6], [4, 6]), ([7], [7]), ([0, 6, 0], [0]), ([8, 9, 0, 1, 2, 3, 4, 5, 6, 7, 8, 9], [8])])
def spec_DrawEat.B3 : List Nat := [0, 0, 2, 6, 14, 0, 38, 126, 254, 103, 1023]
theorem spec_DrawEat.tab3 : rtab .any (opsOf Tryd.f26 3) = spec_DrawEat.T3 := by kernel_rfl
theorem spec_DrawEat.bits3 : waitsOk spec_DrawEat.T3.2 spec_DrawEat.B3 = true := by kernel_rfl
set_option maxHeartbeats 8000000 in
set_option maxRecDepth 100000 in
theorem spec_DrawEat.calls (k : Nat) (A0 : Option Addr) (c0 : Nat) (l0 : List Int) (r1 : Int) (r2 : Int) (r3 : ByteArray) (r4 : ByteArray) (r5 : Int) (w : World) (hr0 : Kd.C (Kd.int .u8) w A0 l0.length l0) (hc0 : l0.length ≤ c0) (h : spec_DrawEat.f k l0 = some (r1, r2, r3, r4, r5)) :
  Calls Tryd.prog 26 #[.slice A0 l0.length c0] w fun e w' => e = .returned (.tuple #[.agg #[.int .i64 r1, .int .i64 r2, .string r3, .string r4], .int .u8 r5]) ∧ Below w.heap.size w w' := by
 have hu35 := Tryd.underlying35
 have HR0 := Aside0.mk hr0
 have HC0 := Aside0.mk hc0
 clear hr0 hc0
 have HB := Aside0.mk (Below.refl w.heap.size w)
 have H : ((spec_l1New.f k l0).bind fun bt102 => ((spec_l5DrawAny.f k bt102.1 bt102.2.1 bt102.2.2).bind fun bt106 => ((spec_l1Byte.f bt102.1 bt106.2.2.2.2.1 bt106.2.2.2.2.2).bind fun bt113 => ((some (([13, 10, 48, 97, 70, 120, (bt113.1) % 256] : List Int) : List Int)).bind fun y116 => ((spec_l1Below.f bt102.1 bt113.2.1 bt113.2.2 7).bind fun bt119 => (if 0 ≤ bt119.1 then (if bt119.1 < (y116.length : Int) then (some (bt106.1, bt106.2.1, bt106.2.2.1, bt106.2.2.2.1, rd y116 bt119.1)) else (none)) else (none))))))) = some (r1, r2, r3, r4, r5) := h
 clear h
 obtain ⟨⟨t102, t103, t104⟩, A20, H⟩ := Option.bind_eq_some_iff.mp H
 try dsimp only at H
 have A2 := Aside0.mk A20
 clear A20
 obtain ⟨⟨t106, t107, t108, t109, t110, t111⟩, A30, H⟩ := Option.bind_eq_some_iff.mp H
 try dsimp only at H
 have A3 := Aside0.mk A30
 clear A30
 obtain ⟨⟨t113, t114, t115⟩, A40, H⟩ := Option.bind_eq_some_iff.mp H
 try dsimp only at H
 have A4 := Aside0.mk A40
 clear A40
 obtain ⟨y116, hy116⟩ : ∃ y_ : List Int, y_ = (([13, 10, 48, 97, 70, 120, (t113) % 256] : List Int)) := ⟨_, rfl⟩
 replace H : ((spec_l1Below.f t102 t114 t115 7).bind fun bt119 => (if 0 ≤ bt119.1 then (if bt119.1 < (y116.length : Int) then (some (t106, t107, t108, t109, rd y116 bt119.1)) else (none)) else (none))) = some (r1, r2, r3, r4, r5) := by first | (rw [hy116]; with_reducible exact H) | (have H2_ := (Option.bind_some _ _).symm.trans H; rw [hy116]; with_reducible exact H2_) | (have H2_ := (Option.bind_some _ _).symm.trans H; with_reducible exact H2_) | with_reducible exact H | (rw [hy116]; exact H) | exact H
 have Ny116 := Aside0.mk hy116
 clear hy116
 obtain ⟨⟨t119, t120, t121⟩, A50, H⟩ := Option.bind_eq_some_iff.mp H
 try dsimp only at H
 have A5 := Aside0.mk A50
 clear A50
 by_cases c6 : 0 ≤ t119
 ·
  rw [if_pos c6] at H
  have c6b0 : decide (0 ≤ t119) = true := decide_eq_true c6
  clear c6
  by_cases c7 : t119 < (y116.length : Int)
  ·
   rw [if_pos c7] at H
   have c7b0 : decide (t119 < (y116.length : Int)) = true := decide_eq_true c7
   clear c7
   simp only [Option.some.injEq, Prod.mk.injEq] at H
   obtain ⟨rfl, rfl, rfl, rfl, rfl⟩ := H
   go_enter Tryd.func26, Tryd.ntmps26
   try go_wp2_with (first | ((with_reducible refine gate_dst (N := 2) rfl ?_); refine bx 2 #[.int .i64 0, .int .i64 0, .string (⟨#[]⟩ : ByteArray), .string (⟨#[]⟩ : ByteArray)] 35 ?_; intro gb101 hg w8 hbox hb; have BK101 := Aside0.mk (hbox); have GW101 := Aside0.mk (bz hg); have GE101 := Aside0.mk (bz hg); replace HB := Aside0.mk (below_step bh hb); clear hb hbox hg) | ((with_reducible refine gate_callee (f := 34) rfl ?_); refine goesL_ (some 7) rfl rfl Tryd.func34 (by kernel_rfl) rfl #[.slice A0 l0.length c0] rfl mc ?_; (with_reducible refine (spec_l1New.calls k _ _ l0 t102 t103 t104 w _ ?side1 ?side2 ?side3 A2.out).mono ?_); (case side1 => exact zbh); (case side2 => exact HR0.out); (case side3 => exact HC0.out); rintro e w9 ⟨g105, rfl, hi, hb, hb2⟩; refine ⟨_, rfl, ?_⟩; have HI105 := Aside0.mk (hi); have NB105_101 := Aside0.mk (IsS76.ne_blk hi (blk_below (g := gb101) (o := .cells #[.int .i64 0, .int .i64 0, .string (⟨#[]⟩ : ByteArray), .string (⟨#[]⟩ : ByteArray)] 35 (0, 0)) bk hb2) (by decide)); have NB101_105 := Aside0.mk (Ne.symm (IsS76.ne_blk hi (blk_below (g := gb101) (o := .cells #[.int .i64 0, .int .i64 0, .string (⟨#[]⟩ : ByteArray), .string (⟨#[]⟩ : ByteArray)] 35 (0, 0)) bk hb2) (by decide))); replace BK101 := Aside0.mk (blk_below (g := gb101) (o := .cells #[.int .i64 0, .int .i64 0, .string (⟨#[]⟩ : ByteArray), .string (⟨#[]⟩ : ByteArray)] 35 (0, 0)) bk hb2); replace HB := Aside0.mk (hb); (try clear hb); (try clear hb2); (try clear hk); (try clear hi)) | ((with_reducible refine gate_callee (f := 56) rfl ?_); refine goesL_ (some 9) rfl rfl Tryd.func56 (by kernel_rfl) rfl #[.pointer (some ⟨g105, 0, none⟩)] rfl mc ?_; (with_reducible refine (spec_l5DrawAny.calls k g105 t102 t103 t104 t106 t107 t108 t109 t110 t111 w _ ?side1 ?side2 A3.out).mono ?_); (case side1 => repeat (first | (with_reducible first | exact HI105.out | apply IsS76.alloc | apply IsS76.drewN | apply IsS76.drew | apply IsS76.set_1 | apply IsS76.set_2 | refine IsS76.far ?_ NB105_101.out _) | exact HI105.out)); (case side2 => repeat (first | (with_reducible first | exact HB.out | apply below_alloc | apply pw_below_drewN | apply below_drew1 | refine below_set ?_ (IsS76.ge HI105.out) | refine below_set ?_ GE101.out) | exact HB.out)); rintro e w10 ⟨rfl, hi, hb, hk⟩; refine ⟨_, rfl, ?_⟩; replace BK101 := bkk_ BK101 hk NB101_105; replace HI105 := Aside0.mk (hi); replace HB := Aside0.mk (hb); (try clear hb); (try clear hb2); (try clear hk); (try clear hi)) | ((with_reducible refine gate_dst (N := 5) rfl ?_); refine bx 5 #[.int .i64 0, .int .i64 0, .string (⟨#[]⟩ : ByteArray), .string (⟨#[]⟩ : ByteArray)] 35 ?_; intro gb112 hg w11 hbox hb; have n0_ := Aside0.mk (blk_below (g := gb101) (o := .cells #[.int .i64 0, .int .i64 0, .string (⟨#[]⟩ : ByteArray), .string (⟨#[]⟩ : ByteArray)] 35 (0, 0)) bk hb); have n1_ := Aside0.mk (IsS76.below (by repeat (first | (with_reducible first | exact HI105.out | apply IsS76.alloc | apply IsS76.drewN | apply IsS76.drew | apply IsS76.set_1 | apply IsS76.set_2 | refine IsS76.far ?_ NB105_101.out _) | exact HI105.out)) hb); have n2_ := Aside0.mk (below_step (by repeat (first | (with_reducible first | exact HB.out | apply below_alloc | apply pw_below_drewN | apply below_drew1 | refine below_set ?_ (IsS76.ge HI105.out) | refine below_set ?_ GE101.out) | exact HB.out)) hb); have n3_ := Aside0.mk (hbox); have n4_ := Aside0.mk ((by rw [hg]; exact (below_size (by repeat (first | (with_reducible first | exact HB.out | apply below_alloc | apply pw_below_drewN | apply below_drew1 | refine below_set ?_ (IsS76.ge HI105.out) | refine below_set ?_ GE101.out) | exact HB.out))) : w.heap.size ≤ gb112)); have n5_ := Aside0.mk ((by rw [hg]; exact (below_size (by repeat (first | (with_reducible first | exact HB.out | apply below_alloc | apply pw_below_drewN | apply below_drew1 | refine below_set ?_ (IsS76.ge HI105.out) | refine below_set ?_ GE101.out) | exact HB.out))) : w.heap.size ≤ gb112)); have n6_ := Aside0.mk ((nl (o := .cells #[.int .i64 0, .int .i64 0, .string (⟨#[]⟩ : ByteArray), .string (⟨#[]⟩ : ByteArray)] 35 (0, 0)) hg bk : gb101 ≠ gb112)); have n7_ := Aside0.mk ((ng (o := .cells #[.int .i64 0, .int .i64 0, .string (⟨#[]⟩ : ByteArray), .string (⟨#[]⟩ : ByteArray)] 35 (0, 0)) hg bk : gb112 ≠ gb101)); have n8_ := Aside0.mk ((by rw [hg]; exact Nat.ne_of_lt (IsS76.lt (show IsS76 w _ g105 t102 t110 t111 from by repeat (first | (with_reducible first | exact HI105.out | apply IsS76.alloc | apply IsS76.drewN | apply IsS76.drew | apply IsS76.set_1 | apply IsS76.set_2 | refine IsS76.far ?_ NB105_101.out _) | exact HI105.out))) : g105 ≠ gb112)); have n9_ := Aside0.mk ((by rw [hg]; exact Nat.ne_of_gt (IsS76.lt (show IsS76 w _ g105 t102 t110 t111 from by repeat (first | (with_reducible first | exact HI105.out | apply IsS76.alloc | apply IsS76.drewN | apply IsS76.drew | apply IsS76.set_1 | apply IsS76.set_2 | refine IsS76.far ?_ NB105_101.out _) | exact HI105.out))) : gb112 ≠ g105)); clear BK101; clear HI105; clear HB; have BK101 := n0_; have HI105 := n1_; have HB := n2_; have BK112 := n3_; have GW112 := n4_; have GE112 := n5_; have NB101_112 := n6_; have NB112_101 := n7_; have NB105_112 := n8_; have NB112_105 := n9_; clear n0_ n1_ n2_ n3_ n4_ n5_ n6_ n7_ n8_ n9_; clear hb hbox hg; have hnb12 := NB112_101.out; have hnc12 := NB101_112.out; have hnb13 := NB112_105.out; have hnc13 := NB105_112.out; obtain ⟨hcz14_0, hcz14_1, hcz14_2, hcz14_3⟩ := zcf4 BK112; obtain ⟨hfz14_0, hfz14_1, hfz14_2, hfz14_3⟩ := zff4 BK112))
   have pi122 : (0 ≤ (t119 : Int)) = True := eq_true (of_decide_eq_true (by first | (with_reducible assumption) | assumption))
   have qi122 : (t119 < (y116.length : Int)) = True := eq_true (of_decide_eq_true (by first | (with_reducible assumption) | assumption))
   have n0_ : Aside0 (((((w11.setCell ⟨gb112, 0, none⟩ (.int .i64 t106)).setCell ⟨gb112, 1, none⟩ (.int .i64 t107)).setCell ⟨gb112, 2, none⟩ (.string t108)).setCell ⟨gb112, 3, none⟩ (.string t109)).heap[gb101]? = some (.cells #[.int .i64 0, .int .i64 0, .string (⟨#[]⟩ : ByteArray), .string (⟨#[]⟩ : ByteArray)] 35 (0, 0))) := ⟨bkp⟩
   have n1_ : Aside0 (((((w11.setCell ⟨gb112, 0, none⟩ (.int .i64 t106)).setCell ⟨gb112, 1, none⟩ (.int .i64 t107)).setCell ⟨gb112, 2, none⟩ (.string t108)).setCell ⟨gb112, 3, none⟩ (.string t109)).heap[gb112]? = some (.cells #[.int .i64 t106, .int .i64 t107, .string t108, .string t109] 35 (0, 0))) := ⟨bkp⟩
   have n2_ : Aside0 (IsS76 w ((((w11.setCell ⟨gb112, 0, none⟩ (.int .i64 t106)).setCell ⟨gb112, 1, none⟩ (.int .i64 t107)).setCell ⟨gb112, 2, none⟩ (.string t108)).setCell ⟨gb112, 3, none⟩ (.string t109)) g105 t102 t110 t111) := ⟨by repeat (first | (with_reducible first | exact HI105.out | apply IsS76.alloc | apply IsS76.drewN | apply IsS76.drew | apply IsS76.set_1 | apply IsS76.set_2 | refine IsS76.far ?_ NB105_101.out _ | refine IsS76.far ?_ NB105_112.out _) | exact HI105.out)⟩
   have n3_ : Aside0 (Below w.heap.size w ((((w11.setCell ⟨gb112, 0, none⟩ (.int .i64 t106)).setCell ⟨gb112, 1, none⟩ (.int .i64 t107)).setCell ⟨gb112, 2, none⟩ (.string t108)).setCell ⟨gb112, 3, none⟩ (.string t109))) := ⟨by repeat (first | (with_reducible first | exact HB.out | apply below_alloc | apply pw_below_drewN | apply below_drew1 | refine below_set ?_ (IsS76.ge HI105.out) | refine below_set ?_ GE101.out | refine below_set ?_ GE112.out) | exact HB.out)⟩
   (try clear BK101)
   (try clear BK112)
   (try clear HI105)
   (try clear HB)
   generalize ((((w11.setCell ⟨gb112, 0, none⟩ (.int .i64 t106)).setCell ⟨gb112, 1, none⟩ (.int .i64 t107)).setCell ⟨gb112, 2, none⟩ (.string t108)).setCell ⟨gb112, 3, none⟩ (.string t109)) = w15 at n0_ n1_ n2_ n3_ ⊢
   have BK101 := n0_
   have BK112 := n1_
   have HI105 := n2_
   have HB := n3_
   clear n0_ n1_ n2_ n3_
   replace BK101 := Aside0.mk (blk_drew BK101.out)
   replace BK112 := Aside0.mk (blk_drew BK112.out)
   replace HI105 := Aside0.mk (IsS76.drew HI105.out)
   replace HB := Aside0.mk (below_drew1 HB.out)
   refine start_ (n := 11) (S := fun w' => True) (ds := []) #[false, false, false, false, false, false, false, false, false, false, false] (by kernel_rfl) rfl rfl trivial (fun hHeld => ?_); refine with_tabW spec_DrawEat.tab3 spec_DrawEat.bits3 (fun HT_ HW_ => ?_)
   generalize w15.drew = w16 at BK101 BK112 HI105 HB hHeld ⊢
   refine pu 1 11 #[false, true, false, false, false, false, false, false, false, false, false] HT_ ?_
   refine pu 5 15 #[false, true, false, false, false, true, false, false, false, false, false] HT_ ?_
   refine inv_at [0, 2, 3, 4, 6, 7, 8, 9, 10] (fun a0_ b a w' => ∃ (v117 : Value) (adz_v117 : Addr) (m7_ : Value), a = putSel a0_ b [(0, 10, .agg #[.int .i64 t106, .int .i64 t107, .string t108, .string t109]), (2, 12, .int .i64 t113), (3, 13, .int .u8 ((t113) % 256)), (4, 14, v117), (6, 16, .int .i64 t119), (7, 17, m7_), (8, 18, .int .u8 (rd y116 t119)), (10, 3, .int .u8 (rd y116 t119))] ∧ (b 9 = false → w'.heap[gb101]? = some (.cells #[.int .i64 0, .int .i64 0, .string (⟨#[]⟩ : ByteArray), .string (⟨#[]⟩ : ByteArray)] 35 (0, 0))) ∧ (w'.heap[gb112]? = some (.cells #[.int .i64 t106, .int .i64 t107, .string t108, .string t109] 35 (0, 0))) ∧ (b 2 = false → IsS76 w w' g105 t102 t110 t111) ∧ (Below w.heap.size w w') ∧ (b 2 = true → b 6 = false → IsS76 w w' g105 t102 t114 t115) ∧ (b 4 = true → Kd.R (Kd.int .u8) 5 w' w.heap.size (fun _ => True) v117 y116) ∧ (b 4 = true → ∃ c_, (v117 : Value) = .slice (some adz_v117) y116.length c_) ∧ (b 6 = true → IsS76 w w' g105 t102 t120 t121) ∧ (b 9 = true → w'.heap[gb101]? = some (.cells #[.int .i64 t106, .int .i64 t107, .string t108, .string t109] 35 (0, 0))) ∧ (b 7 = true → (m7_ : Value) = .pointer (some (adz_v117.add (t119).toNat)))) HT_.out HW_.out (by kernel_rfl) (by kernel_rfl) ?_ ?_ ?_
   ·
    exact ⟨.bool false, ⟨0, 0, none⟩, .bool false, by simp only [putSel, Bool.false_eq_true, if_false], fun _ => BK101.out, BK112.out, fun _ => HI105.out, HB.out, fun h_ => absurd h_ (by decide), fun h_ => absurd h_ (by decide), fun h_ => absurd h_ (by decide), fun h_ => absurd h_ (by decide), fun h_ => absurd h_ (by decide), fun h_ => absurd h_ (by decide)⟩
   ·
    skip
    clear BK101 BK112 HB HI105
    refine steps_cons ?_ ?_
    ·
     rintro b a w' ⟨v117, adz_v117, m7_, ha, Q_BK101, Q_BK112, Q_HI105, Q_HB, Q_HI105_e2, Q_HO118, Q_HA_HO118, Q_HI105_e6, Q_BK101_e9, Q_X7_⟩ hb_ hon hoff
     refine ⟨_, rfl, fun K hK => ?_⟩
     have e5 : a.tmps[5]? = some (.pointer (some ⟨gb112, 0, none⟩)) := by rw [ha]; exact (putSel_off rfl).trans rfl
     replace ha := Aside0.mk ha
     have BK101 := Aside0.mk (Q_BK101 (hoff 9 (by kernel_rfl)))
     have BK112 := Aside0.mk Q_BK112
     have HB := Aside0.mk Q_HB
     have hc0_ : w'.cell? ⟨gb112, 0, none⟩ = some (.int .i64 t106) := bc BK112 0
     have hc1_ : w'.cell? ⟨gb112, 1, none⟩ = some (.int .i64 t107) := bc BK112 1
     have hc2_ : w'.cell? ⟨gb112, 2, none⟩ = some (.string t108) := bc BK112 2
     have hc3_ : w'.cell? ⟨gb112, 3, none⟩ = some (.string t109) := bc BK112 3
     refine value_ (w1 := w') (v := .agg #[.int .i64 t106, .int .i64 t107, .string t108, .string t109]) (by rfl) rfl ?_ ?_
     ·
      go_simp
      (try simp only [i64_w])
      try rfl
     refine hK.out _ _ ⟨v117, adz_v117, m7_, (by rw [ha.out]; exact putSel_upk 0 hb_ rfl rfl rfl), Q_BK101, Q_BK112, Q_HI105, Q_HB, Q_HI105_e2, Q_HO118, Q_HA_HO118, Q_HI105_e6, fun h0_ => absurd ((hoff 9 (by kernel_rfl)).symm.trans h0_) (by decide), Q_X7_⟩
    refine steps_cons ?_ ?_
    ·
     rintro b a w' ⟨v117, adz_v117, m7_, ha, Q_BK101, Q_BK112, Q_HI105, Q_HB, Q_HI105_e2, Q_HO118, Q_HA_HO118, Q_HI105_e6, Q_BK101_e9, Q_X7_⟩ hb_ hon hoff
     refine ⟨_, rfl, fun K hK => ?_⟩
     have e11 : a.tmps[11]? = some (.pointer (some ⟨g105, 0, none⟩)) := by rw [ha]; exact (putSel_off rfl).trans rfl
     replace ha := Aside0.mk ha
     have BK101 := Aside0.mk (Q_BK101 (hoff 9 (by kernel_rfl)))
     have BK112 := Aside0.mk Q_BK112
     have HI105 := Aside0.mk (Q_HI105 hb_)
     have HB := Aside0.mk Q_HB
     refine goes_ Tryd.func57 (by kernel_rfl) rfl #[.pointer (some ⟨g105, 0, none⟩)] (by rfl) rfl rfl (by first | (simp only [List.map_toArray, List.map_cons, List.map_nil, Act.eval, Array.getD_eq_getD_getElem?, Option.getD_some, e11]; done) | (simp only [List.map_toArray, List.map_cons, List.map_nil, Act.eval, Array.getD_eq_getD_getElem?, Option.getD_some, e11]; rfl)) ?_
     with_reducible refine (spec_l1Byte.calls g105 t102 t110 t111 t113 t114 t115 w _ ?side1 ?side2 A4.out).mono ?_
     (case side1 => repeat (first | (with_reducible first | exact HI105.out | apply IsS76.alloc | apply IsS76.drewN | apply IsS76.drew | apply IsS76.set_1 | apply IsS76.set_2 | refine IsS76.far ?_ NB105_101.out _ | refine IsS76.far ?_ NB105_112.out _) | exact HI105.out))
     (case side2 => repeat (first | (with_reducible first | exact HB.out | apply below_alloc | apply pw_below_drewN | apply below_drew1 | refine below_set ?_ (IsS76.ge HI105.out) | refine below_set ?_ GE101.out | refine below_set ?_ GE112.out) | exact HB.out))
     rintro e w17 ⟨rfl, hi, hb, hk⟩
     refine ⟨_, rfl, ?_⟩
     replace BK101 := bkk_ BK101 hk NB101_105
     replace BK112 := bkk_ BK112 hk NB112_105
     replace HI105 := Aside0.mk (hi)
     replace HB := Aside0.mk (hb)
     (try clear hb)
     (try clear hb2)
     (try clear hk)
     (try clear hi)
     refine hK.out _ _ ⟨v117, adz_v117, m7_, (by rw [ha.out]; exact putSel_upk 1 hb_ rfl rfl rfl), fun _ => bk, bk, fun h0_ => absurd ((up_self b 2).symm.trans h0_) (by decide), (by repeat (first | (with_reducible first | exact HB.out | apply below_alloc | apply pw_below_drewN | apply below_drew1 | refine below_set ?_ (IsS76.ge HI105.out) | refine below_set ?_ GE101.out | refine below_set ?_ GE112.out) | exact HB.out)), fun _ _ => (by repeat (first | (with_reducible first | exact HI105.out | apply IsS76.alloc | apply IsS76.drewN | apply IsS76.drew | apply IsS76.set_1 | apply IsS76.set_2 | refine IsS76.far ?_ NB105_101.out _ | refine IsS76.far ?_ NB105_112.out _) | exact HI105.out)), fun h0_ => absurd ((hoff 4 (by kernel_rfl)).symm.trans h0_) (by decide), fun h0_ => absurd ((hoff 4 (by kernel_rfl)).symm.trans h0_) (by decide), fun h0_ => absurd ((hoff 6 (by kernel_rfl)).symm.trans h0_) (by decide), fun h0_ => absurd ((hoff 9 (by kernel_rfl)).symm.trans h0_) (by decide), fun h0_ => absurd ((hoff 7 (by kernel_rfl)).symm.trans h0_) (by decide)⟩
    refine steps_cons ?_ ?_
    ·
     rintro b a w' ⟨v117, adz_v117, m7_, ha, Q_BK101, Q_BK112, Q_HI105, Q_HB, Q_HI105_e2, Q_HO118, Q_HA_HO118, Q_HI105_e6, Q_BK101_e9, Q_X7_⟩ hb_ hon hoff
     refine ⟨_, rfl, fun K hK => ?_⟩
     have e12 : a.tmps[12]? = some (.int .i64 t113) := by rw [ha]; exact putSel_on (e := (2, 12, .int .i64 t113)) 1 rfl rfl (hon 2 (by kernel_rfl)) rfl
     replace ha := Aside0.mk ha
     have BK112 := Aside0.mk Q_BK112
     have HB := Aside0.mk Q_HB
     refine value_ (w1 := w') (v := .int .u8 ((t113) % 256)) (by rfl) rfl ?_ ?_
     ·
      go_simp
      (try simp only [i64_w])
      try rfl
     refine hK.out _ _ ⟨v117, adz_v117, m7_, (by rw [ha.out]; exact putSel_upk 2 hb_ rfl rfl rfl), Q_BK101, Q_BK112, fun h0_ => absurd ((hon 2 (by kernel_rfl)).symm.trans h0_) (by decide), Q_HB, Q_HI105_e2, fun h0_ => absurd ((hoff 4 (by kernel_rfl)).symm.trans h0_) (by decide), fun h0_ => absurd ((hoff 4 (by kernel_rfl)).symm.trans h0_) (by decide), Q_HI105_e6, Q_BK101_e9, fun h0_ => absurd ((hoff 7 (by kernel_rfl)).symm.trans h0_) (by decide)⟩
    refine steps_cons ?_ ?_
    ·
     rintro b a w' ⟨v117, adz_v117, m7_, ha, Q_BK101, Q_BK112, Q_HI105, Q_HB, Q_HI105_e2, Q_HO118, Q_HA_HO118, Q_HI105_e6, Q_BK101_e9, Q_X7_⟩ hb_ hon hoff
     refine ⟨_, rfl, fun K hK => ?_⟩
     have e13 : a.tmps[13]? = some (.int .u8 ((t113) % 256)) := by rw [ha]; exact putSel_on (e := (3, 13, .int .u8 ((t113) % 256))) 2 rfl rfl (hon 3 (by kernel_rfl)) rfl
     replace ha := Aside0.mk ha
     have BK112 := Aside0.mk Q_BK112
     have HB := Aside0.mk Q_HB
     refine Kd.R_lit_step (Kd.int .u8) _ 5 ?hg (N := 14) ?hd (xs := ([13, 10, 48, 97, 70, 120, (t113) % 256] : List Int)) (inner := [.int .u8 13, .int .u8 10, .int .u8 48, .int .u8 97, .int .u8 70, .int .u8 120, .int .u8 ((t113) % 256)]) (ok := fun _ => True) (okp := fun _ => True) ?hr ?hp (fun _ hk => hk) trivial (Below.refl _ _) (Nat.le_refl _) (by simp) ?_; (case hd => rfl); (case hg => rfl); (case hr => first | (go_simp; done) | (go_simp; rfl)); (case hp => exact (Reps.one (show Kd.M (Kd.int .u8) _ _ _ 13 [.int .u8 13] from rfl) (Reps.one (show Kd.M (Kd.int .u8) _ _ _ 10 [.int .u8 10] from rfl) (Reps.one (show Kd.M (Kd.int .u8) _ _ _ 48 [.int .u8 48] from rfl) (Reps.one (show Kd.M (Kd.int .u8) _ _ _ 97 [.int .u8 97] from rfl) (Reps.one (show Kd.M (Kd.int .u8) _ _ _ 70 [.int .u8 70] from rfl) (Reps.one (show Kd.M (Kd.int .u8) _ _ _ 120 [.int .u8 120] from rfl) (Reps.one (show Kd.M (Kd.int .u8) _ _ _ ((t113) % 256) [.int .u8 ((t113) % 256)] from rfl) (Reps.none _ _)))))))))
     intro v117 w19 ho20 hb hg_ hnew_
     clear hg_ hnew_
     (first | rw [← Ny116.out] at ho20 | (simp only [Int.reduceToNat] at ho20; rw [← Ny116.out] at ho20))
     have n0_ := Aside0.mk (Kd.R_lower ho20 (below_size bh))
     have n3_ := Aside0.mk (blk_below (g := gb112) (o := .cells #[.int .i64 t106, .int .i64 t107, .string t108, .string t109] 35 (0, 0)) bk hb)
     have n4_ := Aside0.mk (below_step bh hb)
     have z_BK101 := fun (h0_ : b 9 = false) => (show w19.heap[gb101]? = some (.cells #[.int .i64 0, .int .i64 0, .string (⟨#[]⟩ : ByteArray), .string (⟨#[]⟩ : ByteArray)] 35 (0, 0)) from by first | exact (blk_below (g := gb101) (o := .cells #[.int .i64 0, .int .i64 0, .string (⟨#[]⟩ : ByteArray), .string (⟨#[]⟩ : ByteArray)] 35 (0, 0)) (by (with_reducible repeat (first | refine blk_drewN ?_ _ | refine blk_drew ?_ | refine blk_alloc ?_ _)); exact (Q_BK101 h0_)) hb))
     have z_HI105_e2 := fun (h0_ : b 2 = true) (h1_ : b 6 = false) => (show IsS76 w w19 g105 t102 t114 t115 from by first | exact (IsS76.below (by repeat (first | (with_reducible first | exact (Q_HI105_e2 h0_ h1_) | apply IsS76.alloc | apply IsS76.drewN | apply IsS76.drew | apply IsS76.set_1 | apply IsS76.set_2 | refine IsS76.far ?_ NB105_101.out _ | refine IsS76.far ?_ NB105_112.out _) | exact (Q_HI105_e2 h0_ h1_))) hb))
     have z_HI105_e6 := fun (h0_ : b 6 = true) => (show IsS76 w w19 g105 t102 t120 t121 from by first | exact (IsS76.below (by repeat (first | (with_reducible first | exact (Q_HI105_e6 h0_) | apply IsS76.alloc | apply IsS76.drewN | apply IsS76.drew | apply IsS76.set_1 | apply IsS76.set_2 | refine IsS76.far ?_ NB105_101.out _ | refine IsS76.far ?_ NB105_112.out _) | exact (Q_HI105_e6 h0_))) hb))
     have z_BK101_e9 := fun (h0_ : b 9 = true) => (show w19.heap[gb101]? = some (.cells #[.int .i64 t106, .int .i64 t107, .string t108, .string t109] 35 (0, 0)) from by first | exact (blk_below (g := gb101) (o := .cells #[.int .i64 t106, .int .i64 t107, .string t108, .string t109] 35 (0, 0)) (by (with_reducible repeat (first | refine blk_drewN ?_ _ | refine blk_drew ?_ | refine blk_alloc ?_ _)); exact (Q_BK101_e9 h0_)) hb))
     clear BK112
     clear HB
     have HO118 := n0_
     have BK112 := n3_
     have HB := n4_
     clear n0_ n3_ n4_
     clear hb ho20
     obtain ⟨Ao21, co21, eo21⟩ := Kd.R_slice HO118.out
     subst eo21
     obtain ⟨ado21, fo21, _⟩ := Kd.at_int (Kd.R_reads' HO118.out).2.2 0 (by decide) (by rw [Ny116.out]; simp)
     cases fo21
     refine hK.out _ _ ⟨.slice (some ado21) y116.length co21, ado21, m7_, (by rw [ha.out]; exact putSel_upk 3 hb_ rfl rfl rfl), z_BK101, bk, fun h0_ => absurd ((hon 2 (by kernel_rfl)).symm.trans h0_) (by decide), bh, z_HI105_e2, fun _ => (by (with_reducible repeat (first | apply Kd.R_alloc | apply Kd.R_drewN | apply Kd.R_drew)); exact HO118.out), fun _ => ⟨_, rfl⟩, z_HI105_e6, z_BK101_e9, fun h0_ => absurd ((hoff 7 (by kernel_rfl)).symm.trans h0_) (by decide)⟩
    refine steps_cons ?_ ?_
    ·
     rintro b a w' ⟨v117, adz_v117, m7_, ha, Q_BK101, Q_BK112, Q_HI105, Q_HB, Q_HI105_e2, Q_HO118, Q_HA_HO118, Q_HI105_e6, Q_BK101_e9, Q_X7_⟩ hb_ hon hoff
     refine ⟨_, rfl, fun K hK => ?_⟩
     have e15 : a.tmps[15]? = some (.pointer (some ⟨g105, 0, none⟩)) := by rw [ha]; exact (putSel_off rfl).trans rfl
     replace ha := Aside0.mk ha
     have BK101 := Aside0.mk (Q_BK101 (hoff 9 (by kernel_rfl)))
     have BK112 := Aside0.mk Q_BK112
     have HB := Aside0.mk Q_HB
     have HI105 := Aside0.mk (Q_HI105_e2 (hon 2 (by kernel_rfl)) hb_)
     refine goes_ Tryd.func36 (by kernel_rfl) rfl #[.pointer (some ⟨g105, 0, none⟩), .int .i64 7] (by rfl) rfl rfl (by first | (simp only [List.map_toArray, List.map_cons, List.map_nil, Act.eval, Array.getD_eq_getD_getElem?, Option.getD_some, e15]; done) | (simp only [List.map_toArray, List.map_cons, List.map_nil, Act.eval, Array.getD_eq_getD_getElem?, Option.getD_some, e15]; rfl)) ?_
     with_reducible refine (spec_l1Below.calls g105 t102 t114 t115 7 t119 t120 t121 w _ ?side1 ?side2 A5.out).mono ?_
     (case side1 => repeat (first | (with_reducible first | exact HI105.out | apply IsS76.alloc | apply IsS76.drewN | apply IsS76.drew | apply IsS76.set_1 | apply IsS76.set_2 | refine IsS76.far ?_ NB105_101.out _ | refine IsS76.far ?_ NB105_112.out _) | exact HI105.out))
     (case side2 => repeat (first | (with_reducible first | exact HB.out | apply below_alloc | apply pw_below_drewN | apply below_drew1 | refine below_set ?_ (IsS76.ge HI105.out) | refine below_set ?_ GE101.out | refine below_set ?_ GE112.out) | exact HB.out))
     rintro e w19 ⟨rfl, hi, hb, hk⟩
     refine ⟨_, rfl, ?_⟩
     have n0_ := Aside0.mk (KeepBut.blk hk (g' := gb101) (o := .cells #[.int .i64 0, .int .i64 0, .string (⟨#[]⟩ : ByteArray), .string (⟨#[]⟩ : ByteArray)] 35 (0, 0)) bk NB101_105.out (by simp))
     have n1_ := Aside0.mk (KeepBut.blk hk (g' := gb112) (o := .cells #[.int .i64 t106, .int .i64 t107, .string t108, .string t109] 35 (0, 0)) bk NB112_105.out (by simp))
     have n2_ := Aside0.mk (hb)
     have n3_ := Aside0.mk (hi)
     have z_HO118 := fun (h0_ : b 4 = true) => (show Kd.R (Kd.int .u8) 5 w19 w.heap.size (fun _ => True) v117 y116 from by first | exact (Kd.R_mono (Kd.R_keep (IsS76.apart (show IsS76 w _ g105 t102 t114 t115 from by repeat (first | (with_reducible first | exact HI105.out | apply IsS76.alloc | apply IsS76.drewN | apply IsS76.drew | apply IsS76.set_1 | apply IsS76.set_2 | refine IsS76.far ?_ NB105_101.out _ | refine IsS76.far ?_ NB105_112.out _) | exact HI105.out)) (by (with_reducible repeat (first | apply Kd.R_alloc | apply Kd.R_drewN | apply Kd.R_drew)); exact (Q_HO118 h0_)) (by decide)) hk (fun _ h => h.2)) (fun _ h => h.1)) | exact Kd.R_mono (Kd.R_mono (Kd.R_keep (IsS76.apart (show IsS76 w _ g105 t102 t114 t115 from by repeat (first | (with_reducible first | exact HI105.out | apply IsS76.alloc | apply IsS76.drewN | apply IsS76.drew | apply IsS76.set_1 | apply IsS76.set_2 | refine IsS76.far ?_ NB105_101.out _ | refine IsS76.far ?_ NB105_112.out _) | exact HI105.out)) (by (with_reducible repeat (first | apply Kd.R_alloc | apply Kd.R_drewN | apply Kd.R_drew)); exact (Q_HO118 h0_)) (by decide)) hk (fun _ h => h.2)) (fun _ h => h.1)) (fun _ h_ => by first | trivial | exact h_ | exact h_.1))
     clear BK101
     clear BK112
     clear HB
     clear HI105
     have BK101 := n0_
     have BK112 := n1_
     have HB := n2_
     have HI105 := n3_
     clear n0_ n1_ n2_ n3_
     (try clear hb)
     (try clear hb2)
     (try clear hk)
     (try clear hi)
     refine hK.out _ _ ⟨v117, adz_v117, m7_, (by rw [ha.out]; exact putSel_upk 4 hb_ rfl rfl rfl), fun _ => bk, bk, fun h0_ => absurd ((hon 2 (by kernel_rfl)).symm.trans h0_) (by decide), (by repeat (first | (with_reducible first | exact HB.out | apply below_alloc | apply pw_below_drewN | apply below_drew1 | refine below_set ?_ (IsS76.ge HI105.out) | refine below_set ?_ GE101.out | refine below_set ?_ GE112.out) | exact HB.out)), fun _ h1_ => absurd ((up_self b 6).symm.trans h1_) (by decide), z_HO118, Q_HA_HO118, fun _ => (by repeat (first | (with_reducible first | exact HI105.out | apply IsS76.alloc | apply IsS76.drewN | apply IsS76.drew | apply IsS76.set_1 | apply IsS76.set_2 | refine IsS76.far ?_ NB105_101.out _ | refine IsS76.far ?_ NB105_112.out _) | exact HI105.out)), fun h0_ => absurd ((hoff 9 (by kernel_rfl)).symm.trans h0_) (by decide), fun h0_ => absurd ((hoff 7 (by kernel_rfl)).symm.trans h0_) (by decide)⟩
    refine steps_cons ?_ ?_
    ·
     rintro b a w' ⟨v117, adz_v117, m7_, ha, Q_BK101, Q_BK112, Q_HI105, Q_HB, Q_HI105_e2, Q_HO118, Q_HA_HO118, Q_HI105_e6, Q_BK101_e9, Q_X7_⟩ hb_ hon hoff
     refine ⟨_, rfl, fun K hK => ?_⟩
     have e14 : a.tmps[14]? = some (v117) := by rw [ha]; exact putSel_on (e := (4, 14, v117)) 3 rfl rfl (hon 4 (by kernel_rfl)) rfl
     have e16 : a.tmps[16]? = some (.int .i64 t119) := by rw [ha]; exact putSel_on (e := (6, 16, .int .i64 t119)) 4 rfl rfl (hon 6 (by kernel_rfl)) rfl
     replace ha := Aside0.mk ha
     have BK112 := Aside0.mk Q_BK112
     have HB := Aside0.mk Q_HB
     have HO118 := Aside0.mk (Q_HO118 (hon 4 (by kernel_rfl)))
     have HA_HO118 := Aside0.mk (Q_HA_HO118 (hon 4 (by kernel_rfl)))
     have HI105 := Aside0.mk (Q_HI105_e6 (hon 6 (by kernel_rfl)))
     obtain ⟨c_, hv_⟩ := HA_HO118.out
     rw [hv_] at e14
     refine value_ (w1 := w') (v := .pointer (some (adz_v117.add (t119).toNat))) (by rfl) rfl ?_ ?_
     ·
      go_simp
      (try simp only [i64_w])
      try rfl
     refine hK.out _ _ ⟨v117, adz_v117, (.pointer (some (adz_v117.add (t119).toNat))), (by rw [ha.out]; exact putSel_upk 5 hb_ rfl rfl rfl), Q_BK101, Q_BK112, fun h0_ => absurd ((hon 2 (by kernel_rfl)).symm.trans h0_) (by decide), Q_HB, fun _ h1_ => absurd ((hon 6 (by kernel_rfl)).symm.trans h1_) (by decide), Q_HO118, Q_HA_HO118, Q_HI105_e6, Q_BK101_e9, fun _ => rfl⟩
    refine steps_cons ?_ ?_
    ·
     rintro b a w' ⟨v117, adz_v117, m7_, ha, Q_BK101, Q_BK112, Q_HI105, Q_HB, Q_HI105_e2, Q_HO118, Q_HA_HO118, Q_HI105_e6, Q_BK101_e9, Q_X7_⟩ hb_ hon hoff
     refine ⟨_, rfl, fun K hK => ?_⟩
     have e17 : a.tmps[17]? = some (m7_) := by rw [ha]; exact putSel_on (e := (7, 17, m7_)) 5 rfl rfl (hon 7 (by kernel_rfl)) rfl
     rw [Q_X7_ (hon 7 (by kernel_rfl))] at e17
     replace ha := Aside0.mk ha
     have BK112 := Aside0.mk Q_BK112
     have HB := Aside0.mk Q_HB
     have HO118 := Aside0.mk (Q_HO118 (hon 4 (by kernel_rfl)))
     have HA_HO118 := Aside0.mk (Q_HA_HO118 (hon 4 (by kernel_rfl)))
     have HI105 := Aside0.mk (Q_HI105_e6 (hon 6 (by kernel_rfl)))
     obtain ⟨c_, hv_⟩ := HA_HO118.out
     have hF_ := HO118.out
     rw [hv_] at hF_
     obtain ⟨ad_, ea_, hx_⟩ := Kd.at_int (Kd.R_reads' hF_).2.2 t119 (of_eq_true pi122) (of_eq_true qi122)
     cases ea_
     refine value_ (w1 := w') (v := .int .u8 (rd y116 t119)) (by rfl) rfl ?_ ?_
     ·
      go_simp
      (try simp only [i64_w])
      try rfl
     refine hK.out _ _ ⟨v117, adz_v117, m7_, (by rw [ha.out]; exact putSel_upk 6 hb_ rfl rfl rfl), Q_BK101, Q_BK112, fun h0_ => absurd ((hon 2 (by kernel_rfl)).symm.trans h0_) (by decide), Q_HB, fun _ h1_ => absurd ((hon 6 (by kernel_rfl)).symm.trans h1_) (by decide), Q_HO118, Q_HA_HO118, Q_HI105_e6, Q_BK101_e9, Q_X7_⟩
    refine steps_cons ?_ ?_
    ·
     rintro b a w' ⟨v117, adz_v117, m7_, ha, Q_BK101, Q_BK112, Q_HI105, Q_HB, Q_HI105_e2, Q_HO118, Q_HA_HO118, Q_HI105_e6, Q_BK101_e9, Q_X7_⟩ hb_ hon hoff
     refine ⟨_, rfl, fun K hK => ?_⟩
     have e2 : a.tmps[2]? = some (.pointer (some ⟨gb101, 0, none⟩)) := by rw [ha]; exact (putSel_off rfl).trans rfl
     have e10 : a.tmps[10]? = some (.agg #[.int .i64 t106, .int .i64 t107, .string t108, .string t109]) := by rw [ha]; exact putSel_on (e := (0, 10, .agg #[.int .i64 t106, .int .i64 t107, .string t108, .string t109])) 0 rfl rfl (hon 0 (by kernel_rfl)) rfl
     replace ha := Aside0.mk ha
     have BK101 := Aside0.mk (Q_BK101 hb_)
     have BK112 := Aside0.mk Q_BK112
     have HB := Aside0.mk Q_HB
     have HI105 := Aside0.mk (Q_HI105_e6 (hon 6 (by kernel_rfl)))
     have hs20 : w'.cell? ⟨gb101, 0, none⟩ = some (.int .i64 0) := bc BK101 0
     have hfs20 := blk_frozen BK101.out 0
     have hns20_1 := NB112_101.out
     have hms20_1 := NB101_112.out
     have hs21 : w'.cell? ⟨gb101, 1, none⟩ = some (.int .i64 0) := bc BK101 1
     have hfs21 := blk_frozen BK101.out 1
     have hns21_1 := NB112_101.out
     have hms21_1 := NB101_112.out
     have hs22 : w'.cell? ⟨gb101, 2, none⟩ = some (.string (⟨#[]⟩ : ByteArray)) := bc BK101 2
     have hfs22 := blk_frozen BK101.out 2
     have hns22_1 := NB112_101.out
     have hms22_1 := NB101_112.out
     have hs23 : w'.cell? ⟨gb101, 3, none⟩ = some (.string (⟨#[]⟩ : ByteArray)) := bc BK101 3
     have hfs23 := blk_frozen BK101.out 3
     have hns23_1 := NB112_101.out
     have hms23_1 := NB101_112.out
     refine skip_ (w1 := ?_) (by rfl) rfl ?_ ?_
     rotate_left
     ·
      go_simp
      rfl
     refine hK.out _ _ ⟨v117, adz_v117, m7_, (by rw [ha.out]; exact putSel_none (v := undef) rfl), fun h0_ => absurd ((up_self b 9).symm.trans h0_) (by decide), bkp, fun h0_ => absurd ((hon 2 (by kernel_rfl)).symm.trans h0_) (by decide), (by repeat (first | (with_reducible first | exact HB.out | apply below_alloc | apply pw_below_drewN | apply below_drew1 | refine below_set ?_ (IsS76.ge HI105.out) | refine below_set ?_ GE101.out | refine below_set ?_ GE112.out) | exact HB.out)), fun _ h1_ => absurd ((hon 6 (by kernel_rfl)).symm.trans h1_) (by decide), fun h0_ => (by (with_reducible repeat (first | apply Kd.R_alloc | apply Kd.R_drewN | apply Kd.R_drew)); exact Kd.R_mono (Kd.R_far (p := ⟨gb101, 3, none⟩) (Kd.R_far (p := ⟨gb101, 2, none⟩) (Kd.R_far (p := ⟨gb101, 1, none⟩) (Kd.R_far (p := ⟨gb101, 0, none⟩) (Kd.R_types (Q_HO118 h0_) BK101.out (by decide)) (fun _ hk => hk.2) (.int .i64 t106)) (fun _ hk => hk.2) (.int .i64 t107)) (fun _ hk => hk.2) (.string t108)) (fun _ hk => hk.2) (.string t109)) (fun _ hk => trivial)), Q_HA_HO118, fun _ => (by repeat (first | (with_reducible first | exact HI105.out | apply IsS76.alloc | apply IsS76.drewN | apply IsS76.drew | apply IsS76.set_1 | apply IsS76.set_2 | refine IsS76.far ?_ NB105_101.out _ | refine IsS76.far ?_ NB105_112.out _) | exact HI105.out)), fun _ => bkp, Q_X7_⟩
    refine steps_cons ?_ ?_
    ·
     rintro b a w' ⟨v117, adz_v117, m7_, ha, Q_BK101, Q_BK112, Q_HI105, Q_HB, Q_HI105_e2, Q_HO118, Q_HA_HO118, Q_HI105_e6, Q_BK101_e9, Q_X7_⟩ hb_ hon hoff
     refine ⟨_, rfl, fun K hK => ?_⟩
     have e18 : a.tmps[18]? = some (.int .u8 (rd y116 t119)) := by rw [ha]; exact putSel_on (e := (8, 18, .int .u8 (rd y116 t119))) 6 rfl rfl (hon 8 (by kernel_rfl)) rfl
     replace ha := Aside0.mk ha
     have BK112 := Aside0.mk Q_BK112
     have HB := Aside0.mk Q_HB
     have HO118 := Aside0.mk (Q_HO118 (hon 4 (by kernel_rfl)))
     have HA_HO118 := Aside0.mk (Q_HA_HO118 (hon 4 (by kernel_rfl)))
     have HI105 := Aside0.mk (Q_HI105_e6 (hon 6 (by kernel_rfl)))
     have BK101 := Aside0.mk (Q_BK101_e9 (hon 9 (by kernel_rfl)))
     refine value_ (w1 := w') (v := .int .u8 (rd y116 t119)) (by rfl) rfl ?_ ?_
     ·
      go_simp
      (try simp only [i64_w])
      try rfl
     refine hK.out _ _ ⟨v117, adz_v117, m7_, (by rw [ha.out]; exact putSel_upk 7 hb_ rfl rfl rfl), fun h0_ => absurd ((hon 9 (by kernel_rfl)).symm.trans h0_) (by decide), Q_BK112, fun h0_ => absurd ((hon 2 (by kernel_rfl)).symm.trans h0_) (by decide), Q_HB, fun _ h1_ => absurd ((hon 6 (by kernel_rfl)).symm.trans h1_) (by decide), Q_HO118, Q_HA_HO118, Q_HI105_e6, Q_BK101_e9, Q_X7_⟩
    exact steps_nil
   rintro b a w26 hall ⟨v117, adz_v117, m7_, ha, Q_BK101, Q_BK112, Q_HI105, Q_HB, Q_HI105_e2, Q_HO118, Q_HA_HO118, Q_HI105_e6, Q_BK101_e9, Q_X7_⟩
   clear BK101 BK112 HB HI105
   have hb0_ := hall 0 (by kernel_rfl)
   have hb2_ := hall 2 (by kernel_rfl)
   have hb3_ := hall 3 (by kernel_rfl)
   have hb4_ := hall 4 (by kernel_rfl)
   have hb6_ := hall 6 (by kernel_rfl)
   have hb7_ := hall 7 (by kernel_rfl)
   have hb8_ := hall 8 (by kernel_rfl)
   have hb9_ := hall 9 (by kernel_rfl)
   have hb10_ := hall 10 (by kernel_rfl)
   subst ha
   obtain rfl := Q_X7_ hb7_
   simp only [putSel, hb0_, hb2_, hb3_, hb4_, hb6_, hb7_, hb8_, hb9_, hb10_, if_true, Act.put, List.setIfInBounds_toArray, List.set_cons_zero, List.set_cons_succ]
   clear Q_BK101
   have BK112 := Aside0.mk Q_BK112
   clear Q_BK112
   clear Q_HI105
   have HB := Aside0.mk Q_HB
   clear Q_HB
   clear Q_HI105_e2
   have HO118 := Aside0.mk (Q_HO118 hb4_)
   clear Q_HO118
   have HA_HO118 := Aside0.mk (Q_HA_HO118 hb4_)
   clear Q_HA_HO118
   have HI105 := Aside0.mk (Q_HI105_e6 hb6_)
   clear Q_HI105_e6
   have BK101 := Aside0.mk (Q_BK101_e9 hb9_)
   clear Q_BK101_e9
   clear hall hb0_ hb2_ hb3_ hb4_ hb6_ hb7_ hb8_ hb9_ hb10_
   obtain ⟨co27, eo27⟩ := HA_HO118.out
   clear HA_HO118
   subst eo27
   try go_wp2
   refine bodyPost_ret (results_ct rfl _ _ gb101 35 #[.int .i64 t106, .int .i64 t107, .string t108, .string t109] (0, 0) _ rfl bk Tryd.underlying35 rfl (by kernel_rfl)) rfl ?_
   exact ⟨er, by repeat (first | (with_reducible first | exact HB.out | apply below_alloc | apply pw_below_drewN | apply below_drew1 | refine below_set ?_ (IsS76.ge HI105.out) | refine below_set ?_ GE101.out | refine below_set ?_ GE112.out) | exact HB.out)⟩
  ·
   rw [if_neg c7] at H
   exact absurd H (by simp)
 ·
  rw [if_neg c6] at H
  exact absurd H (by simp)

end Go.Proofs.YtfbgpjhnjdhpcaaDoor.P
