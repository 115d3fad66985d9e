/- Functions of the Go program as Lean functions, and proofs that each Go function comes to its Lean function's answers; conditions: those that each theorem states. Written by this session's program hprint.py, which drives the kit's printer. -/
import Derived.Test.YtfbgpjhnjdhpcaaDoorP0
import Derived.Test.YtfbgpjhnjdhpcaaDoorPspecl1Hex
import Derived.Test.YtfbgpjhnjdhpcaaDoorPspecl1In
import Derived.Test.YtfbgpjhnjdhpcaaDoorXA
import Derived.Test.YtfbgpjhnjdhpcaaDoorXW
namespace Go.Proofs.YtfbgpjhnjdhpcaaDoor.P
open Go.RowKit Go.Proofs.YtfbgpjhnjdhpcaaDoorW.PrintWords Go.Proofs.YtfbgpjhnjdhpcaaDoorW.PrintLast Go.Proofs.YtfbgpjhnjdhpcaaDoorW.PrintMore
attribute [local go_sem] max2_int min2_int max_two min_two max_three min_three max_four min_four   -- for this text's walks alone
set_option linter.unusedVariables false
set_option linter.unusedSimpArgs false

/-! ### spec_ChunkerOk: function 30 -/
mutual
def spec_ChunkerOk.j0 : Nat → Bool → Int → Int → ByteArray → ByteArray → Option (Bool)
 | 0, _, _, _, _, _ => none
 | k + 1, x28, x102000, x102001, x102002, x102003 => if x28 = true then (some false) else (spec_ChunkerOk.l0 k 0 x102000 x102001 x102002 x102003)
def spec_ChunkerOk.l0 : Nat → Int → Int → Int → ByteArray → ByteArray → Option (Bool)
 | 0, _, _, _, _, _ => none
 | k + 1, x3, x102000, x102001, x102002, x102003 => if x3 < (x102002.size : Int) then (if 0 ≤ x3 then ((spec_l1Hex.f k (bt x102002 x3)).bind fun t104 => (if t104 < 0 then (some false) else (spec_ChunkerOk.l0 k (wrap64 (x3 + 1)) x102000 x102001 x102002 x102003))) else (none)) else (if x102000 = 1 then (some (x102001 == 0)) else (if x102000 = 2 then (some (x102002.toList == ([] : List UInt8))) else (if x102000 = 3 then (if x102002.toList = ([] : List UInt8) then (some (decide (x102001 > 0))) else (some false)) else (if x102001 = 0 then (some (x102002.toList == ([] : List UInt8))) else (some false)))))
end
def spec_ChunkerOk.f (k : Nat) (a0_0 : Int) (a0_1 : Int) (a0_2 : ByteArray) (a0_3 : ByteArray) : Option (Bool) := (spec_l1In.f a0_0 1 9).bind fun t102 => (if t102 = true then ((spec_l1In.f a0_1 0 4000).bind fun t103 => (if t103 = true then (if (a0_2.size : Int) > 13 then (spec_ChunkerOk.j0 k true a0_0 a0_1 a0_2 a0_3) else (spec_ChunkerOk.j0 k (decide ((wrap64 ((a0_3.size : Int) + a0_1)) > 4000)) a0_0 a0_1 a0_2 a0_3)) else (spec_ChunkerOk.j0 k true a0_0 a0_1 a0_2 a0_3))) else (spec_ChunkerOk.j0 k true a0_0 a0_1 a0_2 a0_3))
theorem spec_ChunkerOk.mono_l : ∀ k, (∀ y0 y1 y2 y3 y4, LeO (spec_ChunkerOk.j0 k y0 y1 y2 y3 y4) (spec_ChunkerOk.j0 (k + 1) y0 y1 y2 y3 y4)) ∧ (∀ y0 y1 y2 y3 y4, LeO (spec_ChunkerOk.l0 k y0 y1 y2 y3 y4) (spec_ChunkerOk.l0 (k + 1) y0 y1 y2 y3 y4))
 | 0 => ⟨fun _ _ _ _ _ r h => by simp [spec_ChunkerOk.j0] at h, fun _ _ _ _ _ r h => by simp [spec_ChunkerOk.l0] at h⟩
 | k + 1 => by
  obtain ⟨ih0, ih1⟩ := spec_ChunkerOk.mono_l k
  refine ⟨?_, ?_⟩
  ·
   intro y0 y1 y2 y3 y4
   unfold spec_ChunkerOk.j0
   repeat' first
   | (with_reducible exact ih0 _ _ _ _ _)
   | (with_reducible exact ih1 _ _ _ _ _)
   | (with_reducible exact spec_l1Hex.mono _ _)
   | (with_reducible exact LeO.refl _)
   | (with_reducible exact LeO.none _)
   | (with_reducible refine LeO.ite ?_ ?_)
   | (with_reducible refine LeO.bind ?_ (fun _ => ?_))
   | exact ih0 _ _ _ _ _
   | exact ih1 _ _ _ _ _
   | exact spec_l1Hex.mono _ _
   | exact LeO.none _
   | refine LeO.ite ?_ ?_
   | refine LeO.bind ?_ (fun _ => ?_)
  ·
   intro y0 y1 y2 y3 y4
   unfold spec_ChunkerOk.l0
   repeat' first
   | (with_reducible exact ih0 _ _ _ _ _)
   | (with_reducible exact ih1 _ _ _ _ _)
   | (with_reducible exact spec_l1Hex.mono _ _)
   | (with_reducible exact LeO.refl _)
   | (with_reducible exact LeO.none _)
   | (with_reducible refine LeO.ite ?_ ?_)
   | (with_reducible refine LeO.bind ?_ (fun _ => ?_))
   | exact ih0 _ _ _ _ _
   | exact ih1 _ _ _ _ _
   | exact spec_l1Hex.mono _ _
   | exact LeO.none _
   | refine LeO.ite ?_ ?_
   | refine LeO.bind ?_ (fun _ => ?_)
theorem spec_ChunkerOk.mono : ∀ a0 a1 a2 a3 k, LeO (spec_ChunkerOk.f k a0 a1 a2 a3) (spec_ChunkerOk.f (k + 1) a0 a1 a2 a3) := by
 intro a0 a1 a2 a3 k
 obtain ⟨ih0, ih1⟩ := spec_ChunkerOk.mono_l k
 unfold spec_ChunkerOk.f
 repeat' first
   | (with_reducible exact ih0 _ _ _ _ _)
   | (with_reducible exact ih1 _ _ _ _ _)
   | (with_reducible exact spec_l1Hex.mono _ _)
   | (with_reducible exact LeO.refl _)
   | (with_reducible exact LeO.none _)
   | (with_reducible refine LeO.ite ?_ ?_)
   | (with_reducible refine LeO.bind ?_ (fun _ => ?_))
   | exact ih0 _ _ _ _ _
   | exact ih1 _ _ _ _ _
   | exact spec_l1Hex.mono _ _
   | exact LeO.none _
   | refine LeO.ite ?_ ?_
   | refine LeO.bind ?_ (fun _ => ?_)
set_option maxHeartbeats 8000000 in
set_option maxRecDepth 100000 in
theorem spec_ChunkerOk.calls (k : Nat) (a0_0 : Int) (a0_1 : Int) (a0_2 : ByteArray) (a0_3 : ByteArray) (r : Bool) (w : World) (h : spec_ChunkerOk.f k a0_0 a0_1 a0_2 a0_3 = some r) :
  Calls Tryd.prog 30 #[.agg #[.int .i64 a0_0, .int .i64 a0_1, .string a0_2, .string a0_3]] w fun e w' => e = .returned (.bool r) ∧ Below w.heap.size w w' := by
 have hu35 := Tryd.underlying35
 have HB := Aside0.mk (Below.refl w.heap.size w)
 have H : ((spec_l1In.f a0_0 1 9).bind fun t102 => (if t102 = true then ((spec_l1In.f a0_1 0 4000).bind fun t103 => (if t103 = true then (if (a0_2.size : Int) > 13 then (spec_ChunkerOk.j0 k true a0_0 a0_1 a0_2 a0_3) else (spec_ChunkerOk.j0 k (decide ((wrap64 ((a0_3.size : Int) + a0_1)) > 4000)) a0_0 a0_1 a0_2 a0_3)) else (spec_ChunkerOk.j0 k true a0_0 a0_1 a0_2 a0_3))) else (spec_ChunkerOk.j0 k true a0_0 a0_1 a0_2 a0_3))) = some r := h
 clear h
 have HC2 := Aside0.mk H
 clear H
 go_enter Tryd.func30, Tryd.ntmps30
 go_upto_region 1 with (first | ((with_reducible refine gate_dst (N := 1) rfl ?_); (try (refine gate_guard (by rfl) ?_; dsimp only)); refine bx 1 #[.int .i64 a0_0, .int .i64 a0_1, .string a0_2, .string a0_3] 35 ?_; intro gb101 hg w3 hbox hb; have BK101 := Aside0.mk (hbox); have GW101 := Aside0.mk (bz hg); have GE101 := Aside0.mk (bz hg); replace HB := Aside0.mk (below_step bh hb); clear hb hbox hg))
 (try simp only [Act.put, List.setIfInBounds_toArray, List.set_cons_zero, List.set_cons_succ])
 go_cut [28] (fun v28 wc => ∃ (kq : Nat) (x28_1 : Bool), v28 = .bool x28_1 ∧ Aside0 (spec_ChunkerOk.j0 kq x28_1 a0_0 a0_1 a0_2 a0_3 = some r) ∧ Aside0 (kq ≤ k) ∧ Aside0 (wc.heap[gb101]? = some (.cells #[.int .i64 a0_0, .int .i64 a0_1, .string a0_2, .string a0_3] 35 (0, 0))) ∧ Aside0 (Below w.heap.size w wc))
 case first =>
  have H := HC2.out
  clear HC2
  obtain ⟨t102, A40, H⟩ := Option.bind_eq_some_iff.mp H
  try dsimp only at H
  have A4 := Aside0.mk A40
  clear A40
  by_cases c5 : t102 = true
  ·
   subst c5
   rw [if_pos rfl] at H
   obtain ⟨t103, A60, H⟩ := Option.bind_eq_some_iff.mp H
   try dsimp only at H
   have A6 := Aside0.mk A60
   clear A60
   by_cases c7 : t103 = true
   ·
    subst c7
    rw [if_pos rfl] at H
    by_cases c8 : (a0_2.size : Int) > 13
    ·
     rw [if_pos c8] at H
     have c8b0 : decide (13 < (a0_2.size : Int)) = true := decide_eq_true c8
     have c8b1 : decide (13 < a0_2.size) = true := decide_eq_true (by omega)
     clear c8
     (first | rw [c8b0] | (simp only [i64_w, i32_w]; rw [c8b0]) | skip)
     have H' := Aside0.mk H
     clear H
     obtain ⟨hcz9_0, hcz9_1, hcz9_2, hcz9_3⟩ := zcf4 BK101
     obtain ⟨hfz9_0, hfz9_1, hfz9_2, hfz9_3⟩ := zff4 BK101
     go_wp2_with (first | ((with_reducible refine gate_callee (f := 63) rfl ?_); refine goesL_ (some 6) rfl rfl Tryd.func63 (by kernel_rfl) rfl #[.int .i64 a0_0, .int .i64 1, .int .i64 9] rfl (by (try simp only [List.map_toArray, List.map_cons, List.map_nil]); first | done | rfl | (simp only [ne_nil_isEmpty]; rfl) | (simp only [List.length_drop, List.length_take]; rfl)) ?_; (with_reducible refine (spec_l1In.calls a0_0 1 9 true _ A4.out).mono ?_); rintro e w' ⟨rfl, ⟨nd, rfl⟩⟩; refine ⟨_, rfl, ?_⟩) | (go_at_call 63; (with_reducible refine (spec_l1In.calls a0_1 0 4000 true _ A6.out).mono ?_); rintro e w' ⟨rfl, ⟨nd, rfl⟩⟩))
     go_meet
     case rel => exact ⟨_, (true), (by first | rfl | (simp; done) | (simp [*]; done)), H', ⟨by first | omega | exact Nat.le_refl _⟩, ⟨bk⟩, ⟨bh⟩⟩
    ·
     rw [if_neg c8] at H
     have c8b0 : decide (13 < (a0_2.size : Int)) = false := decide_eq_false c8
     have c8b1 : decide (13 < a0_2.size) = false := decide_eq_false (by omega)
     clear c8
     (first | rw [c8b0] | (simp only [i64_w, i32_w]; rw [c8b0]) | skip)
     have H' := Aside0.mk H
     clear H
     obtain ⟨hcz10_0, hcz10_1, hcz10_2, hcz10_3⟩ := zcf4 BK101
     obtain ⟨hfz10_0, hfz10_1, hfz10_2, hfz10_3⟩ := zff4 BK101
     go_wp2_with (first | ((with_reducible refine gate_callee (f := 63) rfl ?_); refine goesL_ (some 6) rfl rfl Tryd.func63 (by kernel_rfl) rfl #[.int .i64 a0_0, .int .i64 1, .int .i64 9] rfl (by (try simp only [List.map_toArray, List.map_cons, List.map_nil]); first | done | rfl | (simp only [ne_nil_isEmpty]; rfl) | (simp only [List.length_drop, List.length_take]; rfl)) ?_; (with_reducible refine (spec_l1In.calls a0_0 1 9 true _ A4.out).mono ?_); rintro e w' ⟨rfl, ⟨nd, rfl⟩⟩; refine ⟨_, rfl, ?_⟩) | (go_at_call 63; (with_reducible refine (spec_l1In.calls a0_1 0 4000 true _ A6.out).mono ?_); rintro e w' ⟨rfl, ⟨nd, rfl⟩⟩))
     go_meet
     case rel => exact ⟨_, (decide ((wrap64 ((a0_3.size : Int) + a0_1)) > 4000)), (by first | rfl | (simp; done) | (simp [*]; done)), H', ⟨by first | omega | exact Nat.le_refl _⟩, ⟨bk⟩, ⟨bh⟩⟩
   ·
    replace c7 := Bool.eq_false_iff.mpr c7
    subst c7
    have H1 : (spec_ChunkerOk.j0 k true a0_0 a0_1 a0_2 a0_3) = some r := by rw [if_neg (show ¬ (false = true) by decide)] at H; exact H
    clear H
    have H := H1
    clear H1
    have H' := Aside0.mk H
    clear H
    obtain ⟨hcz11_0, hcz11_1, hcz11_2, hcz11_3⟩ := zcf4 BK101
    obtain ⟨hfz11_0, hfz11_1, hfz11_2, hfz11_3⟩ := zff4 BK101
    go_wp2_with (first | ((with_reducible refine gate_callee (f := 63) rfl ?_); refine goesL_ (some 6) rfl rfl Tryd.func63 (by kernel_rfl) rfl #[.int .i64 a0_0, .int .i64 1, .int .i64 9] rfl (by (try simp only [List.map_toArray, List.map_cons, List.map_nil]); first | done | rfl | (simp only [ne_nil_isEmpty]; rfl) | (simp only [List.length_drop, List.length_take]; rfl)) ?_; (with_reducible refine (spec_l1In.calls a0_0 1 9 true _ A4.out).mono ?_); rintro e w' ⟨rfl, ⟨nd, rfl⟩⟩; refine ⟨_, rfl, ?_⟩) | (go_at_call 63; (with_reducible refine (spec_l1In.calls a0_1 0 4000 false _ A6.out).mono ?_); rintro e w' ⟨rfl, ⟨nd, rfl⟩⟩))
    go_meet
    case rel => exact ⟨_, (true), (by first | rfl | (simp; done) | (simp [*]; done)), H', ⟨by first | omega | exact Nat.le_refl _⟩, ⟨bk⟩, ⟨bh⟩⟩
  ·
   replace c5 := Bool.eq_false_iff.mpr c5
   subst c5
   have H1 : (spec_ChunkerOk.j0 k true a0_0 a0_1 a0_2 a0_3) = some r := by rw [if_neg (show ¬ (false = true) by decide)] at H; exact H
   clear H
   have H := H1
   clear H1
   have H' := Aside0.mk H
   clear H
   obtain ⟨hcz12_0, hcz12_1, hcz12_2, hcz12_3⟩ := zcf4 BK101
   obtain ⟨hfz12_0, hfz12_1, hfz12_2, hfz12_3⟩ := zff4 BK101
   go_wp2_with (first | ((with_reducible refine gate_callee (f := 63) rfl ?_); refine goesL_ (some 6) rfl rfl Tryd.func63 (by kernel_rfl) rfl #[.int .i64 a0_0, .int .i64 1, .int .i64 9] rfl (by (try simp only [List.map_toArray, List.map_cons, List.map_nil]); first | done | rfl | (simp only [ne_nil_isEmpty]; rfl) | (simp only [List.length_drop, List.length_take]; rfl)) ?_; (with_reducible refine (spec_l1In.calls a0_0 1 9 false _ A4.out).mono ?_); rintro e w' ⟨rfl, ⟨nd, rfl⟩⟩; refine ⟨_, rfl, ?_⟩))
   go_meet
   case rel => exact ⟨_, (true), (by first | rfl | (simp; done) | (simp [*]; done)), H', ⟨by first | omega | exact Nat.le_refl _⟩, ⟨bk⟩, ⟨bh⟩⟩
 case rest =>
  clear HC2
  try clear p2
  try clear c3
  try clear c5
  try clear c6
  try clear p6
  try clear c7
  try clear c8
  try clear c8b0
  try clear c8b1
  try clear hcz10_0
  try clear hcz10_1
  try clear hcz10_2
  try clear hcz10_3
  try clear hcz11_0
  try clear hcz11_1
  try clear hcz11_2
  try clear hcz11_3
  try clear hcz12_0
  try clear hcz12_1
  try clear hcz12_2
  try clear hcz12_3
  try clear hcz9_0
  try clear hcz9_1
  try clear hcz9_2
  try clear hcz9_3
  try clear hfz10_0
  try clear hfz10_1
  try clear hfz10_2
  try clear hfz10_3
  try clear hfz11_0
  try clear hfz11_1
  try clear hfz11_2
  try clear hfz11_3
  try clear hfz12_0
  try clear hfz12_1
  try clear hfz12_2
  try clear hfz12_3
  try clear hfz9_0
  try clear hfz9_1
  try clear hfz9_2
  try clear hfz9_3
  obtain ⟨kq, x28_1, rfl, HA, HJ1, BK101, HB⟩ := hcut
  cases kq with
  | zero => exact absurd HA.out (by simp [spec_ChunkerOk.j0])
  | succ kj1 =>
   have H := HA.out
   clear HA
   simp only [spec_ChunkerOk.j0] at H
   by_cases c13 : x28_1 = true
   ·
    subst c13
    have H1 : (some false) = some r := by rw [if_pos rfl] at H; exact H
    clear H
    have H := H1
    clear H1
    obtain rfl := Option.some.inj H
    go_wp2
    go_ret
    exact ⟨er, bh⟩
   ·
    replace c13 := Bool.eq_false_iff.mpr c13
    subst c13
    have H1 : (spec_ChunkerOk.l0 kj1 0 a0_0 a0_1 a0_2 a0_3) = some r := by rw [if_neg (show ¬ (false = true) by decide)] at H; exact H
    clear H
    have H := H1
    clear H1
    have H' := Aside0.mk H
    clear H
    go_wp2
    go_loopg [3] kj1 (fun kq v3 w' => ∃ (x3_2 : Int), v3 = .int .i64 x3_2 ∧ Aside0 (spec_ChunkerOk.l0 kq x3_2 a0_0 a0_1 a0_2 a0_3 = some r) ∧ Aside0 (kq ≤ kj1) ∧ Aside0 (w'.heap[gb101]? = some (.cells #[.int .i64 a0_0, .int .i64 a0_1, .string a0_2, .string a0_3] 35 (0, 0))) ∧ Aside0 (Below w.heap.size w w'))
    case atStart => exact ⟨(0), (by first | rfl | (simp; done) | (simp [*]; done)), H', ⟨Nat.le_refl _⟩, ⟨bk⟩, ⟨bh⟩⟩
    case round =>
     clear H'
     try clear c1
     try clear p2
     try clear c3
     try clear c5
     try clear c6
     try clear p6
     try clear c7
     try clear c8
     try clear c8b0
     try clear c8b1
     try clear c13
     try clear hcz10_0
     try clear hcz10_1
     try clear hcz10_2
     try clear hcz10_3
     try clear hcz11_0
     try clear hcz11_1
     try clear hcz11_2
     try clear hcz11_3
     try clear hcz12_0
     try clear hcz12_1
     try clear hcz12_2
     try clear hcz12_3
     try clear hcz9_0
     try clear hcz9_1
     try clear hcz9_2
     try clear hcz9_3
     try clear hfz10_0
     try clear hfz10_1
     try clear hfz10_2
     try clear hfz10_3
     try clear hfz11_0
     try clear hfz11_1
     try clear hfz11_2
     try clear hfz11_3
     try clear hfz12_0
     try clear hfz12_1
     try clear hfz12_2
     try clear hfz12_3
     try clear hfz9_0
     try clear hfz9_1
     try clear hfz9_2
     try clear hfz9_3
     try clear p2
     try clear p6
     obtain ⟨x3_2, rfl, HA, HK2, BK101, HB⟩ := hrel
     cases gk with
     | zero => exact absurd HA.out (by simp [spec_ChunkerOk.l0])
     | succ k2 =>
      have H := HA.out
      clear HA
      simp only [spec_ChunkerOk.l0] at H
      by_cases c14 : x3_2 < (a0_2.size : Int)
      ·
       rw [if_pos c14] at H
       have c14b0 : decide (x3_2 < (a0_2.size : Int)) = true := decide_eq_true c14
       clear c14
       by_cases c15 : 0 ≤ x3_2
       ·
        rw [if_pos c15] at H
        have c15b0 : decide (0 ≤ x3_2) = true := decide_eq_true c15
        clear c15
        obtain ⟨t104, A170, H⟩ := Option.bind_eq_some_iff.mp H
        try dsimp only at H
        have A17 := Aside0.mk A170
        clear A170
        by_cases c18 : t104 < 0
        ·
         rw [if_pos c18] at H
         have c18b0 : decide (t104 < 0) = true := decide_eq_true c18
         clear c18
         obtain rfl := Option.some.inj H
         obtain ⟨hcz19_0, hcz19_1, hcz19_2, hcz19_3⟩ := zcf4 BK101
         obtain ⟨hfz19_0, hfz19_1, hfz19_2, hfz19_3⟩ := zff4 BK101
         have p16 : 0 ≤ (x3_2 : Int) := of_decide_eq_true (by first | (with_reducible assumption) | assumption)
         have q16 : x3_2 < (a0_2.size : Int) := of_decide_eq_true (by first | (with_reducible assumption) | assumption)
         have hx16 := bt_at a0_2 x3_2
         replace p16 := eq_true p16
         replace q16 := eq_true q16
         go_wp2_with (first | ((with_reducible refine gate_callee (f := 43) rfl ?_); refine goesL_ (some 40) rfl rfl Tryd.func43 (by kernel_rfl) rfl #[.int .u8 (bt a0_2 x3_2)] rfl (by (try simp only [List.map_toArray, List.map_cons, List.map_nil]); first | done | rfl | (simp only [ne_nil_isEmpty]; rfl) | (simp only [List.length_drop, List.length_take]; rfl)) ?_; (with_reducible refine (spec_l1Hex.calls k2 (bt a0_2 x3_2) t104 _ A17.out).mono ?_); rintro e w' ⟨rfl, ⟨nd, rfl⟩⟩; refine ⟨_, rfl, ?_⟩))
         go_ret
         exact ⟨er, bh⟩
        ·
         rw [if_neg c18] at H
         have c18b0 : decide (t104 < 0) = false := decide_eq_false c18
         clear c18
         have H' := Aside0.mk H
         clear H
         obtain ⟨hcz20_0, hcz20_1, hcz20_2, hcz20_3⟩ := zcf4 BK101
         obtain ⟨hfz20_0, hfz20_1, hfz20_2, hfz20_3⟩ := zff4 BK101
         have p16 : 0 ≤ (x3_2 : Int) := of_decide_eq_true (by first | (with_reducible assumption) | assumption)
         have q16 : x3_2 < (a0_2.size : Int) := of_decide_eq_true (by first | (with_reducible assumption) | assumption)
         have hx16 := bt_at a0_2 x3_2
         replace p16 := eq_true p16
         replace q16 := eq_true q16
         go_wp2_with (first | ((with_reducible refine gate_callee (f := 43) rfl ?_); refine goesL_ (some 40) rfl rfl Tryd.func43 (by kernel_rfl) rfl #[.int .u8 (bt a0_2 x3_2)] rfl (by (try simp only [List.map_toArray, List.map_cons, List.map_nil]); first | done | rfl | (simp only [ne_nil_isEmpty]; rfl) | (simp only [List.length_drop, List.length_take]; rfl)) ?_; (with_reducible refine (spec_l1Hex.calls k2 (bt a0_2 x3_2) t104 _ A17.out).mono ?_); rintro e w' ⟨rfl, ⟨nd, rfl⟩⟩; refine ⟨_, rfl, ?_⟩))
         go_roundg k2
         case measure => have := HJ1.out; have := HK2.out; omega
         case rel => exact ⟨(wrap64 (x3_2 + 1)), (by first | rfl | (simp; done) | (simp [*]; done)), H', ⟨by have := HJ1.out; have := HK2.out; omega⟩, ⟨bk⟩, ⟨bh⟩⟩
       ·
        rw [if_neg c15] at H
        exact absurd H (by simp)
      ·
       rw [if_neg c14] at H
       have c14b0 : decide (x3_2 < (a0_2.size : Int)) = false := decide_eq_false c14
       clear c14
       by_cases c21 : a0_0 = 1
       ·
        rw [if_pos c21] at H
        have c21b0 : (a0_0 == 1) = true := beq_iff_eq.mpr c21
        have c21b1 : (a0_0 != 1) = false := bne_eq_false_iff_eq.mpr c21
        clear c21
        obtain rfl := Option.some.inj H
        obtain ⟨hcz22_0, hcz22_1, hcz22_2, hcz22_3⟩ := zcf4 BK101
        obtain ⟨hfz22_0, hfz22_1, hfz22_2, hfz22_3⟩ := zff4 BK101
        go_wp2
        go_ret
        exact ⟨er, bh⟩
       ·
        rw [if_neg c21] at H
        have c21b0 : (a0_0 == 1) = false := beq_eq_false_iff_ne.mpr c21
        have c21b1 : (a0_0 != 1) = true := bne_iff_ne.mpr c21
        by_cases c23 : a0_0 = 2
        ·
         rw [if_pos c23] at H
         have c23b0 : (a0_0 == 2) = true := beq_iff_eq.mpr c23
         have c23b1 : (a0_0 != 2) = false := bne_eq_false_iff_eq.mpr c23
         clear c23
         obtain rfl := Option.some.inj H
         obtain ⟨hcz24_0, hcz24_1, hcz24_2, hcz24_3⟩ := zcf4 BK101
         obtain ⟨hfz24_0, hfz24_1, hfz24_2, hfz24_3⟩ := zff4 BK101
         go_wp2
         go_ret
         exact ⟨er, bh⟩
        ·
         rw [if_neg c23] at H
         have c23b0 : (a0_0 == 2) = false := beq_eq_false_iff_ne.mpr c23
         have c23b1 : (a0_0 != 2) = true := bne_iff_ne.mpr c23
         by_cases c25 : a0_0 = 3
         ·
          rw [if_pos c25] at H
          have c25b0 : (a0_0 == 3) = true := beq_iff_eq.mpr c25
          have c25b1 : (a0_0 != 3) = false := bne_eq_false_iff_eq.mpr c25
          clear c25
          by_cases c26 : a0_2.toList = ([] : List UInt8)
          ·
           rw [if_pos c26] at H
           have c26b0 : (a0_2.toList == ([] : List UInt8)) = true := beq_iff_eq.mpr c26
           have c26b1 : (a0_2.toList != ([] : List UInt8)) = false := bne_eq_false_iff_eq.mpr c26
           clear c26
           obtain rfl := Option.some.inj H
           obtain ⟨hcz27_0, hcz27_1, hcz27_2, hcz27_3⟩ := zcf4 BK101
           obtain ⟨hfz27_0, hfz27_1, hfz27_2, hfz27_3⟩ := zff4 BK101
           go_wp2
           go_ret
           exact ⟨er, bh⟩
          ·
           rw [if_neg c26] at H
           have c26b0 : (a0_2.toList == ([] : List UInt8)) = false := beq_eq_false_iff_ne.mpr c26
           have c26b1 : (a0_2.toList != ([] : List UInt8)) = true := bne_iff_ne.mpr c26
           obtain rfl := Option.some.inj H
           obtain ⟨hcz28_0, hcz28_1, hcz28_2, hcz28_3⟩ := zcf4 BK101
           obtain ⟨hfz28_0, hfz28_1, hfz28_2, hfz28_3⟩ := zff4 BK101
           go_wp2
           go_ret
           exact ⟨er, bh⟩
         ·
          rw [if_neg c25] at H
          have c25b0 : (a0_0 == 3) = false := beq_eq_false_iff_ne.mpr c25
          have c25b1 : (a0_0 != 3) = true := bne_iff_ne.mpr c25
          by_cases c29 : a0_1 = 0
          ·
           rw [if_pos c29] at H
           have c29b0 : (a0_1 == 0) = true := beq_iff_eq.mpr c29
           have c29b1 : (a0_1 != 0) = false := bne_eq_false_iff_eq.mpr c29
           clear c29
           obtain rfl := Option.some.inj H
           obtain ⟨hcz30_0, hcz30_1, hcz30_2, hcz30_3⟩ := zcf4 BK101
           obtain ⟨hfz30_0, hfz30_1, hfz30_2, hfz30_3⟩ := zff4 BK101
           go_wp2
           go_ret
           exact ⟨er, bh⟩
          ·
           rw [if_neg c29] at H
           have c29b0 : (a0_1 == 0) = false := beq_eq_false_iff_ne.mpr c29
           have c29b1 : (a0_1 != 0) = true := bne_iff_ne.mpr c29
           obtain rfl := Option.some.inj H
           obtain ⟨hcz31_0, hcz31_1, hcz31_2, hcz31_3⟩ := zcf4 BK101
           obtain ⟨hfz31_0, hfz31_1, hfz31_2, hfz31_3⟩ := zff4 BK101
           go_wp2
           go_ret
           exact ⟨er, bh⟩

end Go.Proofs.YtfbgpjhnjdhpcaaDoor.P
